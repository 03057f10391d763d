/- Part E of the proof. -/
import Derived.Sort.LotD5
import Derived.Test.YtkcljmaklingoaaGreatDoorPartA
import Derived.Test.YtkcljmaklingoaaGreatDoorPartC
import Derived.Test.YtkcljmaklingoaaGreatDoorPartD
/- code.Writer, with some objects that it surely leaves alone. -/
set_option linter.unusedVariables false
set_option linter.unusedSimpArgs false
namespace Go.Sm
open Go Go.Proofs
set_option maxRecDepth 100000
set_option maxHeartbeats 4000000
def WtK (K : Nat → Prop) (b p : Nat) (σ : CSt) (l : List UInt8) : Prop := ∃ v, σ.get p = some (.cells [v] 27 false) ∧ b ≤ p ∧ p < σ.n ∧ Own b σ 5 encY v l ∧ ∀ i, K i → i ≠ p ∧ i < σ.n ∧ objOf v ≠ some i
def FrK (K : Nat → Prop) (T : TypeId → Prop) (b : Nat) (σ σ' : CSt) : Prop := Fr T b σ σ' ∧ ∀ i, K i → i < σ.n → σ'.get i = σ.get i
theorem FrK.trans {K : Nat → Prop} {T : TypeId → Prop} {b : Nat} {s0 s1 s2 : CSt} (h : FrK K T b s0 s1) (h' : FrK K T b s1 s2) : FrK K T b s0 s2 := ⟨h.1.trans h'.1, fun i hi hn => by rw [h'.2 i hi (Nat.lt_of_lt_of_le hn h.1.1), h.2 i hi hn]⟩
theorem Grow.frK {K : Nat → Prop} {T : TypeId → Prop} {b : Nat} {s0 s1 : CSt} (h : Grow s0 s1) : FrK K T b s0 s1 := ⟨h.fr, fun i _ hn => h.old i hn⟩
theorem appendF_zero {b : Nat} {σ : CSt} {v : Value} {l : List UInt8} (hown : Own b σ 5 encY v l) : ∀ v' σ', appendF σ 5 ⟨1, 1, some [.int .u8 0], false, true⟩ v 0 [] = some (v', σ') → v' = v ∧ σ' = σ := by
  intro v' σ' h
  rcases hown with ⟨rfl, rfl⟩ | ⟨i, cap, rfl, hb, hi, hg, hc⟩
  · unfold appendF at h
    simp at h
    exact ⟨h.1.symm, h.2.symm⟩
  · unfold appendF at h
    simp at h
    exact ⟨h.2.1.symm, h.2.2.symm⟩
theorem wapp_k {b : Nat} {σ : CSt} {v x : Value} {ts : Array TypeId} {l m : List UInt8} (hop : appendOp Tryz.prog σ ts v x = appendF σ 5 ⟨1, 1, some [.int .u8 0], false, true⟩ v m.length (m.flatMap encY)) (hw : Own b σ 5 encY v l) (hb : b ≤ σ.n) (hbig : l.length + m.length ≤ 2 ^ 47) :
    ∃ q c σ', appendOp Tryz.prog σ ts v x = some (.slice q (l.length + m.length) c, σ') ∧ Own b σ' 5 encY (.slice q (l.length + m.length) c) (l ++ m) ∧ FrK (fun i => objOf v ≠ some i) (fun t => t = 5) b σ σ' ∧ (∀ i, i < σ.n → objOf v ≠ some i → objOf (.slice q (l.length + m.length) c) ≠ some i) := by
  obtain ⟨v', σ', a1, a2, a3, a4, a5⟩ := appendF_only (f := ⟨1, 1, some [.int .u8 0], false, true⟩) (m := m) encY_len encY_cok rfl Nat.one_pos (by decide) rfl hw hb (by show _ * 1 ≤ _; omega) (by omega)
  have hobj : ∀ i, i < σ.n → objOf v ≠ some i → objOf v' ≠ some i := by
    intro i hi ho
    by_cases hm : m = []
    · subst hm
      obtain ⟨rfl, _⟩ := appendF_zero hw _ _ a1
      exact ho
    · obtain ⟨n, c, rfl⟩ := a5 hm
      intro e
      cases e
      omega
  obtain ⟨q, c, rfl⟩ := (a2.sl (sz := 1) encY_len).form
  rw [List.length_append] at a1 a2 hobj
  refine ⟨q, c, σ', by rw [hop]; exact a1, a2, ⟨app_fr hw a3.1 a4, fun i hi hn => a4 i hn fun j off n c hv => ?_⟩, hobj⟩
  rintro rfl
  exact hi (by rw [hv]; rfl)
theorem wappK_sl {b : Nat} {σ : CSt} {v x : Value} {l m : List UInt8} (hw : Own b σ 5 encY v l) (hb : b ≤ σ.n) (hx : Sl σ 5 1 encY x m) (hbig : l.length + m.length ≤ 2 ^ 47) :
    ∃ q c σ', appendOp Tryz.prog σ #[25, 25] v x = some (.slice q (l.length + m.length) c, σ') ∧ Own b σ' 5 encY (.slice q (l.length + m.length) c) (l ++ m) ∧ FrK (fun i => objOf v ≠ some i) (fun t => t = 5) b σ σ' ∧ (∀ i, i < σ.n → objOf v ≠ some i → objOf (.slice q (l.length + m.length) c) ≠ some i) := by
  refine wapp_k ?_ hw hb hbig
  obtain ⟨g1, g2⟩ := first_sl encY_len hx
  rw [appendOp_K (by simp [ef25]) (by simp)]
  show appK (elemF Tryz.prog 25) σ v x = _
  rw [ef25]
  simp only [appK, g1, g2, Option.bind_some]
theorem wappK_str {b : Nat} {σ : CSt} {v : Value} {l : List UInt8} (s : ByteArray) (hw : Own b σ 5 encY v l) (hb : b ≤ σ.n) (hbig : l.length + s.size ≤ 2 ^ 47) :
    ∃ q c σ', appendOp Tryz.prog σ #[25, 9] v (.string s) = some (.slice q (l.length + s.size) c, σ') ∧ Own b σ' 5 encY (.slice q (l.length + s.size) c) (l ++ byt s) ∧ FrK (fun i => objOf v ≠ some i) (fun t => t = 5) b σ σ' ∧ (∀ i, i < σ.n → objOf v ≠ some i → objOf (.slice q (l.length + s.size) c) ≠ some i) := by
  have := wapp_k (x := .string s) (ts := #[25, 9]) (m := byt s) ?_ hw hb (by rw [len_byt]; exact hbig)
  · rw [len_byt] at this; exact this
  · obtain ⟨g1, g2⟩ := first_str (σ := σ) (byt s)
    have e : (⟨(byt s).toArray⟩ : ByteArray) = s := str_byt s
    rw [e] at g1 g2
    rw [appendOp_S (by simp [ef25]) rfl]
    show appK (elemF Tryz.prog 25) σ v (.string s) = _
    rw [ef25]
    simp only [appK, g1, g2, Option.bind_some]
theorem WtK.back {K : Nat → Prop} {b p : Nat} {σ σ0 σ1 : CSt} {v v1 : Value} {l : List UInt8} (hgp : σ.get p = some (.cells [v] 27 false)) (hp : b ≤ p) (hpn : p < σ.n) (hK : ∀ i, K i → i ≠ p ∧ i < σ.n ∧ objOf v ≠ some i) (g : Grow σ σ0) (f : FrK (fun i => objOf v ≠ some i) (fun t => t = 5) b σ0 σ1) (hob : ∀ i, i < σ0.n → objOf v ≠ some i → objOf v1 ≠ some i) (hown : Own b σ1 5 encY v1 l) :
    σ1.get p = some (.cells [v] 27 false) ∧ WtK K b p (σ1.put p (.cells [v1] 27 false)) l ∧ FrK K TW b σ (σ1.put p (.cells [v1] 27 false)) := by
  obtain ⟨h1, h2, h3⟩ := Wt.back hgp hp hpn g f.1 hown
  have gn := g.n
  have fn := f.1.1
  refine ⟨h1, ?_, h3, fun i hi hn => ?_⟩
  · obtain ⟨v', q1, q2, q3, q4⟩ := h2
    have : v' = v1 := by
      simp at q1
      exact q1.symm
    subst this
    exact ⟨v', q1, q2, q3, q4, fun i hi => by
      obtain ⟨k1, k2, k3⟩ := hK i hi
      exact ⟨k1, by simp; omega, hob i (by omega) k3⟩⟩
  · obtain ⟨k1, k2, k3⟩ := hK i hi
    rw [CSt.get_put, if_neg k1, f.2 i k3 (by omega), g.old i hn]
theorem WtK.mono {K K' : Nat → Prop} {b p : Nat} {σ : CSt} {l : List UInt8} (h : WtK K b p σ l) (hK : ∀ i, K' i → K i) : WtK K' b p σ l := by
  obtain ⟨v, h1, h2, h3, h4, h5⟩ := h
  exact ⟨v, h1, h2, h3, h4, fun i hi => h5 i (hK i hi)⟩
theorem wnumK_spec (K : Nat → Prop) (b p n : Nat) (l : List UInt8) (σ : CSt) (hn : n < 2 ^ 64) (hw : WtK K b p σ l) (hb : b ≤ σ.n) (hl : l.length < 2 ^ 40) (Q : Out → CSt → Prop)
    (h : ∀ σ', WtK K b p σ' (l ++ num n) → FrK K TW b σ σ' → Q (.ret (.tuple #[]) false) σ') : W E1 (.fn 42 #[.pointer (some ⟨p, 0, none⟩), .int .u64 n] none) σ Q := by
  rw [W_fn (fn := Tryz.f42) Tryz.func42 rfl rfl rfl]
  simp [wops_cons]
  have hlen := num_len10 hn
  refine W_loop_inv (fun k a σ' => ∃ tm m pre, a = ⟨tm, 31, [], false⟩ ∧ tm.get 0 = some (.pointer (some ⟨p, 0, none⟩)) ∧ tm.get 1 = some (.int .u64 (m : Nat)) ∧ (k = m ∧ m < 2 ^ 64 ∧ num n = pre ++ num m ∧ WtK K b p σ' (l ++ pre) ∧ FrK K TW b σ σ')) ?_ n _ _ ?_
  · rintro k a σ' ⟨tm, m, pre, rfl, h0, h1, hk, hm, hpre, ⟨v, hg, hbp, hpn, hown, hK⟩, hf⟩
    have hlp : pre.length ≤ 10 := by
      have := congrArg List.length hpre
      rw [List.length_append] at this
      omega
    have hnn := hf.1.1
    by_cases h128 : m < 128
    · have hge : ¬ ((128 : Int) ≤ (m : Int)) := by omega
      obtain ⟨c, hc⟩ := byte_of m (by omega)
      have hu : IntKind.u8.wrap (m : Int) = (c.toNat : Int) := by rw [u8_of, Nat.mod_eq_of_lt (by omega), hc]
      have hnum : num m = [c] := by rw [num_lt h128]; congr 1; exact u8_eq (by rw [ofNat_toNat (by omega), hc])
      have g0 : Grow σ' (σ'.alloc (.cells [.int .u8 c.toNat] 5 false)) := (Grow.refl σ').alloc _
      obtain ⟨q, cp, s1, a1, a2, a3, a9⟩ := wappK_sl (x := .slice (some ⟨σ'.n, 0, none⟩) 1 1) (m := [c]) (hown.grow g0) (by simp; omega) (Sl.all (l := [c]) (cap := 1) (ro := false) encY_len (by simp [encY]) (by simp) (.inr ⟨by simp, by simp [openCap]⟩)) (by simp; omega)
      obtain ⟨b1, b2, b3⟩ := WtK.back hg hbp hpn hK g0 a3 a9 a2
      have hQ := h _ (by rw [hpre, hnum, ← List.append_assoc]; exact b2) (hf.trans b3)
      simpa [wops_cons, h0, h1, hg, hge, h128, hu, a1, b1] using hQ
    · have hge : (128 : Int) ≤ (m : Int) := by omega
      obtain ⟨c, hc⟩ := byte_of (m % 128 + 128) (by omega)
      have hu : orI .u8 (IntKind.u8.wrap (m : Int)) 128 = (c.toNat : Int) := by
        rw [u8_of, or_80 _ (by omega), hc]
        congr 1
        omega
      have hnum : num m = c :: num (m / 128) := by rw [num_ge (by omega)]; congr 1; exact u8_eq (by rw [ofNat_toNat (by omega), hc])
      have g0 : Grow σ' (σ'.alloc (.cells [.int .u8 c.toNat] 5 false)) := (Grow.refl σ').alloc _
      obtain ⟨q, cp, s1, a1, a2, a3, a9⟩ := wappK_sl (x := .slice (some ⟨σ'.n, 0, none⟩) 1 1) (m := [c]) (hown.grow g0) (by simp; omega) (Sl.all (l := [c]) (cap := 1) (ro := false) encY_len (by simp [encY]) (by simp) (.inr ⟨by simp, by simp [openCap]⟩)) (by simp; omega)
      obtain ⟨b1, b2, b3⟩ := WtK.back hg hbp hpn hK g0 a3 a9 a2
      have hsh : (m : Int).fdiv (2 ^ min 7 64) = ((m / 128 : Nat) : Int) := by
        have : (2 : Int) ^ min 7 64 = 128 := by decide
        rw [this, Int.fdiv_eq_ediv_of_nonneg _ (by omega)]
        omega
      simp at a1
      simp [wops_cons, h0, h1, hg, hge, h128, hu, a1, b1]
      exact ⟨m / 128, by omega, m / 128, hsh, rfl, by omega, pre ++ [c], by rw [hpre, hnum]; simp, by simpa [List.append_assoc, Nat.add_assoc] using b2, by simpa [List.append_assoc, Nat.add_assoc] using hf.trans b3⟩
  · exact ⟨_, n, [], rfl, rfl, rfl, rfl, hn, rfl, by simpa using hw, (Grow.refl _).frK⟩
theorem WtK.grow {K : Nat → Prop} {b p : Nat} {σ σ' : CSt} {l : List UInt8} (h : WtK K b p σ l) (g : Grow σ σ') : WtK K b p σ' l := by
  obtain ⟨v, h1, h2, h3, h4, h5⟩ := h
  have := g.n
  exact ⟨v, g.get h1 h3, h2, by omega, h4.grow g, fun i hi => by obtain ⟨k1, k2, k3⟩ := h5 i hi; exact ⟨k1, by omega, k3⟩⟩
/-- Bytes of a string behind it. -/
theorem wtextK_back {K : Nat → Prop} {b p : Nat} {σ : CSt} {l : List UInt8} (hw : WtK K b p σ l) (hb : b ≤ σ.n) (s : ByteArray) (hbig : l.length + s.size ≤ 2 ^ 47) :
    ∃ v q c s1, σ.get p = some (.cells [v] 27 false) ∧ appendOp Tryz.prog σ #[25, 9] v (.string s) = some (.slice q (l.length + s.size) c, s1) ∧ s1.get p = some (.cells [v] 27 false) ∧
      WtK K b p (s1.put p (.cells [.slice q (l.length + s.size) c] 27 false)) (l ++ byt s) ∧ FrK K TW b σ (s1.put p (.cells [.slice q (l.length + s.size) c] 27 false)) := by
  obtain ⟨v, hg, hbp, hpn, hown, hK⟩ := hw
  obtain ⟨q, c, s1, a1, a2, a3, a9⟩ := wappK_str s hown hb hbig
  obtain ⟨b1, b2, b3⟩ := WtK.back hg hbp hpn hK (Grow.refl σ) a3 a9 a2
  exact ⟨v, q, c, s1, hg, a1, b1, b2, b3⟩
theorem wtextK_spec (K : Nat → Prop) (b p : Nat) (s : ByteArray) (l : List UInt8) (σ : CSt) (hs : s.size < 2 ^ 40) (hw : WtK K b p σ l) (hb : b ≤ σ.n) (hl : l.length < 2 ^ 39) (Q : Out → CSt → Prop)
    (h : ∀ σ', WtK K b p σ' (l ++ serText s) → FrK K TW b σ σ' → Q (.ret (.tuple #[]) false) σ') : W E1 (.fn 50 #[.pointer (some ⟨p, 0, none⟩), .string s] none) σ Q := by
  rw [W_fn (fn := Tryz.f50) Tryz.func50 rfl rfl rfl]
  have hu : IntKind.u64.wrap (s.size : Int) = (s.size : Int) := IntWalk.u64_in _ (by omega)
  have hln := num_len10 (n := s.size) (by omega)
  simp [wops_cons, hu]
  refine wnumK_spec K b p s.size l σ (by omega) hw hb (by omega) _ fun σ1 h1 f1 => ?_
  have f1n := f1.1.1
  obtain ⟨v, q, c, s1, hg, a1, b1, b2, b3⟩ := wtextK_back h1 (by omega) s (by rw [List.length_append]; omega)
  have hQ := h _ (by rw [serText, ← List.append_assoc]; exact b2) (f1.trans b3)
  simp only [List.length_append] at a1 hQ
  simpa [wops_cons, hg, a1, b1] using hQ
theorem valueK_spec (K : Nat → Prop) (b p : Nat) (x : Ver) (l : List UInt8) (σ : CSt) (hs : x.val.size < 2 ^ 38) (hw : WtK K b p σ l) (hb : b ≤ σ.n) (hl : l.length < 2 ^ 39) (Q : Out → CSt → Prop)
    (h : ∀ σ', WtK K b p σ' (l ++ serVer x) → FrK K TW b σ σ' → Q (.ret (.tuple #[]) false) σ') : W E1 (.fn 43 #[.pointer (some ⟨p, 0, none⟩), .agg (encV x).toArray] none) σ Q := by
  rw [W_fn (fn := Tryz.f43) Tryz.func43 rfl rfl rfl]
  obtain ⟨at_, val, gone⟩ := x
  have g0 : Grow σ (σ.alloc (.cells [.int .u64 at_, .string val, .bool gone] 33 false)) := (Grow.refl σ).alloc _
  have hw0 := hw.grow g0
  have hc0 : (σ.alloc (.cells [.int .u64 at_, .string val, .bool gone] 33 false)).get σ.n = some (.cells [.int .u64 at_, .string val, .bool gone] 33 false) := by simp
  cases gone with
  | true =>
    simp [wops_cons, encV]
    have e : serVer ⟨at_, val, true⟩ = num 0 := by rw [num_lt (by omega)]; rfl
    refine wnumK_spec K b p 0 l _ (by decide) hw0 (by simp; omega) (by omega) _ fun σ1 h1 f1 => ?_
    have hQ := h _ (by rw [e]; exact h1) (g0.frK.trans f1)
    simpa [wops_cons] using hQ
  | false =>
    have hz : val.size < 2 ^ 38 := hs
    have hu : IntKind.u64.wrap (IntKind.u64.wrap (val.size : Int) + 1) = ((val.size + 1 : Nat) : Int) := by rw [IntWalk.u64_in (val.size : Int) (by omega), IntWalk.u64_in _ (by omega)]; omega
    have hln := num_len10 (n := val.size + 1) (by omega)
    simp [wops_cons, encV]
    rw [hu]
    refine wnumK_spec K b p (val.size + 1) l _ (by omega) hw0 (by simp; omega) (by omega) _ fun σ1 h1 f1 => ?_
    have f1n := f1.1.1
    have hc1 : σ1.get σ.n = some (.cells [.int .u64 at_, .string val, .bool false] 33 false) := f1.1.get hc0 (by simp) (.inr fun row e ro he => by cases he; decide)
    obtain ⟨v, q, c, s1, hg, a1, b1, b2, b3⟩ := wtextK_back h1 (by simp at f1n; omega) val (by rw [List.length_append]; omega)
    have hQ := h _ (by
      have e : serVer ⟨at_, val, false⟩ = num (val.size + 1) ++ byt val := rfl
      rw [e, ← List.append_assoc]; exact b2) ((g0.frK.trans f1).trans b3)
    simp only [List.length_append] at a1 hQ
    simp [wops_cons]
    refine W_calm (by kernel_rfl) ?_
    simpa [dops_cons, hg, hc1, a1, b1] using hQ
theorem valuevK_spec (K : Nat → Prop) (b p : Nat) (x : Ver) (l : List UInt8) (σ : CSt) (hat : 0 ≤ x.at_ ∧ x.at_ < 2 ^ 64) (hs : x.val.size < 2 ^ 38) (hw : WtK K b p σ l) (hb : b ≤ σ.n) (hl : l.length < 2 ^ 38) (Q : Out → CSt → Prop)
    (h : ∀ σ', WtK K b p σ' (l ++ serV x) → FrK K TW b σ σ' → Q (.ret (.tuple #[]) false) σ') : W E1 (.fn 13 #[.pointer (some ⟨p, 0, none⟩), .agg (encV x).toArray] none) σ Q := by
  rw [W_fn (fn := Tryz.f13) Tryz.func13 rfl rfl rfl]
  have g0 : Grow σ (σ.alloc (.cells (encV x) 33 false)) := (Grow.refl σ).alloc _
  have hw0 := hw.grow g0
  have hc0 : (σ.alloc (.cells (encV x) 33 false)).get σ.n = some (.cells (encV x) 33 false) := by simp
  obtain ⟨n, hn⟩ : ∃ n : Nat, x.at_ = n := ⟨x.at_.toNat, by omega⟩
  have hn64 : n < 2 ^ 64 := by omega
  have hln := num_len10 hn64
  have he : encV x = [.int .u64 n, .string x.val, .bool x.gone] := by rw [encV, hn]
  rw [he] at hw0 hc0 g0 ⊢
  simp [wops_cons]
  refine wnumK_spec K b p n l _ hn64 hw0 (by simp; omega) (by omega) _ fun σ1 h1 f1 => ?_
  have f1n := f1.1.1
  simp at f1n
  have hc1 : σ1.get σ.n = some (.cells [.int .u64 n, .string x.val, .bool x.gone] 33 false) := f1.1.get hc0 (by simp) (.inr fun row e ro he => by cases he; decide)
  have hv := valueK_spec K b p x (l ++ num n) σ1 hs h1 (by omega) (by rw [List.length_append]; omega)
  rw [he] at hv
  simp [wops_cons, hc1]
  refine hv _ fun σ2 h2 f2 => ?_
  have hQ := h _ (by rw [serV, hn, Int.toNat_natCast, ← List.append_assoc]; exact h2) ((g0.frK.trans f1).trans f2)
  simpa [wops_cons] using hQ
end Go.Sm
/- RecordBack, walked. -/
set_option linter.unusedVariables false
set_option linter.unusedSimpArgs false
namespace Go.Sm
open Go Go.Proofs
set_option maxRecDepth 100000
set_option maxHeartbeats 4000000
end Go.Sm
/- RecordValues, walked. -/
set_option linter.unusedVariables false
set_option linter.unusedSimpArgs false
namespace Go.Sm
open Go Go.Proofs
set_option maxRecDepth 100000
set_option maxHeartbeats 4000000
theorem lenV (x : Ver) : (encV x).length = 3 := rfl
theorem rdV_ser {x : Ver} (h : GoodV x) (h1 : 0 ≤ x.at_) (h2 : x.at_ < 2 ^ 64) (r : List UInt8) : rdV (serV x ++ r) = some (x, r) := by
  unfold rdV serV
  rw [List.append_assoc, rd_num (by omega), Option.bind_some]
  have e : ((x.at_.toNat : Nat) : Int) = x.at_ := by omega
  simp only [e]
  exact rdVer_ser h r
theorem WtK.fr {K : Nat → Prop} {T : TypeId → Prop} {b b' p : Nat} {σ σ' : CSt} {l : List UInt8} (h : WtK K b p σ l) (h27 : ¬ T 27) (h5 : ¬ T 5) (f : Fr T b' σ σ') : WtK K b p σ' l := by
  obtain ⟨v, h1, h2, h3, h4, h5'⟩ := h
  have fn := f.1
  exact ⟨v, f.get h1 h3 (.inr fun row e ro he => by cases he; exact h27), h2, by omega, h4.fr h5 f, fun i hi => by obtain ⟨k1, k2, k3⟩ := h5' i hi; exact ⟨k1, by omega, k3⟩⟩
/-- Another slice of bytes is appended to. -/
theorem WtK.other {b p : Nat} {σ σ' : CSt} {l : List UInt8} {u u' : Value} (h : WtK (fun i => objOf u = some i) b p σ l) (f : FrK (fun i => objOf u ≠ some i) (fun t => t = 5) b σ σ') (hob : ∀ i, i < σ.n → objOf u ≠ some i → objOf u' ≠ some i) (hlt : ∀ i, objOf u' = some i → i < σ'.n) : WtK (fun i => objOf u' = some i) b p σ' l := by
  obtain ⟨v, h1, h2, h3, h4, h5⟩ := h
  have fn := f.1.1
  refine ⟨v, f.1.get h1 h3 (.inr fun row e ro he => by cases he; decide), h2, by omega, ?_, fun i hi => ?_⟩
  · rcases h4 with h4 | ⟨i, cap, rfl, q1, q2, q3, q4⟩
    · exact .inl h4
    · refine .inr ⟨i, cap, rfl, q1, by omega, ?_, q4⟩
      rw [f.2 i (fun hi => (h5 i hi).2.2 rfl) q2]
      exact q3
  · have h6 : objOf u ≠ some i → ¬ i < σ.n := fun hne hlt' => hob i hlt' hne hi
    by_cases hu : objOf u = some i
    · obtain ⟨k1, k2, k3⟩ := h5 i hu
      exact ⟨k1, hlt i hi, k3⟩
    · have := h6 hu
      refine ⟨by omega, hlt i hi, fun hv => ?_⟩
      have := h4.obj_lt hv
      omega
theorem Own.frK {K : Nat → Prop} {T : TypeId → Prop} {b b' : Nat} {σ σ' : CSt} {v : Value} {l : List UInt8} (h : Own b σ 5 encY v l) (f : FrK K T b' σ σ') (hK : ∀ i, objOf v = some i → K i) : Own b σ' 5 encY v l := by
  rcases h with h | ⟨i, cap, rfl, q1, q2, q3, q4⟩
  · exact .inl h
  · exact .inr ⟨i, cap, rfl, q1, Nat.lt_of_lt_of_le q2 f.1.1, by rw [f.2 i (hK i rfl) q2]; exact q3, q4⟩
theorem serV_len (x : Ver) (h1 : x.at_ < 2 ^ 64) (hs : x.val.size ≤ 200) : (serV x).length ≤ 250 := by
  have a := num_len10 (n := x.at_.toNat) (by omega)
  have b := serVer_len x (by omega)
  rw [serV, List.length_append]
  omega
end Go.Sm
/- Chains: the comparison, the search. -/
set_option linter.unusedVariables false
set_option linter.unusedSimpArgs false
namespace Go.Sm
open Go Go.Proofs
set_option maxRecDepth 100000
set_option maxHeartbeats 1000000
def ordV (t : Int) (v : Ver) : Int := if v.at_ < t then -1 else if t < v.at_ then 1 else 0
theorem order_spec (t : Int) (v : Ver) (σ : CSt) (Q : Out → CSt → Prop) (h : ∀ σ', Grow σ σ' → Q (.ret (.int .i64 (ordV t v)) false) σ') : W E1 (.fn 78 #[.agg (encV v).toArray, .int .u64 t] none) σ Q := by
  rw [W_fn (fn := Tryz.f78) Tryz.func78 rfl rfl rfl]
  have hg := h _ ((Grow.refl σ).alloc (CObj.cells (encV v) 33 false))
  simp only [encV, ordV] at hg
  simp [wops_cons, encV]
  by_cases h1 : v.at_ < t
  · simpa [h1] using hg
  · by_cases h2 : t < v.at_
    · simpa [h1, h2] using hg
    · simpa [h1, h2] using hg
theorem mid_eq (lo hi : Int) (h1 : 0 ≤ lo) (h2 : lo < hi) (h3 : hi < 2 ^ 62) : IntKind.i64.wrap ((IntKind.u64.wrap (IntKind.i64.wrap (lo + hi))).fdiv (2 ^ min 1 IntKind.u64.bits)) = (lo + hi) / 2 := by
  rw [IntWalk.i64_in (lo + hi) (by omega), IntWalk.u64_in _ (by omega)]
  have : (2 ^ min 1 IntKind.u64.bits : Int) = 2 := by decide
  rw [this, Int.fdiv_eq_ediv_of_nonneg _ (by omega), IntWalk.i64_in _ (by omega)]
theorem search_29 (l : List Ver) (v key : Value) (hkey : flat0 key = true) (ord : Ver → Int) (σ : CSt) (hsl : Sl σ 33 3 encV v l) (hbig : l.length < 2 ^ 40)
    (hcmp : ∀ (x : Ver) (σ : CSt) (Q : Out → CSt → Prop), (∀ σ', Grow σ σ' → Q (.ret (.int .i64 (ord x)) false) σ') → W E1 (.fn 78 #[.agg (encV x).toArray, key] none) σ Q)
    (hmono : ∀ j k (hj : j < l.length) (hk : k < l.length), j < k → ord l[k] < 0 → ord l[j] < 0) (Q : Out → CSt → Prop)
    (h : ∀ (k : Nat) (σ' : CSt), Cut ord l k → Grow σ σ' → Q (.ret (.tuple #[.int .i64 k, .bool (decide (∃ h : k < l.length, ord l[k] = 0))]) false) σ') :
    W E1 (.fn 77 #[v, key, .func (.func 78) #[] #[]] none) σ Q := by
  rw [W_fn (fn := Tryz.f77) Tryz.func77 rfl rfl rfl]
  rcases hsl with ⟨rfl, rfl⟩ | ⟨i, off, cap, row, ro, rfl, hg, hin, hrow, hlen, hcap⟩
  · have := h 0 σ ⟨Nat.le_refl _, by simp, by simp⟩ (Grow.refl σ)
    simp [wops_cons]
    rw [W_loop]
    simp [wops_cons, wops_if', dstOf]
    have e : decide (∃ h : 0 < ([] : List Ver).length, ord ([] : List Ver)[0] = 0) = false := decide_eq_false fun ⟨h, _⟩ => absurd h (by simp)
    rw [e] at this
    exact this
  simp [wops_cons]
  refine W_loop_inv (fun n a σ' => ∃ tm lo hi, a = ⟨tm, 49, [], false⟩ ∧ tm.get 0 = some (.slice (some ⟨i, off, none⟩) l.length cap) ∧ tm.get 1 = some key ∧ tm.get 2 = some (.func (.func 78) #[] #[]) ∧ tm.get 8 = some (.int .i64 l.length) ∧ tm.get 9 = some (.int .i64 lo) ∧ tm.get 10 = some (.int .i64 hi) ∧
      (0 ≤ lo ∧ lo ≤ hi ∧ hi ≤ l.length ∧ n = (hi - lo).toNat ∧ (∀ j (h : j < l.length), (j : Int) < lo → ord l[j] < 0) ∧ (∀ j (h : j < l.length), hi ≤ j → 0 ≤ ord l[j])) ∧ Grow σ σ') ?_ l.length _ _ ?_
  · rintro n a σ' ⟨tm, lo, hi, rfl, h0, h1, h2, h8, h9, h10, ⟨hlo, hlh, hhi, hn, hl, hr⟩, hgr⟩
    have hgi := hgr.get hg hin
    by_cases hlt : lo < hi
    · have hm := mid_eq lo hi hlo hlt (by omega)
      obtain ⟨m, hmm⟩ : ∃ m : Nat, (lo + hi) / 2 = m := ⟨((lo + hi) / 2).toNat, by omega⟩
      have hm1 : m < l.length := by omega
      have hm2 : lo ≤ m ∧ (m : Int) < hi := by omega
      rw [hmm] at hm
      have hld := row_get (enc := encV) (fun _ => rfl) hrow m hm1
      have hle := row_le hlen m hm1
      have hw := i64n1 m (by omega)
      simp [wops_cons, h0, h1, h2, h8, h9, h10, hlt, hm, hm1, hgi, hld, hle, -List.length_flatMap]
      refine hcmp _ _ _ fun σ'' hgr2 => ?_
      by_cases hc : ord l[m] < 0
      · simp [wops_cons, hc, hw]
        refine ⟨_, ?_, h0, h1, h2, h8, hi, h10, ⟨by omega, by omega, hhi, rfl, fun j hjl hj => ?_, hr⟩, hgr.trans hgr2⟩
        · omega
        · by_cases hj' : j = m
          · subst hj'; exact hc
          · exact hmono j m hjl hm1 (by omega) hc
      · simp [wops_cons, hc]
        refine ⟨_, ?_, h0, h1, h2, h8, lo, h9, ⟨hlo, by omega, by omega, rfl, hl, fun j hjl hj => ?_⟩, hgr.trans hgr2⟩
        · omega
        · by_cases hj' : j = m
          · subst hj'; omega
          · have := hmono m j hm1 hjl (by omega)
            omega
    · obtain ⟨k, rfl⟩ := Int.eq_ofNat_of_zero_le hlo
      have hk : hi = k := by omega
      have hcut : Cut ord l k := ⟨by omega, fun j hj h => hl j hj (by omega), fun j hj h => hr j hj (by omega)⟩
      by_cases hkl : k < l.length
      · have hld := row_get (enc := encV) (fun _ => rfl) hrow k hkl
        have hle := row_le hlen k hkl
        simp [wops_cons, wops_if', dstOf, h0, h1, h2, h8, h9, h10, hlt, hkl, hgi, hld, hle, -List.length_flatMap]
        refine hcmp _ _ _ fun σ'' hgr2 => ?_
        have := h k σ'' hcut (hgr.trans hgr2)
        simp [wops_cons, wops_if', dstOf, hkl] at this ⊢
        exact this
      · have := h k σ' hcut hgr
        simp [wops_cons, wops_if', dstOf, h0, h1, h2, h8, h9, h10, hlt, hkl] at this ⊢
        exact this
  · refine ⟨_, 0, l.length, rfl, ?_⟩
    simp
    exact ⟨⟨fun j _ h => by omega, fun j h1 h2 => by omega⟩, Grow.refl σ⟩

end Go.Sm
/- Chains: copies, a version more. -/
set_option linter.unusedVariables false
set_option linter.unusedSimpArgs false
namespace Go.Sm
open Go Go.Proofs
set_option maxRecDepth 100000
set_option maxHeartbeats 1000000
theorem clone_29 (l : List Ver) (v : Value) (σ : CSt) (hsl : Sl σ 33 3 encV v l) (hbig : l.length < 2 ^ 40) (Q : Out → CSt → Prop)
    (h : ∀ (v' : Value) (σ' : CSt), Own σ.n σ' 33 encV v' l → Grow σ σ' → Q (.ret v' false) σ') : W E1 (.fn 59 #[v] none) σ Q := by
  rw [W_fn (fn := Tryz.f59) Tryz.func59 rfl rfl rfl]
  have h0 : (0 : Nat) ≠ openCap := by simp [openCap]
  rcases hsl with ⟨rfl, rfl⟩ | ⟨i, off, cap, row, ro, rfl, hg, hin, hrow, hlen, hcap⟩
  · have := h _ σ Own.nil (Grow.refl σ)
    simpa [wops_cons] using this
  by_cases hl : l.length = 0
  · have hnil : l = [] := List.eq_nil_of_length_eq_zero hl
    subst hnil
    have := h (.slice (some ⟨σ.n, 0, none⟩) 0 0) (σ.alloc (.cells [] 33 false)) (.inr ⟨σ.n, 0, rfl, Nat.le_refl _, by simp, by simp, .inr ⟨rfl, rfl⟩⟩) ((Grow.refl σ).alloc _)
    have hin' : ¬ i = σ.n := by omega
    have hoff : off ≤ row.length := by simp at hlen; omega
    simpa [wops_cons, appendOp_K, appK, appendF, hg, h0, hin', hoff] using this
  · have hn0 : ¬ l = [] := by rintro rfl; simp at hl
    have hb : l.length * 32 ≤ 140737488355328 := by omega
    have hrl : ((l.flatMap encV).length : Nat) = l.length * 3 := enc_length encV (fun _ => rfl) l
    have hck : cokL (l.flatMap encV) = true := cokL_enc (fun _ => rfl) l
    have := h (.slice (some ⟨σ.n + 1, 0, none⟩) l.length openCap) ((σ.alloc (.cells [] 33 false)).alloc (.cells (l.flatMap encV) 33 false))
      (.inr ⟨σ.n + 1, openCap, rfl, by omega, by simp, by simp, .inl rfl⟩) (((Grow.refl σ).alloc _).alloc _)
    have hin' : ¬ i = σ.n := by omega
    simpa [wops_cons, appendOp_K, appK, appendF, hg, h0, hin', hlen, hrow, hrl, hl, hb, hck, hn0, -List.length_flatMap] using this
theorem ins_own_29 (b : Nat) (l : List Ver) (x : Ver) (a : Nat) (ha : a ≤ l.length) (v : Value) (σ : CSt) (hb : b ≤ σ.n) (hown : Own b σ 33 encV v l) (j : Nat) (hj : σ.get j = some (.cells (encV x) 33 false))
    (hji : ∀ i off n c, v = .slice (some ⟨i, off, none⟩) n c → i ≠ j) (hbig : l.length < 2 ^ 40) (Q : Out → CSt → Prop)
    (h : ∀ (v' : Value) (σ' : CSt), Own b σ' 33 encV v' (l.take a ++ x :: l.drop a) → GrowB b σ σ' → Q (.ret v' false) σ') :
    W E1 (.fn 79 #[v, .int .i64 a, .slice (some ⟨j, 0, none⟩) 1 1] none) σ Q := by
  have hxl : (encV x).length = 3 := rfl
  rcases hown with ⟨rfl, rfl⟩ | ⟨i, cap, rfl, hbi, hin, hg, hcap⟩
  · have ha0 : a = 0 := by simpa using ha
    subst ha0
    rw [Int.natCast_zero, W_gam (E := E1) (f := 79) (g := insG 33 3 32) rfl rfl (v := .slice (some ⟨σ.n, 0, none⟩) 1 openCap) (σ' := σ.alloc (.cells (encV x) 33 false)) (insG_nil hj rfl rfl (by omega))]
    exact h _ _ (.inr ⟨σ.n, openCap, rfl, hb, by simp, by simp, .inl rfl⟩) ((GrowB.refl b σ).alloc hb _)
  · have hij := hji i 0 _ _ rfl
    have hrl : (l.flatMap encV).length = l.length * 3 := enc_length encV (fun _ => rfl) l
    have hck : cokL (l.flatMap encV) = true := cokL_enc (fun _ => rfl) l
    rcases hcap with rfl | ⟨rfl, rfl⟩
    · have he := insRow_enc (enc := encV) (l := l) (sz := 3) (fun _ => rfl) a ha x
      rw [W_gam (E := E1) (f := 79) (g := insG 33 3 32) rfl rfl (v := .slice (some ⟨σ.n, 0, none⟩) (l.length + 1) openCap) (σ' := (σ.put i .dead).alloc (.cells ((l.take a ++ x :: l.drop a).flatMap encV) 33 false)) (by
        rw [insG_some (sz := 3) hg hj rfl rfl (by omega) (by omega) hij (by omega) (cokL_take hck _) (by omega) (by omega) hbig, if_pos rfl, ← he]
        rfl)]
      refine h _ _ (.inr ⟨σ.n, openCap, ?_, hb, by simp, by simp, .inl rfl⟩) (((GrowB.refl b σ).put hbi _).alloc hb _)
      have : (l.take a ++ x :: l.drop a).length = l.length + 1 := by simp; omega
      rw [this]
    · have ha0 : a = 0 := by simpa using ha
      subst ha0
      rw [Int.natCast_zero, W_gam (E := E1) (f := 79) (g := insG 33 3 32) rfl rfl (v := .slice (some ⟨σ.n, 0, none⟩) 1 openCap) (σ' := σ.alloc (.cells (encV x) 33 false)) (by
        have hg' : σ.get i = some (.cells [] 33 false) := hg
        exact (insG_some (sz := 3) (n := 0) hg' hj rfl rfl (by omega) (by omega) hij (by simp) (by simp) (by omega) (by omega) (by omega)).trans ((if_neg (by simp [openCap])).trans (if_pos ⟨rfl, rfl⟩)))]
      exact h _ _ (.inr ⟨σ.n, openCap, rfl, hb, by simp, by simp, .inl rfl⟩) ((GrowB.refl b σ).alloc hb _)

end Go.Sm
/- Chains: Put, At, Purge. -/
set_option linter.unusedVariables false
set_option linter.unusedSimpArgs false
namespace Go.Sm
open Go Go.Proofs
set_option maxRecDepth 100000
set_option maxHeartbeats 1000000
theorem ordV_lt (t : Int) (v : Ver) : ordV t v < 0 ↔ v.at_ < t := by
  unfold ordV
  by_cases h1 : v.at_ < t
  · simp [h1]
  · by_cases h2 : t < v.at_ <;> simp [h1, h2]
theorem ordV_eq (t : Int) (v : Ver) : ordV t v = 0 ↔ v.at_ = t := by
  unfold ordV
  by_cases h1 : v.at_ < t
  · simp [h1]; omega
  · by_cases h2 : t < v.at_
    · simp [h1, h2]; omega
    · simp [h1, h2]; omega
theorem Cut.found {c : List Ver} {t : Int} {k : Nat} (h : Cut (ordV t) c k) : Found c t k := by
  refine ⟨h.le, fun v hv => ?_, fun v hv => ?_⟩
  · obtain ⟨j, hj, rfl⟩ := List.mem_iff_getElem.1 hv
    simp only [List.length_take] at hj
    have := h.lo j (by omega) (by omega)
    rw [ordV_lt] at this
    simpa using this
  · obtain ⟨j, hj, rfl⟩ := List.mem_iff_getElem.1 hv
    simp only [List.length_drop] at hj
    have := h.hi (k + j) (by omega) (by omega)
    simp only [List.getElem_drop]
    have h2 := ordV_lt t c[k + j]
    omega
theorem Srt.get_lt {c : List Ver} (h : Srt c) {j k : Nat} (hj : j < c.length) (hk : k < c.length) (hjk : j < k) : c[j].at_ < c[k].at_ := List.pairwise_iff_getElem.1 h j k hj hk hjk
theorem Srt.mono {c : List Ver} (h : Srt c) (t : Int) : ∀ j k (hj : j < c.length) (hk : k < c.length), j < k → ordV t c[k] < 0 → ordV t c[j] < 0 := by
  intro j k hj hk hjk ho
  rw [ordV_lt] at ho ⊢
  have := h.get_lt hj hk hjk
  omega
/-- Where a version of a time stands. -/
theorem find_chain (c : List Ver) (hs : Srt c) (v : Value) (t : Int) (σ : CSt) (hsl : Sl σ 33 3 encV v c) (hbig : c.length < 2 ^ 40) (Q : Out → CSt → Prop)
    (h : ∀ (k : Nat) (σ' : CSt), Found c t k → Grow σ σ' → Q (.ret (.tuple #[.int .i64 k, .bool (decide (∃ h : k < c.length, c[k].at_ = t))]) false) σ') :
    W E1 (.fn 77 #[v, .int .u64 t, .func (.func 78) #[] #[]] none) σ Q := by
  refine search_29 c v _ rfl (ordV t) σ hsl hbig (fun x σ Q h => order_spec t x σ Q h) (hs.mono t) Q fun k σ' hc hg => ?_
  have := h k σ' hc.found hg
  simpa only [ordV_eq] using this
theorem put_spec (c : List Ver) (hs : Srt c) (v : Value) (x : Ver) (σ : CSt) (hsl : Sl σ 33 3 encV v c) (hbig : c.length < 2 ^ 39) (Q : Out → CSt → Prop)
    (h : ∀ (v' : Value) (σ' : CSt), Own σ.n σ' 33 encV v' (putL c x) → Grow σ σ' → Q (.ret v' false) σ') : W E1 (.fn 66 #[v, .agg (encV x).toArray] none) σ Q := by
  rw [W_fn (fn := Tryz.f66) Tryz.func66 rfl rfl rfl]
  simp [wops_cons, encV]
  refine find_chain c hs v x.at_ _ (hsl.grow ((Grow.refl σ).alloc _)) (by omega) _ fun k σ1 hf hg1 => ?_
  have hg1' : Grow σ σ1 := ((Grow.refl σ).alloc _).trans hg1
  have hb1 : σ1.get σ.n = some (.cells (encV x) 33 false) := hg1.get (by simp [encV]) (by simp)
  simp [wops_cons]
  refine clone_29 c v σ1 (hsl.grow hg1') (by omega) _ fun v2 σ2 hown hg2 => ?_
  have hb2 : σ2.get σ.n = some (.cells (encV x) 33 false) := hg2.get hb1 (by have := hg1.n; simp at this; omega)
  have hn1 : σ.n + 1 ≤ σ1.n := by have := hg1.n; simpa using this
  have hg2' := hg1'.trans hg2
  by_cases hfo : ∃ hk : k < c.length, c[k].at_ = x.at_
  · obtain ⟨hk, he⟩ := hfo
    rw [decide_eq_true ⟨hk, he⟩]
    rcases hown with ⟨rfl, rfl⟩ | ⟨i, cap, rfl, hbi, hin, hgi, hcap⟩
    · simp at hk
    · have hki : (k : Int) < c.length := by omega
      have hlen : k * 3 + 3 ≤ (c.flatMap encV).length := by rw [enc_length encV (n := 3) (fun _ => rfl)]; omega
      have hset := enc_set encV (n := 3) (fun _ => rfl) c k x hk
      simp only [encV] at hset hb2
      simp [wops_cons, hgi, hk, hb2, hlen, -List.length_flatMap, -List.append_assoc, -List.cons_append]
      rw [hset]
      rw [hf.put_set hs hk he] at h
      have hl : (c.set k x).length = c.length := by simp
      refine h _ _ (.inr ⟨i, cap, by rw [hl], by omega, by simpa using hin, by simp, ?_⟩) (hg2'.put (by omega) _)
      rcases hcap with rfl | ⟨rfl, rfl⟩
      · exact .inl rfl
      · simp at hk
  · rw [decide_eq_false hfo]
    simp only [encV] at hb2
    simp [wops_cons, hb2]
    rw [hf.put_ins hs (fun hk he => hfo ⟨hk, he⟩)] at h
    have hji : ∀ i off n c, v2 = .slice (some ⟨i, off, none⟩) n c → i ≠ σ2.n := by
      rintro i off n c rfl
      rcases hown with ⟨h0, _⟩ | ⟨i', cap, h0, _, h1, _⟩
      · cases h0
      · cases h0; omega
    refine ins_own_29 σ1.n c x k hf.le v2 _ (by simp; have := hg2.n; omega) (hown.grow ((Grow.refl σ2).alloc _)) σ2.n (by simp [encV]) hji (by omega) _ fun v3 σ3 ho3 hg3 => ?_
    simp [wops_cons]
    refine h _ _ (ho3.weaken (by omega)) (Grow.thenB (hg2'.alloc _) hg3 (by omega))
end Go.Sm
/- Versions by small numbers; chains made of them; rows of versions compared. -/
set_option linter.unusedVariables false
set_option linter.unusedSimpArgs false
namespace Go.Sm
open Go Go.Proofs
set_option maxRecDepth 100000
set_option maxHeartbeats 1000000
structure VV where
  at_ : Int
  v : Int
  gone : Bool
def encU (x : VV) : List Value := [.int .u8 x.at_, .int .u8 x.v, .bool x.gone]
def nameOf : Nat → ByteArray
  | 0 => ⟨#[]⟩
  | 1 => ⟨#[120]⟩
  | 2 => ⟨#[121, 121]⟩
  | _ => ⟨#[118, 97, 108, 117, 101]⟩
def VV.ok (x : VV) : Prop := (0 ≤ x.at_ ∧ x.at_ < 256) ∧ 0 ≤ x.v ∧ x.v < 256
def verOf (x : VV) : Ver := if x.gone then ⟨x.at_, ⟨#[]⟩, true⟩ else ⟨x.at_, nameOf (x.v.tmod 4).toNat, false⟩
theorem verOf_at (x : VV) : (verOf x).at_ = x.at_ := by unfold verOf; split <;> rfl
theorem vmake_spec (x : VV) (hx : x.ok) (σ : CSt) (Q : Out → CSt → Prop) (h : ∀ σ', Grow σ σ' → Q (.ret (.agg (encV (verOf x)).toArray) false) σ') : W E1 (.fn 54 #[.agg (encU x).toArray] none) σ Q := by
  rw [W_fn (fn := Tryz.f54) Tryz.func54 rfl rfl rfl]
  obtain ⟨⟨ha0, ha1⟩, hv0, hv1⟩ := hx
  have hw : IntKind.u64.wrap x.at_ = x.at_ := IntWalk.u64_in _ (by omega)
  have g0 : Grow σ ((σ.alloc (.cells (encU x) 78 false)).alloc (.cells [.int .u64 0, .string ⟨#[]⟩, .bool false] 33 false)) := ((Grow.refl σ).alloc _).alloc _
  simp [wops_cons, encU]
  cases hgo : x.gone
  · simp
    refine W_drawn (l := [0, 1, 2, 4, 5, 6, 3, 7, 8, 9, 10]) (b := #[0, 1, 3, 0, 0, 16, 48, 120, 248, 511, 1023]) (by kernel_rfl) (by kernel_rfl) (by kernel_rfl) ?_
    have h1 : 0 ≤ x.v.tmod 4 := Int.tmod_nonneg 4 hv0
    have h2 : x.v.tmod 4 < 4 := Int.tmod_lt_of_pos x.v (by decide)
    obtain ⟨k, hk⟩ : ∃ k : Nat, x.v.tmod 4 = k := ⟨(x.v.tmod 4).toNat, by omega⟩
    have h4 : k < 4 := by omega
    have fin := fun g => h _ (((g0.alloc (.cells [.string ⟨#[]⟩, .string ⟨#[120]⟩, .string ⟨#[121, 121]⟩, .string ⟨#[118, 97, 108, 117, 101]⟩] 9 false))).put (i := σ.n + 1) (by omega) g)
    simp only [verOf, hgo, hk, Int.toNat_natCast, encV] at fin
    match k, hk, h4 with
    | 0, hk, _ =>
      have := fin (.cells [.int .u64 x.at_, .string ⟨#[]⟩, .bool false] 33 false)
      simpa [dopsR_cons, opAt, isEff, again, befBits, isRead, Nat.add_assoc, hk, hw, encU, nameOf, hgo] using this
    | 1, hk, _ =>
      have := fin (.cells [.int .u64 x.at_, .string ⟨#[120]⟩, .bool false] 33 false)
      simpa [dopsR_cons, opAt, isEff, again, befBits, isRead, Nat.add_assoc, hk, hw, encU, nameOf, hgo] using this
    | 2, hk, _ =>
      have := fin (.cells [.int .u64 x.at_, .string ⟨#[121, 121]⟩, .bool false] 33 false)
      simpa [dopsR_cons, opAt, isEff, again, befBits, isRead, Nat.add_assoc, hk, hw, encU, nameOf, hgo] using this
    | 3, hk, _ =>
      have := fin (.cells [.int .u64 x.at_, .string ⟨#[118, 97, 108, 117, 101]⟩, .bool false] 33 false)
      simpa [dopsR_cons, opAt, isEff, again, befBits, isRead, Nat.add_assoc, hk, hw, encU, nameOf, hgo] using this
  · have := h _ (g0.put (i := σ.n + 1) (by omega) (.cells [.int .u64 x.at_, .string ⟨#[]⟩, .bool true] 33 false))
    simp only [verOf, hgo, encV] at this
    simpa [wops_cons, hgo, hw, encU] using this
theorem make_len (l : List Ver) : (makeL l).length ≤ l.length := by
  refine rev_ind (P := fun l => (makeL l).length ≤ l.length) (by simp [makeL]) (fun l v ih => ?_) l
  rw [makeL_snoc]
  have h1 : (putL (makeL l) v).length ≤ (makeL l).length + 1 := by
    unfold putL
    have a := List.length_filter_le (fun u : Ver => decide (u.at_ < v.at_)) (makeL l)
    have : ∀ c : List Ver, (c.filter fun u => decide (u.at_ < v.at_)).length + (c.filter fun u => decide (v.at_ < u.at_)).length ≤ c.length := by
      intro c
      induction c with
      | nil => simp
      | cons x c ih =>
        simp only [List.filter_cons]
        by_cases h1 : x.at_ < v.at_
        · have h2 : ¬ v.at_ < x.at_ := by omega
          simp [h1, h2]; omega
        · by_cases h2 : v.at_ < x.at_
          · simp [h1, h2]; omega
          · simp [h1, h2]; omega
    have := this (makeL l)
    simp
    omega
  simp
  omega
end Go.Sm
/- Plain: the chain by definition. -/
set_option linter.unusedVariables false
set_option linter.unusedSimpArgs false
namespace Go.Sm
open Go Go.Proofs
set_option maxRecDepth 100000
set_option maxHeartbeats 2000000
end Go.Sm
/- Stores: rows; the comparison, the search; keys. -/
set_option linter.unusedVariables false
set_option linter.unusedSimpArgs false
namespace Go.Sm
open Go Go.Proofs
set_option maxRecDepth 100000
set_option maxHeartbeats 1000000
/-- A row: a key, and where its chain lies. -/
structure RV where
  key : ByteArray
  p : Option Addr
  n : Nat
  c : Nat
def encR (r : RV) : List Value := [.string r.key, .slice r.p r.n r.c]
theorem lenR (r : RV) : (encR r).length = 2 := rfl
open Classical in
noncomputable def ordR (k : ByteArray) (r : RV) : Int := if klt r.key k = true then -1 else if r.key = k then 0 else 1
theorem orderR_spec (k : ByteArray) (r : RV) (σ : CSt) (Q : Out → CSt → Prop) (h : ∀ σ', Grow σ σ' → Q (.ret (.int .i64 (ordR k r)) false) σ') : W E1 (.fn 64 #[.agg (encR r).toArray, .string k] none) σ Q := by
  rw [W_fn (fn := Tryz.f64) Tryz.func64 rfl rfl rfl]
  have hg := h _ ((Grow.refl σ).alloc (CObj.cells (encR r) 116 false))
  simp only [encR, ordR] at hg
  simp [wops_cons, encR]
  cases h1 : klt r.key k
  · by_cases h2 : r.key = k
    · have h3 : r.key.toList = k.toList := by rw [h2]
      have h4 : klt k k = false := bl_irrefl _
      simpa [h1, h2, h3, h4] using hg
    · have h3 : ¬ r.key.toList = k.toList := fun e => h2 (ba_list_inj e)
      simpa [h1, h2, h3] using hg
  · simpa [h1] using hg
theorem search_95 (l : List RV) (v key : Value) (hkey : flat0 key = true) (ord : RV → Int) (σ : CSt) (hsl : Sl σ 116 2 encR v l) (hbig : l.length < 2 ^ 40)
    (hcmp : ∀ (x : RV) (σ : CSt) (Q : Out → CSt → Prop), (∀ σ', Grow σ σ' → Q (.ret (.int .i64 (ord x)) false) σ') → W E1 (.fn 64 #[.agg (encR x).toArray, key] none) σ Q)
    (hmono : ∀ j k (hj : j < l.length) (hk : k < l.length), j < k → ord l[k] < 0 → ord l[j] < 0) (Q : Out → CSt → Prop)
    (h : ∀ (k : Nat) (σ' : CSt), Cut ord l k → Grow σ σ' → Q (.ret (.tuple #[.int .i64 k, .bool (decide (∃ h : k < l.length, ord l[k] = 0))]) false) σ') :
    W E1 (.fn 63 #[v, key, .func (.func 64) #[] #[]] none) σ Q := by
  rw [W_fn (fn := Tryz.f63) Tryz.func63 rfl rfl rfl]
  rcases hsl with ⟨rfl, rfl⟩ | ⟨i, off, cap, row, ro, rfl, hg, hin, hrow, hlen, hcap⟩
  · have := h 0 σ ⟨Nat.le_refl _, by simp, by simp⟩ (Grow.refl σ)
    simp [wops_cons]
    rw [W_loop]
    simp [wops_cons, wops_if', dstOf]
    have e : decide (∃ h : 0 < ([] : List RV).length, ord ([] : List RV)[0] = 0) = false := decide_eq_false fun ⟨h, _⟩ => absurd h (by simp)
    rw [e] at this
    exact this
  simp [wops_cons]
  refine W_loop_inv (fun n a σ' => ∃ tm lo hi, a = ⟨tm, 49, [], false⟩ ∧ tm.get 0 = some (.slice (some ⟨i, off, none⟩) l.length cap) ∧ tm.get 1 = some key ∧ tm.get 2 = some (.func (.func 64) #[] #[]) ∧ tm.get 8 = some (.int .i64 l.length) ∧ tm.get 9 = some (.int .i64 lo) ∧ tm.get 10 = some (.int .i64 hi) ∧
      (0 ≤ lo ∧ lo ≤ hi ∧ hi ≤ l.length ∧ n = (hi - lo).toNat ∧ (∀ j (h : j < l.length), (j : Int) < lo → ord l[j] < 0) ∧ (∀ j (h : j < l.length), hi ≤ j → 0 ≤ ord l[j])) ∧ Grow σ σ') ?_ l.length _ _ ?_
  · rintro n a σ' ⟨tm, lo, hi, rfl, h0, h1, h2, h8, h9, h10, ⟨hlo, hlh, hhi, hn, hl, hr⟩, hgr⟩
    have hgi := hgr.get hg hin
    by_cases hlt : lo < hi
    · have hm := mid_eq lo hi hlo hlt (by omega)
      obtain ⟨m, hmm⟩ : ∃ m : Nat, (lo + hi) / 2 = m := ⟨((lo + hi) / 2).toNat, by omega⟩
      have hm1 : m < l.length := by omega
      have hm2 : lo ≤ m ∧ (m : Int) < hi := by omega
      rw [hmm] at hm
      have hld := row_get (enc := encR) (fun _ => rfl) hrow m hm1
      have hle := row_le hlen m hm1
      have hw := i64n1 m (by omega)
      simp [wops_cons, h0, h1, h2, h8, h9, h10, hlt, hm, hm1, hgi, hld, hle, -List.length_flatMap]
      refine hcmp _ _ _ fun σ'' hgr2 => ?_
      by_cases hc : ord l[m] < 0
      · simp [wops_cons, hc, hw]
        refine ⟨_, ?_, h0, h1, h2, h8, hi, h10, ⟨by omega, by omega, hhi, rfl, fun j hjl hj => ?_, hr⟩, hgr.trans hgr2⟩
        · omega
        · by_cases hj' : j = m
          · subst hj'; exact hc
          · exact hmono j m hjl hm1 (by omega) hc
      · simp [wops_cons, hc]
        refine ⟨_, ?_, h0, h1, h2, h8, lo, h9, ⟨hlo, by omega, by omega, rfl, hl, fun j hjl hj => ?_⟩, hgr.trans hgr2⟩
        · omega
        · by_cases hj' : j = m
          · subst hj'; omega
          · have := hmono m j hm1 hjl (by omega)
            omega
    · obtain ⟨k, rfl⟩ := Int.eq_ofNat_of_zero_le hlo
      have hk : hi = k := by omega
      have hcut : Cut ord l k := ⟨by omega, fun j hj h => hl j hj (by omega), fun j hj h => hr j hj (by omega)⟩
      by_cases hkl : k < l.length
      · have hld := row_get (enc := encR) (fun _ => rfl) hrow k hkl
        have hle := row_le hlen k hkl
        simp [wops_cons, wops_if', dstOf, h0, h1, h2, h8, h9, h10, hlt, hkl, hgi, hld, hle, -List.length_flatMap]
        refine hcmp _ _ _ fun σ'' hgr2 => ?_
        have := h k σ'' hcut (hgr.trans hgr2)
        simp [wops_cons, wops_if', dstOf, hkl] at this ⊢
        exact this
      · have := h k σ' hcut hgr
        simp [wops_cons, wops_if', dstOf, h0, h1, h2, h8, h9, h10, hlt, hkl] at this ⊢
        exact this
  · refine ⟨_, 0, l.length, rfl, ?_⟩
    simp
    exact ⟨⟨fun j _ h => by omega, fun j h1 h2 => by omega⟩, Grow.refl σ⟩

end Go.Sm
/- Stores: a row more; the store itself. -/
set_option linter.unusedVariables false
set_option linter.unusedSimpArgs false
namespace Go.Sm
open Go Go.Proofs
set_option maxRecDepth 100000
set_option maxHeartbeats 1000000
theorem ins_own_95 (b : Nat) (l : List RV) (x : RV) (a : Nat) (ha : a ≤ l.length) (v : Value) (σ : CSt) (hb : b ≤ σ.n) (hown : OwnZ b σ 116 encR v l) (j : Nat) (hj : σ.get j = some (.cells (encR x) 116 false))
    (hji : ∀ i off n c, v = .slice (some ⟨i, off, none⟩) n c → i ≠ j) (hbig : l.length < 2 ^ 40) (Q : Out → CSt → Prop)
    (h : ∀ (v' : Value) (σ' : CSt), Own b σ' 116 encR v' (l.take a ++ x :: l.drop a) → Fr (fun t => t = 116) b σ σ' → Q (.ret v' false) σ') :
    W E1 (.fn 65 #[v, .int .i64 a, .slice (some ⟨j, 0, none⟩) 1 1] none) σ Q := by
  have hxl : (encR x).length = 2 := rfl
  rcases hown with ⟨rfl, rfl⟩ | ⟨i, cap, zs, rfl, hbi, hin, hg, hzs, hcap⟩
  · have ha0 : a = 0 := by simpa using ha
    subst ha0
    rw [Int.natCast_zero, W_gam (E := E1) (f := 65) (g := insG 116 2 40) rfl rfl (v := .slice (some ⟨σ.n, 0, none⟩) 1 openCap) (σ' := σ.alloc (.cells (encR x) 116 false)) (insG_nil hj rfl rfl (by omega))]
    exact h _ _ (.inr ⟨σ.n, openCap, rfl, hb, by simp, by simp, .inl rfl⟩) ((Fr.refl (fun t => t = 116) b σ).alloc _)
  · have hij := hji i 0 _ _ rfl
    have hrl : (l.flatMap encR).length = l.length * 2 := enc_length encR (fun _ => rfl) l
    have hck : cokL (l.flatMap encR) = true := cokL_enc (fun _ => rfl) l
    have hck2 : cokL (l.flatMap encR ++ zs) = true := by rw [cokL_append, hck, hzs]; rfl
    have hrl2 : (l.flatMap encR ++ zs).length = l.length * 2 + zs.length := by rw [List.length_append, hrl]
    rcases hcap with rfl | ⟨rfl, rfl, rfl⟩
    · have he := insRow_encZ (enc := encR) (l := l) (sz := 2) (fun _ => rfl) a ha x zs
      rw [W_gam (E := E1) (f := 65) (g := insG 116 2 40) rfl rfl (v := .slice (some ⟨σ.n, 0, none⟩) (l.length + 1) openCap) (σ' := (σ.put i .dead).alloc (.cells ((l.take a ++ x :: l.drop a).flatMap encR) 116 false)) (by
        rw [insG_some (sz := 2) hg hj rfl rfl (by omega) (by omega) hij (by omega) (cokL_take hck2 _) (by omega) (by omega) hbig, if_pos rfl, ← he]
        rfl)]
      refine h _ _ (.inr ⟨σ.n, openCap, ?_, hb, by simp, by simp, .inl rfl⟩) (((Fr.refl (fun t => t = 116) b σ).put hbi hg rfl _).alloc _)
      have : (l.take a ++ x :: l.drop a).length = l.length + 1 := by simp; omega
      rw [this]
    · have ha0 : a = 0 := by simpa using ha
      subst ha0
      rw [Int.natCast_zero, W_gam (E := E1) (f := 65) (g := insG 116 2 40) rfl rfl (v := .slice (some ⟨σ.n, 0, none⟩) 1 openCap) (σ' := σ.alloc (.cells (encR x) 116 false)) (by
        have hg' : σ.get i = some (.cells [] 116 false) := hg
        exact (insG_some (sz := 2) (n := 0) hg' hj rfl rfl (by omega) (by omega) hij (by simp) (by simp) (by omega) (by omega) (by omega)).trans ((if_neg (by simp [openCap])).trans (if_pos ⟨rfl, rfl⟩)))]
      exact h _ _ (.inr ⟨σ.n, openCap, rfl, hb, by simp, by simp, .inl rfl⟩) ((Fr.refl (fun t => t = 116) b σ).alloc _)

def Rws (σ : CSt) (R : List RV) (S : Stl) : Prop := R.length = S.length ∧ ∀ j (h : j < R.length) (h' : j < S.length), R[j].key = S[j].1 ∧ Sl σ 33 3 encV (.slice R[j].p R[j].n R[j].c) S[j].2
theorem Rws.fr {T : TypeId → Prop} {b : Nat} {σ σ' : CSt} {R : List RV} {S : Stl} (h : Rws σ R S) (ht : ¬ T 33) (hg : Fr T b σ σ') : Rws σ' R S := ⟨h.1, fun j h1 h2 => ⟨(h.2 j h1 h2).1, (h.2 j h1 h2).2.fr ht hg⟩⟩
theorem Rws.grow {σ σ' : CSt} {R : List RV} {S : Stl} (h : Rws σ R S) (hg : Grow σ σ') : Rws σ' R S := ⟨h.1, fun j h1 h2 => ⟨(h.2 j h1 h2).1, (h.2 j h1 h2).2.grow hg⟩⟩
theorem Rws.ins {σ : CSt} {R : List RV} {S : Stl} (h : Rws σ R S) (a : Nat) (ha : a ≤ R.length) (r : RV) (s : ByteArray × List Ver) (hr : r.key = s.1) (hs : Sl σ 33 3 encV (.slice r.p r.n r.c) s.2) : Rws σ (R.take a ++ r :: R.drop a) (S.take a ++ s :: S.drop a) := by
  have hl := h.1
  refine ⟨by simp; omega, fun j h1 h2 => ?_⟩
  rcases Nat.lt_trichotomy j a with hj | hj | hj
  · have e1 : (R.take a ++ r :: R.drop a)[j] = R[j] := by rw [List.getElem_append_left (by simp; omega), List.getElem_take]
    have e2 : (S.take a ++ s :: S.drop a)[j] = S[j] := by rw [List.getElem_append_left (by simp; omega), List.getElem_take]
    rw [e1, e2]; exact h.2 j _ _
  · subst hj
    have e1 : (R.take j ++ r :: R.drop j)[j] = r := by rw [List.getElem_append_right (by simp; omega)]; simp [Nat.min_eq_left ha]
    have e2 : (S.take j ++ s :: S.drop j)[j] = s := by rw [List.getElem_append_right (by simp; omega)]; simp [Nat.min_eq_left (hl ▸ ha)]
    rw [e1, e2]; exact ⟨hr, hs⟩
  · obtain ⟨k, rfl⟩ : ∃ k, j = a + 1 + k := ⟨j - (a + 1), by omega⟩
    have hk : a + k < R.length := by simp at h1; omega
    have e1 : (R.take a ++ r :: R.drop a)[a + 1 + k] = R[a + k] := by
      rw [List.getElem_append_right (by simp; omega)]
      have : a + 1 + k - (R.take a).length = k + 1 := by simp; omega
      simp only [this, List.getElem_cons_succ, List.getElem_drop]
    have e2 : (S.take a ++ s :: S.drop a)[a + 1 + k] = S[a + k] := by
      rw [List.getElem_append_right (by simp; omega)]
      have : a + 1 + k - (S.take a).length = k + 1 := by simp; omega
      simp only [this, List.getElem_cons_succ, List.getElem_drop]
    rw [e1, e2]; exact h.2 (a + k) _ _
theorem Rws.set {σ : CSt} {R : List RV} {S : Stl} (h : Rws σ R S) (a : Nat) (r : RV) (s : ByteArray × List Ver) (hr : r.key = s.1) (hs : Sl σ 33 3 encV (.slice r.p r.n r.c) s.2) : Rws σ (R.set a r) (S.set a s) := by
  have hl := h.1
  refine ⟨by simp; omega, fun j h1 h2 => ?_⟩
  by_cases e : a = j
  · subst e; simp; exact ⟨hr, hs⟩
  · rw [List.getElem_set_ne e, List.getElem_set_ne e]; exact h.2 j _ _
/-- A store that was made behind a point. -/
def St (b : Nat) (σ : CSt) (i : Nat) (S : Stl) : Prop := ∃ vr R, b ≤ i ∧ i < σ.n ∧ σ.get i = some (.cells [vr] 114 false) ∧ OwnZ b σ 116 encR vr R ∧ Rws σ R S
def stT (t : TypeId) : Prop := t = 116 ∨ t = 114
theorem St.grow {b : Nat} {σ σ' : CSt} {i : Nat} {S : Stl} (h : St b σ i S) (hg : Grow σ σ') : St b σ' i S := by
  obtain ⟨vr, R, h1, h2, h3, h4, h5⟩ := h
  exact ⟨vr, R, h1, Nat.lt_of_lt_of_le h2 hg.n, hg.get h3 h2, h4.grow hg, h5.grow hg⟩
theorem new_spec (σ : CSt) (Q : Out → CSt → Prop) (h : ∀ σ', St σ.n σ' σ.n [] → Grow σ σ' → Q (.ret (.pointer (some ⟨σ.n, 0, none⟩)) false) σ') : W E1 (.fn 53 #[] none) σ Q := by
  rw [W_fn (fn := Tryz.f53) Tryz.func53 rfl rfl rfl]
  have := h (σ.alloc (.cells [.slice none 0 0] 114 false)) ⟨.slice none 0 0, [], Nat.le_refl _, by simp, by simp, OwnZ.nil, rfl, fun j h => by simp at h⟩ ((Grow.refl σ).alloc _)
  simpa [wops_cons] using this
theorem find_store (S : Stl) (hk : KS S) (R : List RV) (v : Value) (k : ByteArray) (σ : CSt) (hr : Rws σ R S) (hsl : Sl σ 116 2 encR v R) (hbig : S.length < 2 ^ 40) (Q : Out → CSt → Prop)
    (h : ∀ (n : Nat) (σ' : CSt), Pos S k n → Grow σ σ' → Q (.ret (.tuple #[.int .i64 n, .bool (decide (∃ h : n < S.length, S[n].1 = k))]) false) σ') :
    W E1 (.fn 63 #[v, .string k, .func (.func 64) #[] #[]] none) σ Q := by
  have hl := hr.1
  have hlt : ∀ r : RV, ordR k r < 0 ↔ klt r.key k = true := by
    intro r
    unfold ordR
    cases h1 : klt r.key k
    · by_cases h2 : r.key = k <;> simp [h2]
    · simp
  have hz : ∀ r : RV, ordR k r = 0 ↔ r.key = k := by
    intro r
    unfold ordR
    cases h1 : klt r.key k
    · by_cases h2 : r.key = k <;> simp [h2]
    · simp
      intro e
      rw [e, klt_irrefl] at h1
      cases h1
  refine search_95 R v _ rfl (ordR k) σ hsl (by omega) (fun x σ Q h => orderR_spec k x σ Q h) (fun j m hj hm hjm ho => ?_) Q fun n σ' hc hg => ?_
  · rw [hlt] at ho ⊢
    have h1 := (hr.2 j hj (by omega)).1
    have h2 := (hr.2 m hm (by omega)).1
    have h3 := List.pairwise_iff_getElem.1 hk j m (by omega) (by omega) hjm
    rw [h2] at ho
    rw [h1]
    exact klt_trans h3 ho
  · have hp : Pos S k n := by
      refine ⟨by have := hc.le; omega, fun j hj hjn => ?_, fun j hj hjn => ?_⟩
      · have := hc.lo j (by omega) hjn
        rw [hlt, (hr.2 j (by omega) hj).1] at this
        exact this
      · have := hc.hi j (by omega) hjn
        cases h1 : klt S[j].1 k
        · rfl
        · have h2 := (hlt R[j]).2 (by rw [(hr.2 j (by omega) hj).1]; exact h1)
          omega
    have := h n σ' hp hg
    have e : (∃ h : n < R.length, ordR k R[n] = 0) ↔ ∃ h : n < S.length, S[n].1 = k :=
      ⟨fun ⟨h1, h2⟩ => ⟨by omega, by rw [← (hr.2 n h1 (by omega)).1]; exact (hz _).1 h2⟩, fun ⟨h1, h2⟩ => ⟨by omega, (hz _).2 (by rw [(hr.2 n (by omega) h1).1]; exact h2)⟩⟩
    rw [decide_eq_decide.2 e]
    exact this
end Go.Sm
/- Stores: Put. -/
set_option linter.unusedVariables false
set_option linter.unusedSimpArgs false
namespace Go.Sm
open Go Go.Proofs
set_option maxRecDepth 100000
set_option maxHeartbeats 4000000
theorem encR_set1 (R : List RV) (n : Nat) (h : n < R.length) (p : Option Addr) (m c : Nat) : (R.flatMap encR).take (n * 2 + 1) ++ .slice p m c :: (R.flatMap encR).drop (n * 2 + 1 + 1) = (R.set n ⟨R[n].key, p, m, c⟩).flatMap encR := by
  have h1 := enc_set encR (n := 2) lenR R n ⟨R[n].key, p, m, c⟩ h
  rw [← h1]
  have hl : (R.flatMap encR).length = R.length * 2 := enc_length encR lenR R
  have h2 : n * 2 < (R.flatMap encR).length := by omega
  have hrow : ((R.flatMap encR).drop 0).take (R.length * 2) = R.flatMap encR := by rw [List.drop_zero, List.take_of_length_le (by omega)]
  have h3 := row_cell (enc := encR) lenR hrow n 0 h (by omega)
  rw [Nat.zero_add, Nat.add_zero, List.getElem?_eq_getElem h2] at h3
  have h4 : (R.flatMap encR)[n * 2] = .string R[n].key := by simpa [encR] using h3
  rw [List.take_succ_eq_append_getElem h2, h4]
  simp [encR]
theorem hbits : ∀ j, j < 17 → Nat.testBit 131071 j = true := by decide
theorem put_store (b : Nat) (i : Nat) (S : Stl) (hk : KS S) (hc : ∀ s ∈ S, Srt s.2) (hcl : ∀ s ∈ S, s.2.length < 2 ^ 38) (k : ByteArray) (x : Ver) (σ : CSt) (hb : b ≤ σ.n) (hst : St b σ i S) (hbig : S.length < 2 ^ 38) (Q : Out → CSt → Prop)
    (h : ∀ (n : Nat) (σ' : CSt), Pos S k n → St b σ' i (putAt S k x n) → Fr stT b σ σ' → Q (.ret (.tuple #[]) false) σ') :
    W E1 (.fn 39 #[.pointer (some ⟨i, 0, none⟩), .string k, .agg (encV x).toArray] none) σ Q := by
  obtain ⟨vr, R, hbi, hin, hg, hown, hrw⟩ := hst
  rw [W_fn (fn := Tryz.f39) Tryz.func39 rfl rfl rfl]
  have hni : ¬ i = σ.n := by omega
  have hga : Grow σ (σ.alloc (.cells (encV x) 33 false)) := (Grow.refl σ).alloc _
  obtain ⟨pr, cr, rfl⟩ := (hown.sl (sz := 2) lenR).form
  have hl := hrw.1
  simp [wops_cons, encV, hg, hni]
  simp only [encV] at hga
  refine find_store S hk R _ k _ (hrw.grow hga) ((hown.grow hga).sl lenR) (by omega) _ fun n σ1 hp g1 => ?_
  have hg1 := hga.trans g1
  have hgi := hg1.get hg hin
  have hcell : σ1.get σ.n = some (.cells [.int .u64 x.at_, .string x.val, .bool x.gone] 33 false) := g1.get (by simp) (by simp)
  have hn1 : σ.n < σ1.n := by have := g1.n; simp at this; omega
  have hown1 := hown.grow hg1
  have hrw1 := hrw.grow hg1
  by_cases hfo : ∃ h : n < S.length, S[n].1 = k
  · obtain ⟨hnS, hkey⟩ := hfo
    rw [decide_eq_true ⟨hnS, hkey⟩]
    have hput : putAt S k x n = S.set n (k, putL S[n].2 x) := by
      unfold putAt
      rw [List.getElem?_eq_getElem hnS]
      simp only [hkey, if_true]
    have hnR : n < R.length := by omega
    obtain ⟨hkeyR, hslR⟩ := hrw1.2 n hnR hnS
    rcases hown1 with ⟨h1, h2⟩ | ⟨o, cap, zs, h1, hbo, hon, hgo, hzs, hcap⟩
    · rw [h2] at hnR; simp at hnR
    · cases h1
      have hrl : (R.flatMap encR).length = R.length * 2 := enc_length encR lenR R
      have hrow : ((R.flatMap encR ++ zs).drop 0).take (R.length * 2) = R.flatMap encR := by rw [List.drop_zero, ← hrl, List.take_left]
      have hrlz : (R.flatMap encR ++ zs).length = R.length * 2 + zs.length := by rw [List.length_append, hrl]
      have hsetz : ∀ (p : Option Addr) (m c : Nat), (R.flatMap encR ++ zs).take (n * 2 + 1) ++ .slice p m c :: (R.flatMap encR ++ zs).drop (n * 2 + 1 + 1) = (R.set n ⟨R[n].key, p, m, c⟩).flatMap encR ++ zs := fun p m c => by
        rw [List.take_append_of_le_length (by omega), List.drop_append_of_le_length (by omega), ← List.cons_append, ← List.append_assoc, encR_set1 R n hnR p m c]
      generalize R.flatMap encR ++ zs = row at hgo hrow hrlz hsetz
      have hcel := row_cell (enc := encR) lenR hrow n 1 hnR (by omega)
      rw [Nat.zero_add] at hcel
      have hcel2 : row[n * 2 + 1]? = some (.slice R[n].p R[n].n R[n].c) := hcel
      have hle2 : n * 2 + 1 + 1 ≤ row.length := by omega
      simp [wops_cons, hgi, hcell]
      refine W_drawn (l := [0, 1, 2, 3, 4, 5, 6, 7, 8, 9, 10, 11, 12, 13, 14, 15, 16, 17]) (b := #[0, 1, 3, 7, 0, 0, 32, 96, 224, 0, 992, 2016, 4064, 0, 16352, 32767, 65535, 131071]) (by kernel_rfl) (by kernel_rfl) (by kernel_rfl) ?_
      simp [dopsR_cons, opAt, isEff, again, befBits, isRead, Nat.add_assoc, hgi, hcell, hgo, hnR, hcel2, hrl, -List.length_flatMap]
      have hsrt := hc _ (List.getElem_mem hnS)
      have hlen := hcl _ (List.getElem_mem hnS)
      have hps := fun Q => put_spec S[n].2 hsrt (.slice R[n].p R[n].n R[n].c) x σ1 hslR (by omega) Q
      simp only [encV] at hps
      refine hps _ fun v2 σ2 h2 g2 => ?_
      obtain ⟨p2, c2, rfl⟩ := (h2.sl (sz := 3) (fun _ => rfl)).form
      have hgi2 := g2.get hgi (Nat.lt_of_lt_of_le hin hg1.n)
      have hgo2 := g2.get hgo hon
      have hcell2 := g2.get hcell hn1
      simp [dopsR_cons, opAt, isEff, again, befBits, isRead, Nat.add_assoc, hgi2, hgo2, hcell2, hnR, hcel2, hrl, hle2, hbits, -List.length_flatMap]
      rw [hsetz]
      have hR2 := (hrw1.grow g2).set n ⟨R[n].key, p2, (putL S[n].2 x).length, c2⟩ (k, putL S[n].2 x) (by rw [hkeyR, hkey]) (h2.sl (fun _ => rfl))
      have hoi : ¬ i = o := by
        intro e
        subst e
        rw [hgi] at hgo
        have h1 := Option.some.inj hgo
        injection h1 with _ h2
        exact absurd h2 (by decide)
      have hF : Fr stT b σ (σ2.put o (.cells ((R.set n ⟨R[n].key, p2, (putL S[n].2 x).length, c2⟩).flatMap encR ++ zs) 116 false)) := ((hg1.trans g2).fr (T := stT)).put hbo hgo2 (.inl rfl) _
      refine h n _ hp ?_ hF
      rw [hput]
      have hon2 := Nat.lt_of_lt_of_le hon g2.n
      have hin2 := Nat.lt_of_lt_of_le (Nat.lt_of_lt_of_le hin hg1.n) g2.n
      have hfr : Fr (fun t => t = 116) 0 σ2 (σ2.put o (.cells ((R.set n ⟨R[n].key, p2, (putL S[n].2 x).length, c2⟩).flatMap encR ++ zs) 116 false)) := (Fr.refl (fun t => t = 116) 0 σ2).put (Nat.zero_le _) hgo2 rfl _
      refine ⟨_, R.set n ⟨R[n].key, p2, (putL S[n].2 x).length, c2⟩, hbi, by simpa using hin2, by rw [CSt.get_put, if_neg hoi]; exact hgi2, .inr ⟨o, cr, zs, by simp, hbo, by simpa using hon2, by simp, hzs, ?_⟩, hR2.fr (by decide) hfr⟩
      rcases hcap with h | ⟨h, _⟩
      · exact .inl h
      · rw [h] at hnR; simp at hnR
  · have hput : putAt S k x n = S.take n ++ (k, putL [] x) :: S.drop n := by
      unfold putAt
      cases hn : S[n]? with
      | none => rfl
      | some s =>
        have hs : ¬ s.1 = k := fun e => hfo (by
          obtain ⟨h1, h2⟩ := List.getElem?_eq_some_iff.1 hn
          exact ⟨h1, by rw [h2]; exact e⟩)
        simp only [hs, if_false]
    rw [decide_eq_false hfo]
    have hnR : n ≤ R.length := by have := hp.le; omega
    have hg2a : Grow σ1 (σ1.alloc (.cells (encR ⟨k, none, 0, 0⟩) 116 false)) := (Grow.refl σ1).alloc _
    have hji : ∀ o off m c, Value.slice pr R.length cr = .slice (some ⟨o, off, none⟩) m c → o ≠ σ1.n := by
      rintro o off m c e
      rcases hown1 with ⟨h0, _⟩ | ⟨i', cap, _, h0, _, h1, _⟩
      · rw [h0] at e; cases e
      · rw [h0] at e; cases e; omega
    have hins := fun Q => ins_own_95 b R ⟨k, none, 0, 0⟩ n hnR (.slice pr R.length cr) _ (by have := hg1.n; simp; omega) (hown1.grow hg2a) σ1.n (by simp) hji (by omega) Q
    simp only [encR] at hins hg2a
    simp [wops_cons, hgi, hcell]
    refine hins _ fun v2 σ2 h2 g2 => ?_
    have hin1 := Nat.lt_of_lt_of_le hin hg1.n
    have hgi2 : σ2.get i = some (.cells [.slice pr R.length cr] 114 false) := g2.get (hg2a.get hgi hin1) (by simp; omega) (.inr fun row e ro he => by injection he with _ h2 _; rw [← h2]; decide)
    have hcell2 : σ2.get σ.n = some (.cells [.int .u64 x.at_, .string x.val, .bool x.gone] 33 false) := g2.get (hg2a.get hcell hn1) (by simp; omega) (.inr fun row e ro he => by injection he with _ h2 _; rw [← h2]; decide)
    have hRl : (R.take n ++ (⟨k, none, 0, 0⟩ : RV) :: R.drop n).length = R.length + 1 := by simp; omega
    have hRn : (R.take n ++ (⟨k, none, 0, 0⟩ : RV) :: R.drop n)[n]? = some ⟨k, none, 0, 0⟩ := by
      rw [List.getElem?_append_right (by simp; omega)]
      simp [Nat.min_eq_left hnR]
    have hrw2 := (((hrw1.grow hg2a).fr (T := fun t => t = 116) (by decide) g2)).ins n hnR ⟨k, none, 0, 0⟩ (k, []) rfl Sl.nil
    have hSset : (S.take n ++ ((k, []) : ByteArray × List Ver) :: S.drop n).set n (k, putL [] x) = S.take n ++ (k, putL [] x) :: S.drop n := by
      have h0 : n = (S.take n).length + 0 := by rw [List.length_take, Nat.min_eq_left hp.le, Nat.add_zero]
      conv => lhs; arg 2; rw [h0]
      rw [List.set_append_right _ _ (by omega)]
      simp
    generalize hR' : (R.take n ++ (⟨k, none, 0, 0⟩ : RV) :: R.drop n) = R' at h2 hRl hRn hrw2
    obtain ⟨hnR', hRn'⟩ := List.getElem?_eq_some_iff.1 hRn
    have hslR : Sl σ2 33 3 encV (.slice none 0 0) ([] : List Ver) := Sl.nil
    rcases h2 with ⟨h1, h2⟩ | ⟨o, cap, h1, hbo, hon, hgo, hcap⟩
    · rw [h2] at hnR'; simp at hnR'
    · subst h1
      have hrl : (R'.flatMap encR).length = R'.length * 2 := enc_length encR lenR R'
      have hrow : ((R'.flatMap encR).drop 0).take (R'.length * 2) = R'.flatMap encR := by rw [List.drop_zero, List.take_of_length_le (by omega)]
      have hcel := row_cell (enc := encR) lenR hrow n 1 hnR' (by omega)
      rw [Nat.zero_add, hRn'] at hcel
      have hcel2 : (R'.flatMap encR)[n * 2 + 1]? = some (.slice none 0 0) := hcel
      have hle2 : n * 2 + 1 + 1 ≤ R'.length * 2 := by omega
      have hoi : ¬ i = o := by
        intro e
        subst e
        rw [hgi2] at hgo
        have h1 := Option.some.inj hgo
        injection h1 with _ h2
        exact absurd h2 (by decide)
      have hni2 : ¬ σ.n = i := by omega
      have hoi2 : ¬ o = i := fun e => hoi e.symm
      have hin2 : i < σ2.n := by have := g2.1; simp at this; omega
      simp [wops_cons, hgi2, hcell2]
      refine W_drawn (l := [0, 1, 2, 3, 4, 5, 6, 7, 8, 9, 10, 11, 12, 13, 14, 15, 16, 17]) (b := #[0, 1, 3, 7, 0, 0, 32, 96, 224, 0, 992, 2016, 4064, 0, 16352, 32767, 65535, 131071]) (by kernel_rfl) (by kernel_rfl) (by kernel_rfl) ?_
      simp [dopsR_cons, opAt, isEff, again, befBits, isRead, Nat.add_assoc, hgi2, hcell2, hgo, hnR', hcel2, hrl, hoi, hoi2, hni2, -List.length_flatMap]
      have hgp : (σ2.put i (.cells [.slice (some ⟨o, 0, none⟩) R'.length cap] 114 false)).get o = some (.cells (R'.flatMap encR) 116 false) := by rw [CSt.get_put, if_neg hoi2]; exact hgo
      have hgip : (σ2.put i (.cells [.slice (some ⟨o, 0, none⟩) R'.length cap] 114 false)).get i = some (.cells [.slice (some ⟨o, 0, none⟩) R'.length cap] 114 false) := by rw [CSt.get_put, if_pos rfl]
      have hcep : (σ2.put i (.cells [.slice (some ⟨o, 0, none⟩) R'.length cap] 114 false)).get σ.n = some (.cells [.int .u64 x.at_, .string x.val, .bool x.gone] 33 false) := by rw [CSt.get_put, if_neg hni2]; exact hcell2
      have hFi : Fr (fun t => t = 114) 0 σ2 (σ2.put i (.cells [.slice (some ⟨o, 0, none⟩) R'.length cap] 114 false)) := (Fr.refl (fun t => t = 114) 0 σ2).put (Nat.zero_le _) hgi2 rfl _
      have hF3 : Fr stT b σ (σ2.put i (.cells [.slice (some ⟨o, 0, none⟩) R'.length cap] 114 false)) := ((((hg1.trans hg2a).fr (T := stT) (b := b)).trans (g2.mono (fun e he => .inl he) (Nat.le_refl _)))).put hbi hgi2 (.inr rfl) _
      have hrw3 := hrw2.fr (T := fun t => t = 114) (by decide) hFi
      have hn3 : (σ2.put i (.cells [.slice (some ⟨o, 0, none⟩) R'.length cap] 114 false)).n = σ2.n := rfl
      have hns2 : σ.n < σ2.n := by have := g2.1; simp at this; omega
      generalize hσ3 : σ2.put i (.cells [.slice (some ⟨o, 0, none⟩) R'.length cap] 114 false) = σ3 at hgp hgip hcep hF3 hrw3 hn3 ⊢
      have hps := fun Q => put_spec [] List.Pairwise.nil (.slice none 0 0) x σ3 Sl.nil (by simp) Q
      simp only [encV] at hps
      refine hps _ fun v4 σ4 h4 g4 => ?_
      obtain ⟨p4, c4, rfl⟩ := (h4.sl (sz := 3) (fun _ => rfl)).form
      have hgi4 := g4.get hgip (by omega)
      have hgo4 := g4.get hgp (by omega)
      have hcell4 := g4.get hcep (by omega)
      simp [dopsR_cons, opAt, isEff, again, befBits, isRead, Nat.add_assoc, hgi4, hgo4, hcell4, hnR', hcel2, hrl, hle2, hbits, -List.length_flatMap]
      have hset := encR_set1 R' n hnR' p4 (putL [] x).length c4
      rw [hRn'] at hset
      rw [hset]
      have hR4 := (hrw3.grow g4).set n ⟨k, p4, (putL [] x).length, c4⟩ (k, putL [] x) rfl (h4.sl (fun _ => rfl))
      rw [hSset, ← hput] at hR4
      have hF : Fr stT b σ (σ4.put o (.cells ((R'.set n ⟨k, p4, (putL [] x).length, c4⟩).flatMap encR) 116 false)) := (hF3.trans g4.fr).put hbo hgo4 (.inl rfl) _
      refine h n _ hp ?_ hF
      have hn4 := g4.n
      have hfr : Fr (fun t => t = 116) 0 σ4 (σ4.put o (.cells ((R'.set n ⟨k, p4, (putL [] x).length, c4⟩).flatMap encR) 116 false)) := (Fr.refl (fun t => t = 116) 0 σ4).put (Nat.zero_le _) hgo4 rfl _
      refine ⟨_, R'.set n ⟨k, p4, (putL [] x).length, c4⟩, hbi, by simp; omega, by rw [CSt.get_put, if_neg hoi]; exact hgi4, .inr ⟨o, cap, [], by simp, hbo, by simp; omega, by simp, rfl, ?_⟩, hR4.fr (by decide) hfr⟩
      rcases hcap with h | ⟨h, _⟩
      · exact .inl h
      · rw [h] at hnR'; simp at hnR'
end Go.Sm
/- Stores: All, gone over. -/
set_option linter.unusedVariables false
set_option linter.unusedSimpArgs false
namespace Go.Sm
open Go Go.Proofs
set_option maxRecDepth 100000
set_option maxHeartbeats 4000000
/-- The store's objects are as they were. -/
def Kept (σ σ' : CSt) : Prop := σ.n ≤ σ'.n ∧ ∀ m, m < σ.n → ∀ row e ro, σ.get m = some (.cells row e ro) → (e = 116 ∨ e = 114 ∨ e = 33 ∨ e = 61) → σ'.get m = σ.get m
theorem Kept.sl {α : Type} {σ σ' : CSt} {e : TypeId} {sz : Nat} {enc : α → List Value} {v : Value} {l : List α} (hk : Kept σ σ') (h : Sl σ e sz enc v l) (he : e = 116 ∨ e = 114 ∨ e = 33 ∨ e = 61) : Sl σ' e sz enc v l := by
  rcases h with h | ⟨i, off, cap, row, ro, h1, h2, h3, h4⟩
  · exact .inl h
  · exact .inr ⟨i, off, cap, row, ro, h1, by rw [hk.2 i h3 _ _ _ h2 he]; exact h2, Nat.lt_of_lt_of_le h3 hk.1, h4⟩
theorem Grow.kept {σ σ' : CSt} (h : Grow σ σ') : Kept σ σ' := ⟨h.n, fun m hm _ _ _ _ _ => h.old m hm⟩
theorem hbits63 : ∀ j, j < 6 → Nat.testBit 63 j = true := by decide
theorem all_spec (b : Nat) (i : Nat) (S : Stl) (q L : Nat) (qo : Bool) (σ : CSt) (hst : St b σ i S) (hq : σ.get q = some (.cells [.pointer (some ⟨i, 0, none⟩)] 61 qo)) (hqn : q < σ.n) (hbig : S.length < 2 ^ 38) (hcl : ∀ s ∈ S, s.2.length < 2 ^ 38)
    (Inv : Nat → CSt → Prop) (Done : CSt → Prop) (hkept : ∀ j σ', Inv j σ' → Kept σ σ') (hgrow : ∀ j σ' σ'', Inv j σ' → Grow σ' σ'' → Inv j σ'') (h0 : Inv 0 σ)
    (hround : ∀ (j : Nat) (hj : j < S.length) (σ' : CSt) (v : Value) (b' : Nat) (Q' : Out → CSt → Prop), Inv j σ' → σ.n ≤ b' → b' ≤ σ'.n → Own b' σ' 33 encV v S[j].2 →
      (∀ (ok : Bool) σ'', (ok = true → Inv (j + 1) σ'') → (ok = false → Done σ'') → Q' (.ret (.bool ok) false) σ'') → W E1 (.round L #[.string S[j].1, v]) σ' Q')
    (Q : Out → CSt → Prop) (h1 : ∀ σ', Inv S.length σ' → Q (.ret (.tuple #[]) false) σ') (h2 : ∀ σ', Done σ' → Q (.ret (.tuple #[]) false) σ') :
    W E1 (.fn 58 #[.func (.yield L) #[] #[], .pointer (some ⟨q, 0, none⟩)] none) σ Q := by
  obtain ⟨vr, R, hbi, hin, hg, hown, hrw⟩ := hst
  rw [W_fn (fn := Tryz.f58) Tryz.func58 rfl rfl rfl]
  have hsR := hown.sl (sz := 2) lenR
  obtain ⟨pr, cr, rfl⟩ := hsR.form
  have hl := hrw.1
  simp [wops_cons, hq, hg]
  refine W_loop_inv (fun n a σ' => ∃ tm j, a = ⟨tm, 23, [], false⟩ ∧ tm.get 0 = some (.func (.yield L) #[] #[]) ∧ tm.get 8 = some (.slice pr R.length cr) ∧ tm.get 9 = some (.int .i64 R.length) ∧ tm.get 10 = some (.int .i64 (j : Nat)) ∧ j ≤ R.length ∧ n = R.length - j ∧ Inv j σ') ?_ R.length _ _ ?_
  · rintro n a σ1 ⟨tm, j, rfl, e0, e8, e9, e10, hj, hn, hinv⟩
    have hkp := hkept j σ1 hinv
    by_cases hjl : j < R.length
    · have hjS : j < S.length := by omega
      obtain ⟨o, off, row, ro, rfl, hgo, hon, hrow, hle⟩ := (hkp.sl hsR (.inl rfl)).at hjl
      have hld := row_get (enc := encR) lenR hrow j hjl
      have hl1 := row_le hle j hjl
      have hw2 := i64n1 j (by omega)
      obtain ⟨hkey, hch⟩ := hrw.2 j hjl hjS
      have hch1 := hkp.sl hch (.inr (.inr (.inl rfl)))
      have hgw : Grow σ1 ((σ1.alloc (.cells [.string ⟨#[]⟩, .slice none 0 0] 116 false)).put σ1.n (.cells [.string R[j].key, .slice R[j].p R[j].n R[j].c] 116 false)) := ((Grow.refl σ1).alloc _).put (Nat.le_refl _) _
      simp [wops_cons, e0, e8, e9, e10, hjl, hgo, hld, hl1]
      simp [wops_cons, encR, e0]
      refine W_drawn (l := [0, 1, 2, 3, 4, 5, 6, 7]) (b := #[0, 0, 2, 0, 8, 24, 63, 127]) (by kernel_rfl) (by kernel_rfl) (by kernel_rfl) ?_
      simp [dopsR_cons, opAt, isEff, again, befBits, isRead, Nat.add_assoc, e0]
      refine clone_29 S[j].2 _ _ (hch1.grow hgw) (by have := hcl _ (List.getElem_mem hjS); omega) _ fun v2 σ2 h2' g2 => ?_
      have hc2 := g2.get (i := σ1.n) (o := .cells [.string R[j].key, .slice R[j].p R[j].n R[j].c] 116 false) (by simp) (by simp)
      simp [dopsR_cons, opAt, isEff, again, befBits, isRead, Nat.add_assoc, e0, hc2]
      rw [hkey]
      refine hround j hjS σ2 v2 _ _ (hgrow j σ1 σ2 hinv (hgw.trans g2)) (by have := hkp.1; simp; omega) g2.n h2' fun ok σ3 ht hf => ?_
      cases ok with
      | true =>
        simp [wops_cons, dopsR_cons, opAt, isEff, again, befBits, isRead, Nat.add_assoc, e0, e8, e9, e10, hbits63, hw2]
        refine ⟨_, ?_, j + 1, rfl, by omega, rfl, ht rfl⟩
        omega
      | false =>
        simp [dopsR_cons, opAt, isEff, again, befBits, isRead, Nat.add_assoc, e0, hbits63]
        exact h2 σ3 (hf rfl)
    · have hjl' : j = R.length := by omega
      subst hjl'
      rw [hl] at hinv
      simp [wops_cons, e0, e8, e9, e10]
      exact h1 σ1 hinv
  · refine ⟨_, 0, rfl, ?_⟩
    simp
    exact h0
end Go.Sm
/- Stores: the laws' Make: a store, and the same as a map. -/
set_option linter.unusedVariables false
set_option linter.unusedSimpArgs false
namespace Go.Sm
open Go Go.Proofs
set_option maxRecDepth 100000
set_option maxHeartbeats 4000000
structure WW where
  key : Int
  v : VV
def encW (w : WW) : List Value := [.int .u8 w.key, .int .u8 w.v.at_, .int .u8 w.v.v, .bool w.v.gone]
theorem lenW (w : WW) : (encW w).length = 4 := rfl
theorem cokW (w : WW) : cokL (encW w) = true := rfl
def WW.ok (w : WW) : Prop := (0 ≤ w.key ∧ w.key < 256) ∧ w.v.ok
/-- A key, by a number below five. -/
def key12 (n : Int) : ByteArray := match n.toNat with
  | 0 => ⟨#[97]⟩ | 1 => ⟨#[98]⟩ | 2 => ⟨#[99]⟩ | 3 => ⟨#[100]⟩ | _ => ⟨#[101]⟩
def WW.k (w : WW) : ByteArray := key12 (w.key.tmod 5)
/-- A map as a list: the keys, and what was put, in order. -/
abbrev Fl := List (ByteArray × List VV)
def putF : Fl → ByteArray → VV → Fl
  | [], k, x => [(k, [x])]
  | p :: F, k, x => if p.1 = k then (k, p.2 ++ [x]) :: F else p :: putF F k x
def MRel (b : Nat) (σ : CSt) : Ml → Fl → Prop
  | [], [] => True
  | p :: M, q :: F => (p.1 = q.1 ∧ Own b σ 78 encU p.2 q.2) ∧ (∀ r ∈ M, ∀ i, objOf p.2 = some i → objOf r.2 ≠ some i) ∧ MRel b σ M F
  | _, _ => False
theorem Own.at_obj {α : Type} {b : Nat} {σ σ' : CSt} {e : TypeId} {enc : α → List Value} {v : Value} {l : List α} (h : Own b σ e enc v l) (hn : σ.n ≤ σ'.n) (hg : ∀ i, objOf v = some i → i < σ.n → σ'.get i = σ.get i) : Own b σ' e enc v l := by
  rcases h with h | ⟨i, cap, h1, hb, hi, h2, h3⟩
  · exact .inl h
  · exact .inr ⟨i, cap, h1, hb, Nat.lt_of_lt_of_le hi hn, by rw [hg i (by rw [h1]; rfl) hi]; exact h2, h3⟩
theorem MRel.own {b : Nat} {σ : CSt} : ∀ {M : Ml} {F : Fl}, MRel b σ M F → ∀ r ∈ M, ∃ l : List VV, Own b σ 78 encU r.2 l
  | [], [], _, r, hr => by cases hr
  | p :: M, q :: F, h, r, hr => by
    rcases List.mem_cons.1 hr with rfl | hr
    · exact ⟨_, h.1.2⟩
    · exact MRel.own h.2.2 r hr
theorem MRel.keep {b : Nat} {σ σ' : CSt} (hn : σ.n ≤ σ'.n) : ∀ {M : Ml} {F : Fl}, MRel b σ M F → (∀ r ∈ M, ∀ i, objOf r.2 = some i → i < σ.n → σ'.get i = σ.get i) → MRel b σ' M F
  | [], [], _, _ => trivial
  | p :: M, q :: F, h, hg => ⟨⟨h.1.1, h.1.2.at_obj hn (hg p (by simp))⟩, h.2.1, MRel.keep hn h.2.2 fun r hr => hg r (by simp [hr])⟩
theorem MRel.fr {T : TypeId → Prop} {b b' : Nat} {σ σ' : CSt} (ht : ¬ T 78) (hg : Fr T b' σ σ') : ∀ {M : Ml} {F : Fl}, MRel b σ M F → MRel b σ' M F
  | [], [], _ => trivial
  | p :: M, q :: F, h => ⟨⟨h.1.1, h.1.2.fr ht hg⟩, h.2.1, MRel.fr ht hg h.2.2⟩
def getF (F : Fl) (k : ByteArray) : List VV := match F.find? (fun p => decide (p.1 = k)) with | some p => p.2 | none => []
theorem MRel.get {b : Nat} {σ : CSt} (k : ByteArray) : ∀ {M : Ml} {F : Fl}, MRel b σ M F → Own b σ 78 encU ((getM M k).getD (.slice none 0 0)) (getF F k)
  | [], [], _ => Own.nil
  | p :: M, q :: F, h => by
    have ih := MRel.get k h.2.2
    unfold getM getF at ih ⊢
    rw [List.find?_cons, List.find?_cons, h.1.1]
    by_cases e : q.1 = k
    · simp only [e, decide_true]; exact h.1.2
    · simp only [e, decide_false]; exact ih
theorem MRel.set {b : Nat} {σ σ' : CSt} (k : ByteArray) (x : VV) (v' : Value) {n c : Nat} (hn : σ.n ≤ σ'.n) (hv : v' = .slice (some ⟨σ.n, 0, none⟩) n c) : ∀ {M : Ml} {F : Fl}, MRel b σ M F → Own b σ' 78 encU v' (getF F k ++ [x]) →
    (∀ j, j < σ.n → (∀ i, objOf ((getM M k).getD (.slice none 0 0)) = some i → j ≠ i) → σ'.get j = σ.get j) → MRel b σ' (setM M k v') (putF F k x)
  | [], [], _, ho, _ => ⟨⟨rfl, ho⟩, by simp, trivial⟩
  | p :: M, q :: F, h, ho, hg => by
    unfold getM at hg
    unfold getF at ho
    rw [List.find?_cons] at hg ho
    unfold setM putF
    rw [h.1.1] at hg ⊢
    have hobj : objOf v' = some σ.n := by rw [hv]; rfl
    by_cases e : q.1 = k
    · simp only [e, decide_true, Option.map_some, Option.getD_some] at hg ho
      rw [if_pos e, if_pos e]
      refine ⟨⟨rfl, ho⟩, fun r hr i hi => ?_, MRel.keep hn h.2.2 fun r hr i hi hlt => hg i hlt fun i' hi' e' => h.2.1 r hr i' hi' (by rw [← e']; exact hi)⟩
      rw [hobj] at hi
      cases hi
      intro h2
      obtain ⟨l, hl⟩ := MRel.own h.2.2 r hr
      have := hl.obj_lt h2
      omega
    · simp only [e, decide_false] at hg ho
      rw [if_neg e, if_neg e]
      refine ⟨⟨h.1.1, h.1.2.at_obj hn fun i hi hlt => hg i hlt fun i' hi' e' => ?_⟩, fun r hr i hi => ?_, MRel.set k x v' hn hv h.2.2 ho hg⟩
      · subst e'
        cases hf : M.find? (fun p => decide (p.1 = k)) with
        | none => rw [hf] at hi'; cases hi'
        | some r =>
          rw [hf] at hi'
          exact h.2.1 r (List.mem_of_find?_eq_some hf) i hi hi'
      · have hlt := h.1.2.obj_lt hi
        have hmem : ∀ {M : Ml}, r ∈ setM M k v' → r ∈ M ∨ r.2 = v' := by
          intro M
          induction M with
          | nil => intro hr; simp [setM] at hr; right; rw [hr]
          | cons a M ih =>
            unfold setM
            split
            · intro hr
              rcases List.mem_cons.1 hr with rfl | hr
              · exact .inr rfl
              · exact .inl (by simp [hr])
            · intro hr
              rcases List.mem_cons.1 hr with rfl | hr
              · exact .inl (by simp)
              · rcases ih hr with h | h
                · exact .inl (by simp [h])
                · exact .inr h
        rcases hmem hr with h1 | h1
        · exact h.2.1 r h1 i hi
        · rw [h1, hobj]
          intro e2
          cases e2
          omega
end Go.Sm
/- Stores as lists: puts, one after the other. -/
set_option linter.unusedSimpArgs false
namespace Go.Sm
def ofK (ws : List WW) (k : ByteArray) : List Ver := (ws.filter fun w => decide (w.k = k)).map fun w => verOf w.v
/-- The store of these versions. -/
structure SRel (S : Stl) (ws : List WW) : Prop where
  ks : KS S
  val : ∀ s ∈ S, s.2 = makeL (ofK ws s.1)
  all : ∀ w ∈ ws, ∃ s ∈ S, s.1 = w.k
  only : ∀ s ∈ S, ∃ w ∈ ws, w.k = s.1
  len : S.length ≤ ws.length
theorem ofK_snoc (ws : List WW) (w : WW) (k : ByteArray) : ofK (ws ++ [w]) k = if w.k = k then ofK ws k ++ [verOf w.v] else ofK ws k := by
  unfold ofK
  rw [List.filter_append]
  by_cases e : w.k = k <;> simp [e]
theorem SRel.srt {S : Stl} {ws : List WW} (h : SRel S ws) : ∀ s ∈ S, Srt s.2 := fun s hs => by rw [h.val s hs]; exact makeL_srt _
theorem SRel.short {S : Stl} {ws : List WW} (h : SRel S ws) : ∀ s ∈ S, s.2.length ≤ ws.length := fun s hs => by
  rw [h.val s hs]
  refine Nat.le_trans (make_len _) ?_
  unfold ofK
  rw [List.length_map]
  exact List.length_filter_le _ _
theorem SRel.nil : SRel [] [] := ⟨List.Pairwise.nil, by simp, by simp, by simp, Nat.le_refl _⟩
theorem SRel.put {S : Stl} {ws : List WW} {w : WW} {n : Nat} (h : SRel S ws) (hp : Pos S w.k n) : SRel (putAt S w.k (verOf w.v) n) (ws ++ [w]) := by
  have hnew : (∀ s, S[n]? = some s → s.1 ≠ w.k) → SRel (S.take n ++ (w.k, putL [] (verOf w.v)) :: S.drop n) (ws ++ [w]) := by
    intro hne
    have hlo : ∀ s ∈ S.take n, klt s.1 w.k = true := fun s hs => by
      obtain ⟨j, hj, rfl⟩ := List.mem_iff_getElem.1 hs
      rw [List.length_take] at hj
      rw [List.getElem_take]
      exact hp.lo j (by omega) (by omega)
    have hhi : ∀ s ∈ S.drop n, klt w.k s.1 = true := fun s hs => by
      obtain ⟨j, hj, rfl⟩ := List.mem_iff_getElem.1 hs
      rw [List.length_drop] at hj
      rw [List.getElem_drop]
      have h1 := hp.hi (n + j) (by omega) (by omega)
      have h0 := hne S[n] (List.getElem?_eq_getElem (by omega))
      have h2 := hp.hi n (by omega) (Nat.le_refl _)
      have h3 : klt w.k S[n].1 = true := by
        cases h4 : klt w.k S[n].1 with
        | true => rfl
        | false => exact absurd (klt_tri h2 h4) h0
      cases j with
      | zero => exact h3
      | succ j => exact klt_trans h3 (List.pairwise_iff_getElem.1 h.ks n (n + (j + 1)) (by omega) (by omega) (by omega))
    have hno : ∀ s ∈ S, s.1 ≠ w.k := fun s hs e => by
      rw [← List.take_append_drop n S] at hs
      rcases List.mem_append.1 hs with hs | hs
      · have := hlo s hs; rw [e, klt_irrefl] at this; cases this
      · have := hhi s hs; rw [e, klt_irrefl] at this; cases this
    have hmem : ∀ s, s ∈ S.take n ++ (w.k, putL [] (verOf w.v)) :: S.drop n ↔ s = (w.k, putL [] (verOf w.v)) ∨ s ∈ S := fun s => by
      conv => rhs; rw [← List.take_append_drop n S]
      simp only [List.mem_append, List.mem_cons]
      exact or_left_comm
    have hempty : ofK ws w.k = [] := by
      unfold ofK
      rw [List.map_eq_nil_iff, List.filter_eq_nil_iff]
      intro u hu
      obtain ⟨s, hs, e⟩ := h.all u hu
      have := hno s hs
      simp
      intro e2
      exact this (by rw [e, e2])
    refine ⟨?_, fun s hs => ?_, fun u hu => ?_, fun s hs => ?_, ?_⟩
    · unfold KS
      rw [List.pairwise_append]
      have hks := h.ks
      unfold KS at hks
      refine ⟨List.Pairwise.sublist (List.take_sublist n S) hks, List.pairwise_cons.2 ⟨fun s hs => hhi s hs, List.Pairwise.sublist (List.drop_sublist n S) hks⟩, fun a ha c hc => ?_⟩
      rcases List.mem_cons.1 hc with rfl | hc
      · exact hlo a ha
      · exact klt_trans (hlo a ha) (hhi c hc)
    · rw [ofK_snoc]
      rcases (hmem s).1 hs with rfl | hs
      · simp only [if_true, hempty, List.nil_append]; rfl
      · rw [if_neg (Ne.symm (hno s hs))]; exact h.val s hs
    · rcases List.mem_append.1 hu with hu | hu
      · obtain ⟨s, hs, e⟩ := h.all u hu
        exact ⟨s, (hmem s).2 (.inr hs), e⟩
      · rw [List.mem_singleton] at hu
        subst hu
        exact ⟨_, (hmem _).2 (.inl rfl), rfl⟩
    · rcases (hmem s).1 hs with rfl | hs
      · exact ⟨w, by simp, rfl⟩
      · obtain ⟨u, hu, e⟩ := h.only s hs
        exact ⟨u, by simp [hu], e⟩
    · have := h.len; have := hp.le; simp; omega
  unfold putAt
  cases hn : S[n]? with
  | none => exact hnew fun s hs => by rw [hn] at hs; cases hs
  | some s =>
    simp only
    by_cases e : s.1 = w.k
    · rw [if_pos e]
      obtain ⟨hnS, hs⟩ := List.getElem?_eq_some_iff.1 hn
      have hks := h.ks
      unfold KS at hks
      have hother : ∀ j (hj : j < S.length), j ≠ n → S[j].1 ≠ w.k := fun j hj hjn e2 => by
        rcases Nat.lt_or_gt_of_ne hjn with h1 | h1
        · have := List.pairwise_iff_getElem.1 hks j n hj hnS h1
          rw [e2, hs, e, klt_irrefl] at this; cases this
        · have := List.pairwise_iff_getElem.1 hks n j hnS hj h1
          rw [e2, hs, e, klt_irrefl] at this; cases this
      have hval := h.val s (by rw [← hs]; exact List.getElem_mem hnS)
      have hget : ∀ j (hj : j < (S.set n (w.k, putL s.2 (verOf w.v))).length), ((S.set n (w.k, putL s.2 (verOf w.v)))[j]).1 = (S[j]'(by simpa using hj)).1 := fun j hj => by
        by_cases e2 : n = j
        · subst e2; simp [hs, e]
        · rw [List.getElem_set_ne e2]
      refine ⟨?_, fun u hu => ?_, fun u hu => ?_, fun u hu => ?_, ?_⟩
      · unfold KS
        rw [List.pairwise_iff_getElem]
        intro i j hi hj hij
        rw [hget, hget]
        exact List.pairwise_iff_getElem.1 hks i j _ _ hij
      · rw [ofK_snoc]
        obtain ⟨j, hj, rfl⟩ := List.mem_iff_getElem.1 hu
        by_cases e2 : n = j
        · subst e2
          simp only [List.getElem_set_self, if_true]
          rw [hval, e, makeL_snoc]
        · rw [List.getElem_set_ne e2]
          have hj' : j < S.length := by simpa using hj
          rw [if_neg (Ne.symm (hother j hj' (Ne.symm e2)))]
          exact h.val _ (List.getElem_mem hj')
      · rcases List.mem_append.1 hu with hu | hu
        · obtain ⟨r, hr, e2⟩ := h.all u hu
          obtain ⟨j, hj, rfl⟩ := List.mem_iff_getElem.1 hr
          have hj' : j < (S.set n (w.k, putL s.2 (verOf w.v))).length := by simpa using hj
          exact ⟨_, List.getElem_mem hj', by rw [hget]; exact e2⟩
        · rw [List.mem_singleton] at hu
          subst hu
          have hn' : n < (S.set n (u.k, putL s.2 (verOf u.v))).length := by simpa using hnS
          exact ⟨_, List.getElem_mem hn', by rw [hget, hs]; exact e⟩
      · obtain ⟨j, hj, rfl⟩ := List.mem_iff_getElem.1 hu
        rw [hget]
        obtain ⟨r, hr, e2⟩ := h.only _ (List.getElem_mem (by simpa using hj : j < S.length))
        exact ⟨r, by simp [hr], e2⟩
      · have := h.len; simp; omega
    · rw [if_neg e]
      exact hnew fun r hr => by rw [hn] at hr; cases hr; exact e
end Go.Sm
/- Sorting strings: the comparison, insertion sort. -/
set_option linter.unusedVariables false
set_option linter.unusedSimpArgs false
namespace Go.Sm
open Go Go.Proofs
set_option maxRecDepth 100000
set_option maxHeartbeats 2000000
def encS (s : ByteArray) : List Value := [.string s]
/-- A row of strings that is sorted in place. -/
def SV (σ : CSt) (i : Nat) (pre post : List Value) (d : Array ByteArray) : Prop := σ.get i = some (.cells (rowD encS pre post d) 9 false) ∧ i < σ.n
theorem SV.put {σ : CSt} {i : Nat} {pre post : List Value} {d : Array ByteArray} (h : SV σ i pre post d) (d' : Array ByteArray) : SV (σ.put i (.cells (rowD encS pre post d') 9 false)) i pre post d' := ⟨by simp, h.2⟩
end Go.Sm
/- Sorting strings: the heap. -/
set_option linter.unusedVariables false
set_option linter.unusedSimpArgs false
namespace Go.Sm
open Go Go.Proofs
set_option maxRecDepth 100000
set_option maxHeartbeats 4000000
end Go.Sm
/- Sorting strings: the heap; the row turned round. -/
set_option linter.unusedVariables false
set_option linter.unusedSimpArgs false
namespace Go.Sm
open Go Go.Proofs
set_option maxRecDepth 100000
set_option maxHeartbeats 4000000
end Go.Sm
/- Sorting: bits.Len, the draws, the patterns broken. -/
set_option linter.unusedVariables false
set_option linter.unusedSimpArgs false
namespace Go.Sm
open Go Go.Proofs
set_option maxRecDepth 100000
set_option maxHeartbeats 4000000
end Go.Sm
/- Sorting strings: the pivot. -/
set_option linter.unusedVariables false
set_option linter.unusedSimpArgs false
namespace Go.Sm
open Go Go.Proofs
set_option maxRecDepth 100000
set_option maxHeartbeats 4000000
/-- But for a counter. -/
def Cnt (p : Nat) (σ σ' : CSt) : Prop := σ'.n = σ.n ∧ (∀ j, j ≠ p → σ'.get j = σ.get j) ∧ ∃ s : Int, σ'.get p = some (.cells [.int .i64 s] 3 false)
theorem Cnt.trans {p : Nat} {a b c : CSt} (h : Cnt p a b) (h' : Cnt p b c) : Cnt p a c := ⟨by rw [h'.1, h.1], fun j hj => by rw [h'.2.1 j hj, h.2.1 j hj], h'.2.2⟩
end Go.Sm
/- Sorting strings: partial insertion sort. -/
set_option linter.unusedVariables false
set_option linter.unusedSimpArgs false
namespace Go.Sm
open Go Go.Proofs
set_option maxRecDepth 100000
set_option maxHeartbeats 4000000
end Go.Sm
/- Sorting strings: the partitions. -/
set_option linter.unusedVariables false
set_option linter.unusedSimpArgs false
namespace Go.Sm
open Go Go.Proofs
set_option maxRecDepth 100000
set_option maxHeartbeats 4000000
end Go.Sm
/- Sorting strings: pdqsort. -/
set_option linter.unusedVariables false
set_option linter.unusedSimpArgs false
namespace Go.Sm
open Go Go.Proofs
set_option maxRecDepth 100000
set_option maxHeartbeats 4000000
/-- What is left to be done. -/
structure Left (a b : Nat) (d : Array ByteArray) (n0 a' b' : Nat) (d' : Array ByteArray) : Prop where
  le : a' ≤ b'
  hi : b' ≤ n0
  sz : d'.size = n0
  bel : Sort.Below klt a' b' d'
  fin : ∀ R, Sort.PermIn a' b' d' R → Sort.SortedIn klt a' b' R → Sort.PermIn a b d R ∧ Sort.SortedIn klt a b R
end Go.Sm
/- Sorting strings: slices.Sort. -/
set_option linter.unusedVariables false
set_option linter.unusedSimpArgs false
namespace Go.Sm
open Go Go.Proofs
set_option maxRecDepth 100000
set_option maxHeartbeats 4000000
end Go.Sm
/- Stores: All, ranged over by a body that changes nothing. -/
set_option linter.unusedVariables false
set_option linter.unusedSimpArgs false
namespace Go.Sm
open Go Go.Proofs
set_option maxRecDepth 100000
set_option maxHeartbeats 4000000
def allF (q : Nat) : Value := .func (.func 58) #[] #[.pointer (some ⟨q, 0, none⟩)]
theorem all33 (p : Addr) (σ : CSt) (Q : Out → CSt → Prop) (h : Q (.ret (allF σ.n) false) (σ.alloc (.cells [.pointer (some p)] 61 false))) : W E1 (.fn 32 #[.pointer (some p)] none) σ Q := by
  rw [W_fn (fn := Tryz.f32) Tryz.func32 rfl rfl rfl]
  simpa [wops_cons, allF] using h
end Go.Sm
/- Stores: All, ranged over by a body that changes its own, and may break off. -/
set_option linter.unusedVariables false
set_option linter.unusedSimpArgs false
namespace Go.Sm
open Go Go.Proofs
set_option maxRecDepth 100000
set_option maxHeartbeats 4000000
/-- A round that goes on, or breaks off. -/
def RoundEnd (L : Nat) (ob : CObj) (I : CSt → Prop) (D : Code → CSt → Prop) : Out → CSt → Prop := fun o2 s2 =>
  ∃ e a2 jj, o2 = .code e a2 ∧ jumpOf e = some jj ∧ s2.get L = some ob ∧ (jj = none → ∀ ob', I (s2.put L ob')) ∧ (∀ c, jj = some c → ∀ ob', D c (s2.put L ob'))
theorem round_gen {L : Nat} {fn : FuncId} {tm : Tr Value} {sz : Nat} {ps : Array Tmp} {asg body : Code} {s : CSt} {args : Array Value} {I : CSt → Prop} {D : Code → CSt → Prop} {Q : Out → CSt → Prop} (hL : s.get L = some (.loop .ready none fn tm sz ps asg body)) (hs : args.size = ps.size)
    (h : ∃ a' s1, (W E1 (.code ⟨fn, some L, none⟩ asg { tm := (ps.toList.zip args.toList).foldl (fun t p => if p.1 < sz then t.set p.1 p.2 else t) tm, sz := sz, df := [], tk := false }) s fun o s' => o = .code .normal a' ∧ s' = s1) ∧ s1.get L = some (.loop .ready none fn tm sz ps asg body) ∧ ∀ ob : CObj,
      W E1 (.code ⟨fn, some L, none⟩ body a') (s1.put L ob) (RoundEnd L ob I D))
    (h1 : ∀ s2, I s2 → s2.get L = some (.loop .ready none fn tm sz ps asg body) → Q (.ret (.bool true) false) s2)
    (h2 : ∀ c s2, D c s2 → s2.get L = some (.loop .done (some c) fn tm sz ps asg body) → Q (.ret (.bool false) false) s2) : W E1 (.round L args) s Q := by
  rw [W_round hL hs]
  obtain ⟨a', s1, h, hL1, h4⟩ := h
  refine W.weaken h fun o s' h3 => ?_
  obtain ⟨rfl, rfl⟩ := h3
  unfold kround1
  simp only [hL1]
  refine W.weaken (h4 _) fun o2 s2 h5 => ?_
  obtain ⟨e, a2, jj, rfl, hj, hL2, hI, hD⟩ := h5
  simp only [hj, hL2]
  cases jj with
  | none => exact h1 _ (hI rfl _) (by simp)
  | some c => exact h2 c _ (hD c rfl _) (by simp)
theorem range_allG {b i : Nat} {S : Stl} {q : Nat} {qo : Bool} {x : Ctx} {a : CAct} {σ : CSt} {f : Operand} {p1 p2 : Tmp} {asg body : Code} {K : Out → CSt → Prop} (hf : a.eval f = allF q) (ha : aroundOk σ x.rnd = true) (hst : St b σ i S)
    (hq : σ.get q = some (.cells [.pointer (some ⟨i, 0, none⟩)] 61 qo)) (hqn : q < σ.n) (hbig : S.length < 2 ^ 38) (hcl : ∀ s ∈ S, s.2.length < 2 ^ 38) (hp1 : p1 < a.sz) (hp2 : p2 < a.sz)
    (Inv : Nat → CSt → Prop) (Done : Code → CSt → Prop) (hkept : ∀ j s, Inv j s → Kept σ s ∧ σ.n < s.n) (hgrow : ∀ j s s', Inv j s → Grow s s' → Inv j s') (h0 : ∀ o, Inv 0 (σ.alloc o))
    (hround : ∀ (j : Nat) (hj : j < S.length) (s : CSt) (v : Value) (b' : Nat), Inv j s → σ.n < b' → b' ≤ s.n → Own b' s 33 encV v S[j].2 → s.get σ.n = some (.loop .ready none x.f a.tm a.sz #[p1, p2] asg body) →
      ∃ a' s1, (W E1 (.code ⟨x.f, some σ.n, none⟩ asg { tm := (a.tm.set p1 (.string S[j].1)).set p2 v, sz := a.sz, df := [], tk := false }) s fun o s' => o = .code .normal a' ∧ s' = s1) ∧ s1.get σ.n = some (.loop .ready none x.f a.tm a.sz #[p1, p2] asg body) ∧ ∀ ob : CObj,
        W E1 (.code ⟨x.f, some σ.n, none⟩ body a') (s1.put σ.n ob) (RoundEnd σ.n ob (Inv (j + 1)) Done))
    (h : ∀ s o, Inv S.length s → K (.code .normal a) (s.put σ.n o)) (hd : ∀ c s o, Done c s → W E1 (.code x c a) (s.put σ.n o) K) : W E1 (.code x (.rangeFunc f #[p1, p2] asg body) a) σ K := by
  rw [W_rangeFunc hf ha]
  have hg : Grow σ (σ.alloc (.loop .ready none x.f a.tm a.sz #[p1, p2] asg body)) := (Grow.refl σ).alloc _
  have hL : (σ.alloc (.loop .ready none x.f a.tm a.sz #[p1, p2] asg body)).get σ.n = some (.loop .ready none x.f a.tm a.sz #[p1, p2] asg body) := by simp
  have hLn : σ.n < (σ.alloc (.loop .ready none x.f a.tm a.sz #[p1, p2] asg body)).n := by simp
  have h00 := h0 (.loop .ready none x.f a.tm a.sz #[p1, p2] asg body)
  have hkp : ∀ j s, Inv j s → Kept (σ.alloc (.loop .ready none x.f a.tm a.sz #[p1, p2] asg body)) s := fun j s hi => by
    obtain ⟨h1, h2⟩ := hkept j s hi
    refine ⟨by simp; omega, fun m hm row e ro hg he => ?_⟩
    simp at hm
    rw [CSt.get_alloc] at hg ⊢
    by_cases hmn : m = σ.n
    · rw [if_pos hmn] at hg; cases hg
    · rw [if_neg hmn] at hg ⊢
      exact h1.2 m (by omega) row e ro hg he
  generalize σ.alloc (.loop .ready none x.f a.tm a.sz #[p1, p2] asg body) = σL at hg hL hLn h00 hkp ⊢
  refine all_spec b i S q σ.n qo σL (hst.grow hg) (hg.get hq hqn) (Nat.lt_of_lt_of_le hqn hg.n) hbig hcl (fun j s => Inv j s ∧ s.get σ.n = some (.loop .ready none x.f a.tm a.sz #[p1, p2] asg body) ∧ σ.n < s.n) (fun s => ∃ c, Done c s ∧ s.get σ.n = some (.loop .done (some c) x.f a.tm a.sz #[p1, p2] asg body)) (fun j s h => hkp j s h.1) (fun j s s' h h' => ⟨hgrow j s s' h.1 h', h'.get h.2.1 h.2.2, Nat.lt_of_lt_of_le h.2.2 h'.n⟩) ⟨h00, hL, hLn⟩ ?_ _ (fun s h' => ?_) (fun s h' => ?_)
  · intro j hj s v b' Q' hi hb1 hb2 ho hk
    have hr := hround j hj s v b' hi.1 (Nat.lt_of_lt_of_le hLn hb1) hb2 ho hi.2.1
    refine round_gen (I := fun s2 => Inv (j + 1) s2 ∧ σ.n < s2.n) (D := Done) hi.2.1 rfl ?_ (fun s2 h1 h2 => hk true s2 (fun _ => ⟨h1.1, h2, h1.2⟩) (fun h => by cases h)) (fun c s2 h1 h2 => hk false s2 (fun h => by cases h) (fun _ => ⟨c, h1, h2⟩))
    simp only [List.zip_cons_cons, List.zip_nil_left, List.foldl_cons, List.foldl_nil, hp1, hp2, if_true]
    obtain ⟨a', s1, hr1, hL1, h4⟩ := hr
    refine ⟨a', s1, hr1, hL1, fun ob => W.weaken (h4 ob) fun o2 s2 h5 => ?_⟩
    obtain ⟨e, a2, jj, h6, h7, h8, h9, h10⟩ := h5
    exact ⟨e, a2, jj, h6, h7, h8, fun h ob' => ⟨h9 h ob', (hkept _ _ (h9 h ob')).2⟩, h10⟩
  · unfold krange
    rw [h'.2.1]
    simp only
    rw [if_neg (by decide)]
    exact h _ _ h'.1
  · obtain ⟨c, h1, h2⟩ := h'
    unfold krange
    rw [h2]
    simp only
    rw [if_neg (by decide)]
    exact hd c _ _ h1
end Go.Sm
/- Keys of maps by strings: gathered. -/
set_option linter.unusedVariables false
set_option linter.unusedSimpArgs false
namespace Go.Sm
open Go Go.Proofs
set_option maxRecDepth 100000
set_option maxHeartbeats 4000000
end Go.Sm
/- Stores: the laws' Make, walked. -/
set_option linter.unusedVariables false
set_option linter.unusedSimpArgs false
namespace Go.Sm
open Go Go.Proofs
set_option maxRecDepth 100000
set_option maxHeartbeats 4000000
def mapF (ws : List WW) : Fl := ws.foldl (fun F w => putF F w.k w.v) []
theorem mapF_snoc (ws : List WW) (w : WW) : mapF (ws ++ [w]) = putF (mapF ws) w.k w.v := by simp [mapF]
theorem getF_putF (k : ByteArray) (x : VV) (k' : ByteArray) : ∀ F : Fl, getF (putF F k x) k' = if k = k' then getF F k ++ [x] else getF F k'
  | [] => by
    unfold putF getF
    by_cases e : k = k' <;> simp [e]
  | p :: F => by
    have ih := getF_putF k x k' F
    unfold getF at ih ⊢
    unfold putF
    by_cases e1 : p.1 = k
    · by_cases e : k = k' <;> simp [e1, e]
    · rw [if_neg e1]
      simp only [List.find?_cons, e1, decide_false]
      by_cases e2 : p.1 = k'
      · have e : ¬ k = k' := fun h => e1 (by rw [e2, h])
        simp [e2, e]
      · simp only [e2, decide_false]
        exact ih
theorem getF_len (ws : List WW) (k : ByteArray) : (getF (mapF ws) k).length ≤ ws.length := by
  refine rev_ind (P := fun ws => ∀ k, (getF (mapF ws) k).length ≤ ws.length) (fun k => by simp [mapF, getF]) (fun ws w ih k => ?_) ws k
  rw [mapF_snoc, getF_putF]
  have a := ih k
  have b := ih w.k
  split <;> simp <;> omega
theorem Mp.fr {T : TypeId → Prop} {b : Nat} {σ σ' : CSt} {m : Nat} {M : Ml} (h : Mp σ m M) (hm : m < σ.n) (hf : Fr T b σ σ') : Mp σ' m M := by
  obtain ⟨es, clock, h1, h2⟩ := h
  exact ⟨es, clock, hf.get h1 hm (.inr fun _ _ _ h => by cases h), h2⟩
theorem Mp.grow {σ σ' : CSt} {m : Nat} {M : Ml} (h : Mp σ m M) (hm : m < σ.n) (hf : Grow σ σ') : Mp σ' m M := by
  obtain ⟨es, clock, h1, h2⟩ := h
  exact ⟨es, clock, hf.get h1 hm, h2⟩
theorem Own.is_cells {α : Type} {b : Nat} {σ : CSt} {e : TypeId} {enc : α → List Value} {v : Value} {l : List α} (h : Own b σ e enc v l) {i : Nat} (hi : objOf v = some i) : ∃ row, σ.get i = some (.cells row e false) := by
  rcases h with ⟨rfl, _⟩ | ⟨j, cap, rfl, _, _, h2, _⟩
  · cases hi
  · cases hi; exact ⟨_, h2⟩
theorem mset_step (b : Nat) {σ σ9 : CSt} {m : Nat} {M : Ml} {F : Fl} {k : ByteArray} {x : VV} {v' : Value} (hmp : Mp σ m M) (hm : m < σ.n) (hmr : MRel b σ M F) (hn : σ.n ≤ σ9.n)
    (hkeep : ∀ j, j < σ.n → (∀ i off n c, (getM M k).getD (.slice none 0 0) = .slice (some ⟨i, off, none⟩) n c → j ≠ i) → σ9.get j = σ.get j) (hv : ∃ n c, v' = .slice (some ⟨σ.n, 0, none⟩) n c) (ho : Own b σ9 78 encU v' (getF F k ++ [x])) :
    ∃ o, updateOp Tryz.prog σ9 62 (.map (some m)) (.string k) v' = some (σ9.put m o) ∧ Mp (σ9.put m o) m (setM M k v') ∧ MRel b (σ9.put m o) (setM M k v') (putF F k x) ∧ Kept σ (σ9.put m o) := by
  have hown := hmr.get k
  have hobj : ∀ i off n c, (getM M k).getD (.slice none 0 0) = .slice (some ⟨i, off, none⟩) n c → ∃ row, σ.get i = some (.cells row 78 false) := fun i off n c e => hown.is_cells (by rw [e]; rfl)
  have hmap : ∃ es clock, σ.get m = some (.map es clock) := by obtain ⟨es, clock, h1, _⟩ := hmp; exact ⟨es, clock, h1⟩
  obtain ⟨es, clock, hmg⟩ := hmap
  have hm9 : σ9.get m = σ.get m := hkeep m hm fun i off n c e e2 => by
    obtain ⟨row, hr⟩ := hobj i off n c e
    rw [← e2, hmg] at hr
    cases hr
  have hmp9 : Mp σ9 m M := by
    obtain ⟨es, clock, h1, h2⟩ := hmp
    exact ⟨es, clock, by rw [hm9]; exact h1, h2⟩
  obtain ⟨o, h1, h2⟩ := update_mp (P := Tryz.prog) (t := 62) (kt := 9) (et := 75) (k := k) Tryz.underlying62 (by kernel_rfl) hmp9 v'
  obtain ⟨n, c, hv'⟩ := hv
  have hset : MRel b σ9 (setM M k v') (putF F k x) := MRel.set k x v' hn hv' hmr ho fun j hj hne => hkeep j hj fun i off n c e => hne i (by rw [e]; rfl)
  refine ⟨o, h1, h2, MRel.keep (σ' := σ9.put m o) (Nat.le_refl σ9.n) hset fun r hr i hi hlt => ?_, hn, fun j hj row e ro hg he => ?_⟩
  · obtain ⟨l, hl⟩ := hset.own r hr
    obtain ⟨row, hrow⟩ := hl.is_cells hi
    rw [CSt.get_put, if_neg]
    rintro rfl
    rw [hm9, hmg] at hrow
    cases hrow
  · have hjm : ¬ j = m := by
      rintro rfl
      rw [hmg] at hg
      cases hg
    rw [CSt.get_put, if_neg hjm]
    refine hkeep j hj fun i off n c e' e2 => ?_
    obtain ⟨row', hr⟩ := hobj i off n c e'
    rw [← e2, hg] at hr
    injection hr with hr
    injection hr with _ h3 _
    have h4 : e = 78 := by first | exact h3 | exact h3.symm
    rw [h4] at he
    exact absurd he (by decide)
theorem St.kept {b : Nat} {σ σ' : CSt} {i : Nat} {S : Stl} (h : St b σ i S) (hk : Kept σ σ') : St b σ' i S := by
  obtain ⟨vr, R, h1, h2, h3, h4, h5⟩ := h
  refine ⟨vr, R, h1, Nat.lt_of_lt_of_le h2 hk.1, by rw [hk.2 i h2 _ _ _ h3 (by simp)]; exact h3, ?_, h5.1, fun j h6 h7 => ⟨(h5.2 j h6 h7).1, hk.sl (h5.2 j h6 h7).2 (by simp)⟩⟩
  rcases h4 with h | ⟨o, cap, zs, g1, g2, g3, g4, g5⟩
  · exact .inl h
  · exact .inr ⟨o, cap, zs, g1, g2, Nat.lt_of_lt_of_le g3 hk.1, by rw [hk.2 o g3 _ _ _ g4 (by simp)]; exact g4, g5⟩
theorem st82 : ¬ stT 82 := by unfold stT; decide
theorem st78 : ¬ stT 78 := by unfold stT; decide
theorem lenVV (x : VV) : (encU x).length = 3 := rfl
theorem cokVV (x : VV) : cokL (encU x) = true := rfl
theorem kspec (n : Int) (h0 : 0 ≤ n) (h1 : n < 5) (σ : CSt) (Q : Out → CSt → Prop) (h : ∀ σ', Grow σ σ' → Q (.ret (.string (key12 n)) false) σ') : W E1 (.fn 40 #[.int .u8 n] none) σ Q := by
  rw [W_fn (fn := Tryz.f40) Tryz.func40 rfl rfl rfl]
  obtain ⟨k, rfl⟩ : ∃ k : Nat, n = k := ⟨n.toNat, by omega⟩
  have h2 : ¬ (250 : Int) < (k : Int) := by omega
  have h3 : (k : Int).tmod 5 = (k : Int) := by rw [Int.tmod_eq_emod_of_nonneg (by omega)]; omega
  have hg := h _ ((Grow.refl σ).alloc (.cells [.string ⟨#[97]⟩, .string ⟨#[98]⟩, .string ⟨#[99]⟩, .string ⟨#[100]⟩, .string ⟨#[101]⟩] 9 false))
  have h5 : k < 5 := by omega
  simp [wops_cons, h2, h3]
  match k, h5, hg with
  | 0, _, hg => simpa [wops_cons, key12] using hg
  | 1, _, hg => simpa [wops_cons, key12] using hg
  | 2, _, hg => simpa [wops_cons, key12] using hg
  | 3, _, hg => simpa [wops_cons, key12] using hg
  | 4, _, hg => simpa [wops_cons, key12] using hg
/-- From time one on. -/
def fixV (x : VV) : VV := ⟨if x.at_ = 0 then 1 else x.at_, x.v, x.gone⟩
def fixW (w : WW) : WW := ⟨w.key, fixV w.v⟩
theorem fixV_ok {x : VV} (h : x.ok) : (fixV x).ok := by
  obtain ⟨⟨h1, h2⟩, h3⟩ := h
  refine ⟨?_, h3⟩
  show 0 ≤ (if x.at_ = 0 then 1 else x.at_) ∧ (if x.at_ = 0 then 1 else x.at_) < 256
  split <;> omega
theorem fixW_k (w : WW) : (fixW w).k = w.k := rfl
theorem store_spec (l : List WW) (hok : ∀ w ∈ l, w.ok) (v : Value) (σ : CSt) (hsl : Sl σ 82 4 encW v l) (hbig : l.length < 2 ^ 30) (Q : Out → CSt → Prop)
    (h : ∀ (i m : Nat) (S : Stl) (M : Ml) (σ' : CSt), SRel S (l.map fixW) → St σ.n σ' i S → Mp σ' m M → MRel σ.n σ' M (mapF (l.map fixW)) → σ.n ≤ m → m < σ'.n → Grow σ σ' → Q (.ret (.tuple #[.pointer (some ⟨i, 0, none⟩), .map (some m)]) false) σ') :
    W E1 (.fn 28 #[v] none) σ Q := by
  rw [W_fn (fn := Tryz.f28) Tryz.func28 rfl rfl rfl]
  obtain ⟨p, c, rfl⟩ := hsl.form
  simp [wops_cons]
  refine new_spec σ _ fun σ1 h1 g1 => ?_
  have hn1 : σ.n < σ1.n := by obtain ⟨_, _, _, h, _⟩ := h1; exact h
  have hm : Mp (σ1.alloc (.map #[] 0)) σ1.n [] := ⟨#[], 0, by simp, entsOk_nil _ _⟩
  have gm : Grow σ1 (σ1.alloc (.map #[] 0)) := (Grow.refl σ1).alloc _
  simp [wops_cons, copE_makeMap (P := Tryz.prog) (t := 62) Tryz.underlying62]
  refine W_loop_inv (fun n a σ' => ∃ tm, ∃ j : Nat, ∃ S M, a = ⟨tm, 45, [], false⟩ ∧ tm.get 4 = some (.pointer (some ⟨σ.n, 0, none⟩)) ∧ tm.get 5 = some (.map (some σ1.n)) ∧ tm.get 11 = some (.slice p l.length c) ∧ tm.get 12 = some (.int .i64 l.length) ∧ tm.get 13 = some (.int .i64 (j : Nat)) ∧ (j ≤ l.length ∧ n = l.length - j ∧
    SRel S ((l.map fixW).take j) ∧ St σ.n σ' σ.n S ∧ Mp σ' σ1.n M ∧ MRel σ.n σ' M (mapF ((l.map fixW).take j)) ∧ σ1.n < σ'.n ∧ Grow σ σ')) ?_ l.length _ _ ?_
  · rintro n a σ2 ⟨tm, j, S, M, rfl, e4, e5, e11, e12, e13, hj, hn, hS, hst, hmp, hmr, hn2, hgr⟩
    by_cases hjl : j < l.length
    · have hjl' : (j : Int) < (l.length : Int) := by omega
      obtain ⟨i, off, row, ro, hpl, hg, hin, hrow, hle⟩ := (hsl.grow hgr).at hjl
      have hld := row_get (enc := encW) lenW hrow j hjl
      have hl1 := row_le hle j hjl
      have hw2 := i64s j (by omega)
      have hx := hok _ (List.getElem_mem hjl)
      have htk : (l.map fixW).take (j + 1) = (l.map fixW).take j ++ [fixW l[j]] := by rw [List.take_succ_eq_append_getElem (by simpa using hjl)]; simp
      have hxk := fixW_k l[j]
      have hxv : (fixW l[j]).v = fixV l[j].v := rfl
      have hxo := fixV_ok hx.2
      generalize hW : fixW l[j] = w1 at htk hxk hxv
      have hkd : l[j].k = key12 (l[j].key.tmod 5) := rfl
      generalize l[j] = w at hld hx hxk hxv hxo hkd
      obtain ⟨key, vv⟩ := w
      obtain ⟨⟨hk0, hk1⟩, hvo⟩ := hx
      simp only at hk0 hk1 hvo hxv hxo hkd
      simp only [encW] at hld
      have ht5 : 0 ≤ key.tmod 5 ∧ key.tmod 5 < 5 := ⟨Int.tmod_nonneg _ hk0, Int.tmod_lt_of_pos _ (by decide)⟩
      have hu5 : IntKind.u8.wrap (key.tmod 5) = key.tmod 5 := IntWalk.u8_in _ (by omega)
      have hgw : Grow σ2 ((σ2.alloc (.cells [.int .u8 0, .int .u8 0, .int .u8 0, .bool false] 82 false)).put σ2.n (.cells [.int .u8 key, .int .u8 vv.at_, .int .u8 vv.v, .bool vv.gone] 82 false)) := ⟨by simp, fun j hj => by rw [CSt.get_put, if_neg (by omega), CSt.get_alloc, if_neg (by omega)]⟩
      have hc3 : ((σ2.alloc (.cells [.int .u8 0, .int .u8 0, .int .u8 0, .bool false] 82 false)).put σ2.n (.cells [.int .u8 key, .int .u8 vv.at_, .int .u8 vv.v, .bool vv.gone] 82 false)).get σ2.n = some (.cells [.int .u8 key, .int .u8 vv.at_, .int .u8 vv.v, .bool vv.gone] 82 false) := by simp
      have hn3 : σ2.n < ((σ2.alloc (.cells [.int .u8 0, .int .u8 0, .int .u8 0, .bool false] 82 false)).put σ2.n (.cells [.int .u8 key, .int .u8 vv.at_, .int .u8 vv.v, .bool vv.gone] 82 false)).n := by simp
      simp [wops_cons, e4, e5, e11, e12, e13, hjl, hjl', hpl, hg, hld, hl1, hu5]
      generalize (σ2.alloc (.cells [.int .u8 0, .int .u8 0, .int .u8 0, .bool false] 82 false)).put σ2.n (.cells [.int .u8 key, .int .u8 vv.at_, .int .u8 vv.v, .bool vv.gone] 82 false) = σ3 at hgw hc3 hn3
      refine kspec _ ht5.1 ht5.2 σ3 _ fun σ4 g4 => ?_
      have gn4 := g4.n
      have hc4 := g4.get hc3 hn3
      rw [← hkd]
      generalize hK : WW.k ⟨key, vv⟩ = K at hkd hxk
      have g24 := hgw.trans g4
      have hst4 := hst.grow g24
      simp [wops_cons, e4, e5, e11, e12, e13, hc4, -W_condK]
      -- no time is nought
      refine W_cut (fun out z => ∃ tm, out = .code .normal ⟨tm, 45, [], false⟩ ∧ tm.get 4 = some (.pointer (some ⟨σ.n, 0, none⟩)) ∧ tm.get 5 = some (.map (some σ1.n)) ∧ tm.get 7 = some (.pointer (some ⟨σ2.n, 0, none⟩)) ∧ tm.get 8 = some (.string K) ∧ tm.get 11 = some (.slice p l.length c) ∧ tm.get 12 = some (.int .i64 l.length) ∧ tm.get 13 = some (.int .i64 (j : Nat)) ∧ z.get σ2.n = some (.cells [.int .u8 key, .int .u8 (fixV vv).at_, .int .u8 (fixV vv).v, .bool (fixV vv).gone] 82 false) ∧ Grow σ2 z ∧ σ2.n < z.n) ?_ ?_
      · by_cases h0 : vv.at_ = 0
        · have hz : (fixV vv).at_ = 1 := by unfold fixV; simp [h0]
          simp [wops_cons, e4, e5, e11, e12, e13, hc4, h0, hz]
          exact ⟨⟨rfl, rfl⟩, ⟨by have := hgw.n; simp; omega, fun j hj => by rw [CSt.get_put, if_neg (by omega)]; exact g24.old j hj⟩, by omega⟩
        · have hz : (fixV vv).at_ = vv.at_ := by unfold fixV; simp [h0]
          simp [wops_cons, e4, e5, e11, e12, e13, hc4, h0, hz]
          exact ⟨⟨rfl, rfl⟩, g24, by omega⟩
      rintro out z ⟨tm, rfl, e4, e5, e7, e8, e11, e12, e13, hcz, gz, hnz⟩
      rw [← hxv] at hcz hxo
      obtain ⟨x, hx⟩ : ∃ x, x = w1.v := ⟨_, rfl⟩
      rw [← hx] at hcz hxo
      simp [wops_cons, e4, e5, e7, e8, e11, e12, e13, hcz]
      have hvm := vmake_spec x hxo
      simp only [encU] at hvm
      refine hvm z _ fun σ5 g5 => ?_
      have g25 := gz.trans g5
      have hc5 := g5.get hcz hnz
      have hlt : ((l.map fixW).take j).length ≤ j := List.length_take_le _ _
      simp [wops_cons, e4, e5, e7, e8, e11, e12, e13]
      refine put_store σ.n σ.n S hS.ks hS.srt (fun s hs => by have := hS.short s hs; omega) _ (verOf x) σ5 (hgr.trans g25).n (hst.grow g25) (by have := hS.len; omega) _ fun n6 σ6 hp h6 f6 => ?_
      have hn25 : σ2.n < σ5.n := Nat.lt_of_lt_of_le hnz g5.n
      have hc6 := f6.get hc5 hn25 (.inr fun row e ro he => by injection he with _ h2 _; rw [← h2]; exact st82)
      have hmp6 := (hmp.grow hn2 g25).fr (Nat.lt_of_lt_of_le hn2 g25.n) f6
      have hmr6 := (hmr.fr (T := fun _ => False) (fun h => h) (b' := 0) g25.fr).fr (T := stT) st78 f6
      have hn26 : σ2.n < σ6.n := Nat.lt_of_lt_of_le hn25 f6.1
      have hn16 : σ1.n < σ6.n := Nat.lt_of_lt_of_le hn2 (Nat.le_trans g25.n f6.1)
      have hg06 : Grow σ σ6 := by
        have := (hgr.trans g25).fr (T := stT) (b := σ.n)
        exact (this.trans f6).grow (Nat.le_refl _)
      have hS6 := hS.put (w := w1) (n := n6) (by rw [hxk]; exact hp)
      rw [hxk, ← hx] at hS6
      have hlk : ∀ σ', Mp σ' σ1.n M → lookupOp Tryz.prog σ' 62 (.map (some σ1.n)) (.string K) false = some ((getM M K).getD (.slice none 0 0)) := fun σ' hm' => lookup_mp Tryz.underlying62 (by kernel_rfl) (by kernel_rfl) hm'
      have hgl := getF_len ((l.map fixW).take j) K
      have hga : Grow σ6 (σ6.alloc (.cells (encU x) 78 false)) := (Grow.refl σ6).alloc _
      have hmr8 := hmr6.fr (T := fun _ => False) (fun h => h) (b' := 0) hga.fr
      have hmp8 := hmp6.grow hn16 hga
      obtain ⟨v9, σ9, a1, a2, a3, a4, a5⟩ := append_only (P := Tryz.prog) (ts := #[75, 75]) (e := 78) (sz := 3) (enc := encU) (l := getF (mapF ((l.map fixW).take j)) K) (m := [x]) (b := σ.n) ef75 (by simp) lenVV cokVV rfl (by decide) (by decide) rfl (σ := σ6.alloc (.cells (encU x) 78 false)) (hmr8.get K)
        (hg06.trans hga).n (Sl.all (l := [x]) (i := σ6.n) (cap := 1) (ro := false) lenVV (by simp) (by simp) (.inr ⟨by simp, by simp [openCap]⟩)) (by show (_ + 1) * 3 ≤ _; omega) (by omega)
      obtain ⟨o, b1, b2, b3, b4⟩ := mset_step σ.n hmp8 (Nat.lt_of_lt_of_le hn16 hga.n) hmr8 a3.1 a4 (a5 (by simp)) a2
      have hlk6 := hlk σ6 hmp6
      simp only [encU, List.length_cons, List.length_nil, Nat.zero_add] at a1
      simp [wops_cons, e4, e5, e7, e8, e11, e12, e13, hlk6, hc6, a1, b1, hw2]
      have hmn : mapF ((l.map fixW).take j ++ [w1]) = putF (mapF ((l.map fixW).take j)) K x := by rw [mapF_snoc, hxk, ← hx]
      have hfr : Grow σ (σ9.put σ1.n o) := Grow.thenB (hg06.trans hga) (a3.put (by omega) _) (Nat.le_refl _)
      exact ⟨l.length - (j + 1), by omega, hpl, j + 1, by omega, by omega, rfl, _, by rw [htk]; exact hS6, (h6.grow hga).kept b4, _, b2, by rw [htk, hmn]; exact b3, Nat.lt_of_lt_of_le (Nat.lt_of_lt_of_le hn16 hga.n) a3.1, hfr⟩
    · have hj' : j = l.length := by omega
      subst hj'
      rw [List.take_of_length_le (by simp)] at hS hmr
      have := h σ.n σ1.n S M σ2 hS hst hmp hmr (by omega) hn2 hgr
      simpa [wops_cons, e4, e5, e11, e12, e13] using this
  · exact ⟨_, 0, [], [], rfl, by simp, by simp, by simp, by simp, by simp, by omega, rfl, SRel.nil, h1.grow gm, hm, trivial, by simp, g1.trans gm⟩
end Go.Sm
/- Stores as lists: one put, whatever it is. -/
set_option linter.unusedSimpArgs false
namespace Go.Sm
theorem getF_ofK (ws : List WW) (k : ByteArray) : (getF (mapF ws) k).map verOf = ofK ws k := by
  refine rev_ind (P := fun ws => ∀ k, (getF (mapF ws) k).map verOf = ofK ws k) (fun k => by simp [mapF, getF, ofK]) (fun ws w ih k => ?_) ws k
  rw [mapF_snoc, getF_putF, ofK_snoc]
  by_cases e : w.k = k
  · rw [if_pos e, if_pos e, List.map_append, ih w.k, e]; rfl
  · rw [if_neg e, if_neg e, ih k]
theorem getF_ok (ws : List WW) (h : ∀ w ∈ ws, w.ok) (k : ByteArray) : ∀ x ∈ getF (mapF ws) k, x.ok := by
  refine rev_ind (P := fun ws => (∀ w ∈ ws, w.ok) → ∀ k, ∀ x ∈ getF (mapF ws) k, x.ok) (fun _ k x hx => by simp [mapF, getF] at hx) (fun ws w ih h k x hx => ?_) ws h k
  rw [mapF_snoc, getF_putF] at hx
  have ih' := ih fun w hw => h w (by simp [hw])
  split at hx
  · rcases List.mem_append.1 hx with hx | hx
    · exact ih' _ x hx
    · rw [List.mem_singleton] at hx; rw [hx]; exact (h w (by simp)).2
  · exact ih' _ x hx
/-- What stands at a key's place behind a put. -/
theorem putAt_get {S : Stl} {k : ByteArray} {x : Ver} {n : Nat} (hp : Pos S k n) : ∃ c, (putAt S k x n)[n]? = some (k, putL c x) ∧ (c = [] ∨ (k, c) ∈ S) := by
  have hnew : (S.take n ++ (k, putL [] x) :: S.drop n)[n]? = some (k, putL [] x) := by
    rw [List.getElem?_append_right (by simp; omega)]
    simp [Nat.min_eq_left hp.le]
  unfold putAt
  cases hn : S[n]? with
  | none => exact ⟨[], hnew, .inl rfl⟩
  | some s =>
    simp only
    obtain ⟨h1, h2⟩ := List.getElem?_eq_some_iff.1 hn
    by_cases e : s.1 = k
    · rw [if_pos e]
      exact ⟨s.2, by simp [h1], .inr (by rw [← e, ← h2]; exact List.getElem_mem h1)⟩
    · rw [if_neg e]
      exact ⟨[], hnew, .inl rfl⟩
theorem putAt_mem {S : Stl} {k : ByteArray} {x : Ver} {n : Nat} : ∀ s ∈ putAt S k x n, s ∈ S ∨ ∃ c, s = (k, putL c x) ∧ (c = [] ∨ (k, c) ∈ S) := by
  have hnew : ∀ s ∈ S.take n ++ (k, putL [] x) :: S.drop n, s ∈ S ∨ ∃ c, s = (k, putL c x) ∧ (c = [] ∨ (k, c) ∈ S) := fun s hs => by
    rcases List.mem_append.1 hs with h | h
    · exact .inl (List.mem_of_mem_take h)
    · rcases List.mem_cons.1 h with rfl | h
      · exact .inr ⟨[], rfl, .inl rfl⟩
      · exact .inl (List.mem_of_mem_drop h)
  unfold putAt
  cases hn : S[n]? with
  | none => exact hnew
  | some s =>
    simp only
    obtain ⟨h1, h2⟩ := List.getElem?_eq_some_iff.1 hn
    by_cases e : s.1 = k
    · rw [if_pos e]
      intro r hr
      rcases List.mem_or_eq_of_mem_set hr with h | rfl
      · exact .inl h
      · exact .inr ⟨s.2, rfl, .inr (by rw [← e, ← h2]; exact List.getElem_mem h1)⟩
    · rw [if_neg e]; exact hnew
theorem putAt_ks {S : Stl} {k : ByteArray} {x : Ver} {n : Nat} (hks : KS S) (hp : Pos S k n) : KS (putAt S k x n) := by
  have hnew : (∀ s, S[n]? = some s → s.1 ≠ k) → KS (S.take n ++ (k, putL [] x) :: S.drop n) := by
    intro hne
    have hlo : ∀ s ∈ S.take n, klt s.1 k = true := fun s hs => by
      obtain ⟨j, hj, rfl⟩ := List.mem_iff_getElem.1 hs
      rw [List.length_take] at hj
      rw [List.getElem_take]
      exact hp.lo j (by omega) (by omega)
    have hhi : ∀ s ∈ S.drop n, klt k s.1 = true := fun s hs => by
      obtain ⟨j, hj, rfl⟩ := List.mem_iff_getElem.1 hs
      rw [List.length_drop] at hj
      rw [List.getElem_drop]
      have h0 := hne S[n] (List.getElem?_eq_getElem (by omega))
      have h2 := hp.hi n (by omega) (Nat.le_refl _)
      have h3 : klt k S[n].1 = true := by
        cases h4 : klt k S[n].1 with
        | true => rfl
        | false => exact absurd (klt_tri h2 h4) h0
      cases j with
      | zero => exact h3
      | succ j => exact klt_trans h3 (List.pairwise_iff_getElem.1 hks n (n + (j + 1)) (by omega) (by omega) (by omega))
    unfold KS at hks ⊢
    rw [List.pairwise_append]
    refine ⟨List.Pairwise.sublist (List.take_sublist n S) hks, List.pairwise_cons.2 ⟨fun s hs => hhi s hs, List.Pairwise.sublist (List.drop_sublist n S) hks⟩, fun a ha c hc => ?_⟩
    rcases List.mem_cons.1 hc with rfl | hc
    · exact hlo a ha
    · exact klt_trans (hlo a ha) (hhi c hc)
  unfold putAt
  cases hn : S[n]? with
  | none => exact hnew fun s hs => by rw [hn] at hs; cases hs
  | some s =>
    simp only
    by_cases e : s.1 = k
    · rw [if_pos e]
      obtain ⟨hnS, hs⟩ := List.getElem?_eq_some_iff.1 hn
      have hget : ∀ j (hj : j < (S.set n (k, putL s.2 x)).length), ((S.set n (k, putL s.2 x))[j]).1 = (S[j]'(by simpa using hj)).1 := fun j hj => by
        by_cases e2 : n = j
        · subst e2; simp [hs, e]
        · rw [List.getElem_set_ne e2]
      unfold KS at hks ⊢
      rw [List.pairwise_iff_getElem]
      intro i j hi hj hij
      rw [hget, hget]
      exact List.pairwise_iff_getElem.1 hks i j _ _ hij
    · rw [if_neg e]
      exact hnew fun r hr => by rw [hn] at hr; cases hr; exact e
theorem putAt_len (S : Stl) (k : ByteArray) (x : Ver) (n : Nat) : (putAt S k x n).length ≤ S.length + 1 := by
  have hnew : (S.take n ++ (k, putL [] x) :: S.drop n).length ≤ S.length + 1 := by simp; omega
  unfold putAt
  cases S[n]? with
  | none => exact hnew
  | some s =>
    simp only
    split
    · simp
    · exact hnew
end Go.Sm
/- Stores as lists: the keys in order; what a key has. -/
set_option linter.unusedSimpArgs false
namespace Go.Sm
open Go
theorem sorted_eq : ∀ {l m : List ByteArray}, (l.Pairwise fun x y => klt x y = true) → (m.Pairwise fun x y => klt y x = false) → l.Perm m → l = m
  | [], m, _, _, h => by rw [List.Perm.eq_nil h.symm]
  | a :: l, [], _, _, h => by cases List.Perm.eq_nil h
  | a :: l, b :: m, h1, h2, h => by
    rw [List.pairwise_cons] at h1 h2
    have hab : a = b := by
      have ha : a ∈ b :: m := h.subset (by simp)
      have hb : b ∈ a :: l := h.symm.subset (by simp)
      rcases List.mem_cons.1 ha with e | ha
      · exact e
      · rcases List.mem_cons.1 hb with e | hb
        · exact e.symm
        · have := h1.1 b hb
          rw [h2.1 a ha] at this
          cases this
    subst hab
    rw [sorted_eq h1.2 h2.2 (List.Perm.cons_inv h)]
theorem MRel.keys {b : Nat} {σ : CSt} : ∀ {M : Ml} {F : Fl}, MRel b σ M F → M.map (·.1) = F.map (·.1)
  | [], [], _ => rfl
  | p :: M, q :: F, h => by rw [List.map_cons, List.map_cons, h.1.1, MRel.keys h.2.2]
theorem KS.nodup {S : Stl} (h : KS S) : (S.map (·.1)).Nodup := by
  have h1 : (S.map (·.1)).Pairwise fun a c => klt a c = true := by rw [List.pairwise_map]; exact h
  refine h1.imp fun {a c} hac e => ?_
  rw [e, klt_irrefl] at hac
  cases hac
theorem at_ok (l : List VV) (h : ∀ x ∈ l, x.ok) : ∀ v ∈ l.map verOf, 0 ≤ v.at_ ∧ v.at_ < 256 := by
  intro v hv
  obtain ⟨x, hx, rfl⟩ := List.mem_map.1 hv
  rw [verOf_at]
  exact (h x hx).1
theorem ofK_at (ws : List WW) (h : ∀ w ∈ ws, w.ok) (k : ByteArray) : ∀ v ∈ ofK ws k, 0 ≤ v.at_ ∧ v.at_ < 256 := by
  rw [← getF_ofK]
  exact at_ok _ (getF_ok ws h k)
theorem SRel.plain {S : Stl} {ws : List WW} (h : SRel S ws) (hok : ∀ w ∈ ws, w.ok) : ∀ s ∈ S, s.2 = plainL (ofK ws s.1) := fun s hs => by rw [h.val s hs, make_plain _ (ofK_at ws hok s.1)]
end Go.Sm
/- Concat of two slices of keys' versions. -/
set_option linter.unusedVariables false
set_option linter.unusedSimpArgs false
namespace Go.Sm
open Go Go.Proofs
set_option maxRecDepth 100000
set_option maxHeartbeats 2000000
section
attribute [local simp] sliceOp_open3 sliceOp_cap sliceOp_open sliceOp_nil appendOp_K appendOp_N copyOp_K
theorem growW_spec (n : Nat) (h0 : 0 < n) (hn : n < 2 ^ 30) (σ : CSt) (Q : Out → CSt → Prop) (h : Q (.ret (.slice (some ⟨σ.n, 0, none⟩) 0 openCap) false) (σ.alloc (.cells (List.replicate n [.int .u8 0, .int .u8 0, .int .u8 0, .bool false]).flatten 82 false))) : W E1 (.fn 62 #[.slice none 0 0, .int .i64 n] none) σ Q := by
  rw [W_fn (fn := Tryz.f62) Tryz.func62 rfl rfl rfl]
  have hw : IntKind.i64.wrap (n : Int) = n := IntWalk.i64_in _ (by omega)
  have hw0 : IntKind.i64.wrap 0 = 0 := by decide
  have h1 : ¬ (n : Int) < 0 := by omega
  have h2 : (0 : Int) < n := by omega
  have h3 : (n : Int) * 4 ≤ 140737488355328 := by omega
  have h4 : n * 4 ≤ 140737488355328 := by omega
  have h5 : ¬ n = 0 := by omega
  simpa [wops_cons, hw, hw0, h1, h2, h0, h3, h4, h5, appNK, appendF, sliceO] using h
end
/-- slices.Concat of two. -/
theorem concatW_spec (l m : List WW) (v u : Value) (σ : CSt) (a : Nat) (ha : σ.get a = some (.cells [v, u] 60 false)) (han : a < σ.n) (hv : Sl σ 82 4 encW v l) (hu : Sl σ 82 4 encW u m) (h0 : 0 < l.length + m.length) (hbig : l.length + m.length < 2 ^ 30) (Q : Out → CSt → Prop)
    (h : ∀ (v' : Value) (σ' : CSt), Own σ.n σ' 82 encW v' (l ++ m) → Grow σ σ' → Q (.ret v' false) σ') : W E1 (.fn 38 #[.slice (some ⟨a, 0, none⟩) 2 2] none) σ Q := by
  rw [W_fn (fn := Tryz.f38) Tryz.func38 rfl rfl rfl]
  obtain ⟨p, c, rfl⟩ := hv.form
  obtain ⟨p', c', rfl⟩ := hu.form
  have hw1 : IntKind.i64.wrap (l.length : Int) = l.length := IntWalk.i64_in _ (by omega)
  have hw2 : IntKind.i64.wrap ((l.length : Int) + m.length) = ((l.length + m.length : Nat) : Int) := by rw [IntWalk.i64_in _ (by omega)]; simp
  have hn1 : ¬ (l.length : Int) < 0 := by omega
  have hn2 : ¬ (l.length : Int) + m.length < 0 := by omega
  have hwa : IntKind.i64.wrap 1 = 1 := by decide
  have hwb : IntKind.i64.wrap 2 = 2 := by decide
  have hco : (2 : Nat) ≠ openCap := by simp [openCap]
  simp [wops_cons]
  rw [W_loop]
  simp [wops_cons, ha, hw1, hn1, hwa]
  rw [W_loop]
  simp [wops_cons, ha, hw2, hn2, hwb]
  rw [W_loop]
  simp [wops_cons, ha, hw2, hn2, hwb]
  have hgs := fun Q => growW_spec (l.length + m.length) h0 hbig σ Q
  simp only [Int.natCast_add] at hgs
  refine hgs _ ?_
  have hzl : ((List.replicate (l.length + m.length) [Value.int .u8 0, Value.int .u8 0, Value.int .u8 0, Value.bool false]).flatten).length = (l.length + m.length) * 4 := by simp
  generalize (List.replicate (l.length + m.length) [Value.int .u8 0, Value.int .u8 0, Value.int .u8 0, Value.bool false]).flatten = zs at hzl ⊢
  have hG : Grow σ (σ.alloc (.cells zs 82 false)) := (Grow.refl σ).alloc _
  obtain ⟨σ1, f1, f2, f3, f4⟩ := append_fit (P := Tryz.prog) (ts := #[60, 60]) (e := 82) (sz := 4) (enc := encW) (l := []) (m := l) ef60 (by simp) lenW cokW rfl (by decide) (by decide) rfl (σ := σ.alloc (.cells zs 82 false)) (g := σ.n) (zs := zs) (by simp) (hv.grow hG) (by rw [hzl]; omega) (by simp)
  have hG1 : Grow σ σ1 := ⟨by rw [f3]; simp, fun i hi => by rw [f4 i (by omega)]; exact hG.old i hi⟩
  obtain ⟨σ2, k1, k2, k3, k4⟩ := append_fit (P := Tryz.prog) (ts := #[60, 60]) (e := 82) (sz := 4) (enc := encW) (l := l) (m := m) ef60 (by simp) lenW cokW rfl (by decide) (by decide) rfl (σ := σ1) (g := σ.n) (zs := zs.drop (l.length * 4)) (by simpa using f2) (hu.grow hG1) (by rw [List.length_drop, hzl]; omega) (by omega)
  have hG2 : Grow σ σ2 := ⟨by rw [k3]; exact hG1.n, fun i hi => by rw [k4 i (by omega)]; exact hG1.old i hi⟩
  simp only [List.nil_append, List.length_nil, List.length_append] at f1 k1
  have ha0 := hG.get ha han
  have ha1 := hG1.get ha han
  have hdr : (zs.drop (l.length * 4)).drop (m.length * 4) = [] := List.drop_of_length_le (by rw [List.length_drop, hzl]; omega)
  rw [hdr, List.append_nil] at k2
  have fin := h (.slice (some ⟨σ.n, 0, none⟩) (l ++ m).length openCap) σ2 (.inr ⟨σ.n, openCap, rfl, Nat.le_refl _, by rw [k3, f3]; simp, k2, .inl rfl⟩) hG2
  rw [List.length_append] at fin
  simp [wops_cons]
  rw [W_loop]
  simp [wops_cons, ha0, hwa, f1]
  rw [W_loop]
  simp [wops_cons, ha1, hwb, k1]
  rw [W_loop]
  simpa [wops_cons] using fin
end Go.Sm
/- ContainsFunc for keys' versions. -/
set_option linter.unusedVariables false
set_option linter.unusedSimpArgs false
namespace Go.Sm
open Go Go.Proofs
set_option maxRecDepth 100000
set_option maxHeartbeats 4000000
def sameW (x w : WW) : Prop := w.key.tmod 5 = x.key.tmod 5 ∧ w.v.at_ = x.v.at_
instance (x w : WW) : Decidable (sameW x w) := by unfold sameW; exact inferInstance
def sameWF (k : Nat) : Value := .func (.func 37) #[] #[.pointer (some ⟨k, 0, none⟩)]
theorem ext37 (cs args : Array Value) (σ : CSt) : extOf E1 (.func (.func 37) #[] cs) args σ = none := extOf_none rfl
theorem sameW_spec (k : Nat) (x w : WW) (hx : x.ok) (hw : w.ok) (σ : CSt) (hk : σ.get k = some (.cells (encW x) 82 false)) (hkn : k < σ.n) (Q : Out → CSt → Prop) (h : ∀ σ', Grow σ σ' → Q (.ret (.bool (decide (sameW x w))) false) σ') : W E1 (.fn 37 #[.agg (encW w).toArray, .pointer (some ⟨k, 0, none⟩)] none) σ Q := by
  rw [W_fn (fn := Tryz.f37) Tryz.func37 rfl rfl rfl]
  have hne : ¬ k = σ.n := by omega
  simp only [encW] at hk
  have hga : Grow σ (σ.alloc (.cells [.int .u8 w.key, .int .u8 w.v.at_, .int .u8 w.v.v, .bool w.v.gone] 82 false)) := (Grow.refl σ).alloc _
  have fin := h _ hga
  by_cases e1 : w.key.tmod 5 = x.key.tmod 5
  · by_cases e2 : w.v.at_ = x.v.at_
    · simpa [wops_cons, wops_if', dstOf, encW, hk, hne, sameW, e1, e2] using fin
    · simpa [wops_cons, wops_if', dstOf, encW, hk, hne, sameW, e1, e2] using fin
  · simpa [wops_cons, wops_if', dstOf, encW, hk, hne, sameW, e1] using fin
theorem indexW_spec (k : Nat) (x : WW) (hx : x.ok) (l : List WW) (hok : ∀ w ∈ l, w.ok) (v : Value) (σ : CSt) (hk : σ.get k = some (.cells (encW x) 82 false)) (hkn : k < σ.n) (hsl : Sl σ 82 4 encW v l) (hbig : l.length < 2 ^ 40) (Q : Out → CSt → Prop)
    (h : ∀ (r : Int) (σ' : CSt), (0 ≤ r ↔ ∃ w ∈ l, sameW x w) → Grow σ σ' → Q (.ret (.int .i64 r) false) σ') : W E1 (.fn 61 #[v, sameWF k] none) σ Q := by
  rw [W_fn (fn := Tryz.f61) Tryz.func61 rfl rfl rfl]
  obtain ⟨p, c, rfl⟩ := hsl.form
  simp [wops_cons, sameWF]
  refine W_loop_inv (fun n a σ' => ∃ tm j, a = ⟨tm, 19, [], false⟩ ∧ tm.get 0 = some (.slice p l.length c) ∧ tm.get 1 = some (sameWF k) ∧ tm.get 7 = some (.int .i64 l.length) ∧ tm.get 8 = some (.int .i64 (j : Nat)) ∧ j ≤ l.length ∧ n = l.length - j ∧ (∀ i (h : i < l.length), i < j → ¬ sameW x l[i]) ∧ Grow σ σ') ?_ l.length _ _ ?_
  · rintro n a σ1 ⟨tm, j, rfl, e0, e1, e7, e8, hj, hn, hno, hgr⟩
    by_cases hjl : j < l.length
    · obtain ⟨i, off, row, ro, rfl, hg, hin, hrow, hle⟩ := (hsl.grow hgr).at hjl
      have hld := row_get (enc := encW) lenW hrow j hjl
      have hl1 := row_le hle j hjl
      have hw2 := i64n1 j (by omega)
      simp [wops_cons, e0, e1, e7, e8, hjl, hg, hld, hl1, sameWF, ext37]
      refine sameW_spec k x l[j] hx (hok _ (List.getElem_mem hjl)) σ1 (hgr.get hk hkn) (Nat.lt_of_lt_of_le hkn hgr.n) _ fun σ2 g2 => ?_
      by_cases hat : sameW x l[j]
      · have := h j σ2 ⟨fun _ => ⟨l[j], List.getElem_mem hjl, hat⟩, fun _ => by omega⟩ (hgr.trans g2)
        simpa [wops_cons, hat] using this
      · simp [wops_cons, hat, e0, e1, e7, e8, hw2, sameWF]
        refine ⟨_, ?_, j + 1, rfl, by omega, rfl, fun i h hi => ?_, hgr.trans g2⟩
        · omega
        · by_cases e : i = j
          · subst e; exact hat
          · exact hno i h (by omega)
    · have := h (-1) σ1 ⟨fun h => by omega, fun ⟨w, hw, he⟩ => by
        obtain ⟨i, hi, rfl⟩ := List.mem_iff_getElem.1 hw
        exact absurd he (hno i hi (by omega))⟩ hgr
      have hj' : j = l.length := by omega
      subst hj'
      simpa [wops_cons, e0, e1, e7, e8] using this
  · refine ⟨_, 0, rfl, ?_⟩
    simp [sameWF]
    exact Grow.refl σ
theorem hasW_spec (k : Nat) (x : WW) (hx : x.ok) (l : List WW) (hok : ∀ w ∈ l, w.ok) (v : Value) (σ : CSt) (hk : σ.get k = some (.cells (encW x) 82 false)) (hkn : k < σ.n) (hsl : Sl σ 82 4 encW v l) (hbig : l.length < 2 ^ 40) (Q : Out → CSt → Prop)
    (h : ∀ (σ' : CSt), Grow σ σ' → Q (.ret (.bool (decide (∃ w ∈ l, sameW x w))) false) σ') : W E1 (.fn 36 #[v, sameWF k] none) σ Q := by
  rw [W_fn (fn := Tryz.f36) Tryz.func36 rfl rfl rfl]
  obtain ⟨p, c, rfl⟩ := hsl.form
  simp [wops_cons]
  refine indexW_spec k x hx l hok _ σ hk hkn hsl hbig _ fun r σ1 hr g1 => ?_
  have := h σ1 g1
  rw [← decide_eq_decide.2 hr] at this
  simpa [wops_cons] using this
end Go.Sm
/- image.Encode. -/
set_option linter.unusedVariables false
set_option linter.unusedSimpArgs false
namespace Go.Sm
open Go Go.Proofs
set_option maxRecDepth 100000
set_option maxHeartbeats 4000000
/-- A key and its versions, as bytes. -/
def serRow (s : ByteArray × List Ver) : List UInt8 := serText s.1 ++ num s.2.length ++ s.2.flatMap serV
def serS (clock : Nat) (S : Stl) : List UInt8 := num clock ++ num S.length ++ S.flatMap serRow
def TI : TypeId → Prop := fun t => TW t ∨ t = 31
instance : DecidablePred TI := fun t => inferInstanceAs (Decidable (TW t ∨ t = 31))
theorem WtK.put {K : Nat → Prop} {b p L : Nat} {s : CSt} {l : List UInt8} (h : WtK K b p s l) (hL : K L) (ob : CObj) : WtK K b p (s.put L ob) l := by
  obtain ⟨v, h1, h2, h3, h4, h5⟩ := h
  obtain ⟨k1, k2, k3⟩ := h5 L hL
  refine ⟨v, by rw [CSt.get_put, if_neg (fun e => k1 e.symm)]; exact h1, h2, by simpa using h3, ?_, fun i hi => by simpa using h5 i hi⟩
  rcases h4 with h4 | ⟨i, cap, rfl, q1, q2, q3, q4⟩
  · exact .inl h4
  · exact .inr ⟨i, cap, rfl, q1, by simpa using q2, by rw [CSt.get_put, if_neg (fun e => k3 (by rw [← e]; rfl))]; exact q3, q4⟩
theorem Own.obj_ge {α : Type} {b : Nat} {s : CSt} {e : TypeId} {enc : α → List Value} {v : Value} {l : List α} (h : Own b s e enc v l) {i : Nat} (hi : objOf v = some i) : b ≤ i := by
  rcases h with ⟨rfl, _⟩ | ⟨j, cap, rfl, hb', hj, hg, hc⟩
  · cases hi
  · cases hi; exact hb'
/-- What a store must be like. -/
def OkS (S : Stl) : Prop := ∀ s ∈ S, s.1.size < 2 ^ 30 ∧ s.2.length < 2 ^ 30 ∧ ∀ x ∈ s.2, 0 ≤ x.at_ ∧ x.at_ < 2 ^ 64 ∧ x.val.size < 2 ^ 30
theorem row_le_S {s : ByteArray × List Ver} {S : Stl} (h : s ∈ S) : (serRow s).length ≤ (S.flatMap serRow).length := flat_mem_le serRow h
theorem imgenc_spec (b i : Nat) (S : Stl) (clock : Nat) (hc : clock < 2 ^ 64) (σ : CSt) (hb : b ≤ σ.n) (hst : St b σ i S) (hok : OkS S) (hbig : (serS clock S).length < 2 ^ 34) (hS : S.length < 2 ^ 34) (Q : Out → CSt → Prop)
    (h : ∀ v' σ', Own σ.n σ' 5 encY v' (serS clock S) → Grow σ σ' → Q (.ret v' false) σ') : W E1 (.fn 29 #[.int .u64 clock, .pointer (some ⟨i, 0, none⟩)] none) σ Q := by
  rw [W_fn (fn := Tryz.f29) Tryz.func29 rfl rfl rfl]
  simp [wops_cons]
  refine all33 _ _ _ ?_
  obtain ⟨s0, hs0⟩ : ∃ s0, s0 = (((((σ.alloc (.cells [.slice none 0 0] 27 false)).alloc (.cells [.slice none 0 0] 27 false)).alloc (.cells [.int .u64 0] 31 false)).put (σ.n + 1 + 1) (.cells [.int .u64 0] 31 false)).alloc (.cells [.pointer (some ⟨i, 0, none⟩)] 61 false)) := ⟨_, rfl⟩
  have g0 : Grow σ s0 := by
    rw [hs0]
    refine ⟨by simp; omega, fun j hj => ?_⟩
    rw [CSt.get_alloc, if_neg (by simp; omega), CSt.get_put, if_neg (by omega), CSt.get_alloc, if_neg (by simp; omega), CSt.get_alloc, if_neg (by simp; omega), CSt.get_alloc, if_neg (by omega)]
  have n0 : s0.n = σ.n + 4 := by rw [hs0]; simp
  have k5 : s0.get σ.n = some (.cells [.slice none 0 0] 27 false) := by
    rw [hs0, CSt.get_alloc, if_neg (by simp; omega), CSt.get_put, if_neg (by omega), CSt.get_alloc, if_neg (by simp; omega), CSt.get_alloc, if_neg (by simp), CSt.get_alloc, if_pos rfl]
  have k6 : s0.get (σ.n + 1) = some (.cells [.slice none 0 0] 27 false) := by
    rw [hs0, CSt.get_alloc, if_neg (by simp), CSt.get_put, if_neg (by omega), CSt.get_alloc, if_neg (by simp), CSt.get_alloc, if_pos (by simp)]
  have k7 : s0.get (σ.n + 1 + 1) = some (.cells [.int .u64 0] 31 false) := by
    rw [hs0, CSt.get_alloc, if_neg (by simp), CSt.get_put, if_pos rfl]
  have kq : s0.get (σ.n + 3) = some (.cells [.pointer (some ⟨i, 0, none⟩)] 61 false) := by
    rw [hs0, CSt.get_alloc, if_pos (by simp)]
  have hq : ((((σ.alloc (.cells [.slice none 0 0] 27 false)).alloc (.cells [.slice none 0 0] 27 false)).alloc (.cells [.int .u64 0] 31 false)).put (σ.n + 1 + 1) (.cells [.int .u64 0] 31 false)).n = σ.n + 3 := by simp
  rw [← hs0, hq]
  clear hs0
  simp [wops_cons]
  have hst0 := hst.grow g0
  have hpre : ∀ j, ((S.take j).flatMap serRow).length ≤ (S.flatMap serRow).length := fun j => flat_take_le serRow S j
  have hSb : (S.flatMap serRow).length ≤ (serS clock S).length := by unfold serS; simp only [List.length_append]; omega
  refine range_allG (q := σ.n + 3) (S := S) (i := i) (b := b) rfl rfl hst0 kq (by omega) (by omega) (fun s hs => by have := (hok s hs).2.1; omega) (by simp) (by simp)
    (fun j s => WtK (fun x => x = s0.n) (σ.n + 1) (σ.n + 1) s ((S.take j).flatMap serRow) ∧ s.get (σ.n + 1 + 1) = some (.cells [.int .u64 (j : Nat)] 31 false) ∧ Fr TI (σ.n + 1) s0 s ∧ s0.n < s.n) (fun _ _ => False) ?_ ?_ ?_ ?_ ?_ ?_
  · rintro j s ⟨h1, h2, h3, h4⟩
    refine ⟨⟨h3.1, fun m hm row e ro hg he => h3.2 m hm (.inr fun row' e' ro' hg' ht => ?_)⟩, h4⟩
    rw [hg] at hg'
    cases hg'
    rcases he with rfl | rfl | rfl | rfl <;> exact absurd ht (by decide)
  · rintro j s s' ⟨h1, h2, h3, h4⟩ hg
    exact ⟨h1.grow hg, hg.get h2 (by omega), h3.trans hg.fr, Nat.lt_of_lt_of_le h4 hg.n⟩
  · intro o
    refine ⟨⟨.slice none 0 0, ?_, Nat.le_refl _, by simp; omega, Own.nil, fun x hx => ⟨by omega, by simp; omega, by simp [objOf]⟩⟩, ?_, (Fr.refl _ _ _).alloc o, by simp⟩
    · rw [CSt.get_alloc, if_neg (by omega)]; exact k6
    · rw [CSt.get_alloc, if_neg (by omega)]; exact k7
  · rintro j hj s' v' b' ⟨h1, h2, h3, h4⟩ hb1 hb2 ho hL
    refine ⟨_, s', by simp [wops_cons]; rfl, hL, fun ob => ?_⟩
    have hw1 := h1.put (L := s0.n) rfl ob
    have hk7 : (s'.put s0.n ob).get (σ.n + 1 + 1) = some (.cells [.int .u64 (j : Nat)] 31 false) := by rw [CSt.get_put, if_neg (by omega)]; exact h2
    have hf1 : Fr TI (σ.n + 1) s0 (s'.put s0.n ob) := h3.new (Nat.le_refl _) ob
    have hob : (s'.put s0.n ob).get s0.n = some ob := by simp
    have hn1 : (s'.put s0.n ob).n = s'.n := rfl
    have ho1 : Own b' (s'.put s0.n ob) 33 encV v' S[j].2 := ho.put hb1 ob
    generalize s'.put s0.n ob = t1 at hw1 hk7 hf1 hob hn1 ho1 ⊢
    have hmem := List.getElem_mem hj
    obtain ⟨hks, hls, hvs⟩ := hok _ hmem
    have hrl := row_le_S hmem
    have htk : (S.take (j + 1)).flatMap serRow = (S.take j).flatMap serRow ++ serRow S[j] := by rw [List.take_succ_eq_append_getElem hj, List.flatMap_append]; simp
    have htl := hpre (j + 1)
    rw [htk, List.length_append] at htl
    generalize S[j] = r at hks hls hvs hrl htk ho1 htl
    obtain ⟨key, ch⟩ := r
    simp only at hks hls hvs ho1
    obtain ⟨pc, cc, rfl⟩ := (ho1.sl (sz := 3) lenV).form
    simp [wops_cons]
    generalize hpr : (S.take j).flatMap serRow = pre at hw1 htk htl
    have hrs : (serRow (key, ch)).length = (serText key).length + (num ch.length).length + (ch.flatMap serV).length := by unfold serRow; simp only [List.length_append]
    refine wtextK_spec (fun x => x = s0.n) (σ.n + 1) (σ.n + 1) key pre t1 (by omega) hw1 (by have := hf1.1; omega) (by omega) _ fun t2 hw2 f2 => ?_
    have fn2 := f2.1.1
    have hlu : IntKind.u64.wrap (ch.length : Int) = (ch.length : Int) := IntWalk.u64_in _ (by omega)
    simp [wops_cons, hlu]
    refine wnumK_spec (fun x => x = s0.n) (σ.n + 1) (σ.n + 1) ch.length _ t2 (by omega) hw2 (by have := hf1.1; omega) (by rw [List.length_append]; omega) _ fun t3 hw3 f3 => ?_
    have f13 := f2.trans f3
    have fn3 := f3.1.1
    simp [wops_cons]
    have hslc := ho1.sl (sz := 3) lenV
    refine W_loop_J (fun n a z => ∃ tm, ∃ m : Nat, a = ⟨tm, 42, [], false⟩ ∧ tm.get 6 = some (.pointer (some ⟨σ.n + 1, 0, none⟩)) ∧ tm.get 7 = some (.pointer (some ⟨σ.n + 1 + 1, 0, none⟩)) ∧ tm.get 22 = some (.slice pc ch.length cc) ∧ tm.get 23 = some (.int .i64 ch.length) ∧ tm.get 24 = some (.int .i64 (m : Nat)) ∧ (m ≤ ch.length ∧ n = ch.length - m ∧ WtK (fun x => x = s0.n) (σ.n + 1) (σ.n + 1) z (pre ++ serText key ++ num ch.length ++ (ch.take m).flatMap serV) ∧ FrK (fun x => x = s0.n) TW (σ.n + 1) t1 z))
      (fun out z => ∃ tm, out = .code (.exit 2) ⟨tm, 42, [], false⟩ ∧ tm.get 7 = some (.pointer (some ⟨σ.n + 1 + 1, 0, none⟩)) ∧ WtK (fun x => x = s0.n) (σ.n + 1) (σ.n + 1) z (pre ++ serRow (key, ch)) ∧ FrK (fun x => x = s0.n) TW (σ.n + 1) t1 z) ?_ ch.length _ _ ?_ ?_
    · rintro n a z ⟨tm, m, rfl, e6, e7, e22, e23, e24, hm, hn, hw, hf⟩
      have fnz := hf.1.1
      by_cases hlt : m < ch.length
      · have hlt' : (m : Int) < (ch.length : Int) := by omega
        obtain ⟨y, off, row, ro, hpc, hgy, hyn, hrow, hle⟩ := (hslc.fr (T := TW) (by decide) hf.1).at hlt
        have hld := row_get lenV hrow m hlt
        have hle2 := row_le hle m hlt
        have hw1' := i64s m (by omega)
        obtain ⟨hx0, hx1, hx2⟩ := hvs _ (List.getElem_mem hlt)
        have htv : (ch.take (m + 1)).flatMap serV = (ch.take m).flatMap serV ++ serV ch[m] := by rw [List.take_succ_eq_append_getElem hlt, List.flatMap_append]; simp
        have htvl := flat_take_le serV ch (m + 1)
        rw [htv, List.length_append] at htvl
        generalize ch[m] = X at hld hx0 hx1 hx2 htv htvl
        simp only [encV] at hld
        have g1 : Grow z ((z.alloc (.cells [.int .u64 0, .string ⟨#[]⟩, .bool false] 33 false)).put z.n (.cells [.int .u64 X.at_, .string X.val, .bool X.gone] 33 false)) := ⟨by simp, fun j hj => by rw [CSt.get_put, if_neg (by omega), CSt.get_alloc, if_neg (by omega)]⟩
        simp [wops_cons, e6, e7, e22, e23, e24, hlt, hlt', hpc, hgy, hld, hle2]
        have hvk := valuevK_spec (fun x => x = s0.n) (σ.n + 1) (σ.n + 1) X _ _ ⟨hx0, hx1⟩ (by omega) (hw.grow g1) (by have := g1.n; have := hf1.1; omega) (by simp only [List.length_append]; omega)
        simp only [encV] at hvk
        refine hvk _ fun z2 hw4 f4 => ?_
        simp [wops_cons, e6, e7, e22, e23, e24, hw1']
        exact ⟨ch.length - (m + 1), by omega, hpc, m + 1, by omega, by omega, rfl, by rw [htv]; simpa [List.append_assoc] using hw4, (hf.trans g1.frK).trans f4⟩
      · have hme : m = ch.length := by omega
        subst hme
        rw [List.take_of_length_le (Nat.le_refl _)] at hw
        simp [wops_cons, e6, e7, e22, e23, e24]
        exact ⟨by unfold serRow; simpa [List.append_assoc] using hw, hf⟩
    · exact ⟨_, 0, rfl, by simp, by simp, by simp, by simp, by simp, by omega, rfl, by simpa [List.append_assoc] using hw3, f13⟩
    · rintro out z ⟨tm, rfl, e7, hw, hf⟩
      have fnz := hf.1.1
      have hkz := hf.1.get hk7 (by have := hf1.1; omega) (.inr fun row e ro he => by cases he; decide)
      have hobz : z.get s0.n = some ob := by rw [hf.2 _ rfl (by omega)]; exact hob
      have hwj : IntKind.u64.wrap ((j : Int) + 1) = (j : Int) + 1 := IntWalk.u64_in _ (by omega)
      simp [wops_cons, e7, hkz, hwj]
      have f31 : Fr (fun t => t = 31) (σ.n + 1) z (z.put (σ.n + 1 + 1) (.cells [.int .u64 ((j : Int) + 1)] 31 false)) := (Fr.refl (fun t => t = 31) (σ.n + 1) z).put (by omega) hkz rfl _
      have hwz := hw.fr (T := fun t => t = 31) (by decide) (by decide) f31
      have hft : Fr TI (σ.n + 1) s0 (z.put (σ.n + 1 + 1) (.cells [.int .u64 ((j : Int) + 1)] 31 false)) := (hf1.trans (hf.1.mono (fun _ => .inl) (Nat.le_refl _))).trans (f31.mono (fun _ => .inr) (Nat.le_refl _))
      refine ⟨_, _, none, rfl, rfl, by rw [CSt.get_put, if_neg (by omega)]; exact hobz, fun _ ob' => ⟨by rw [htk]; exact hwz.put (L := s0.n) rfl ob', by rw [CSt.get_put, if_neg (by omega), CSt.get_put, if_pos rfl], hft.new (Nat.le_refl _) ob', by simp; omega⟩, fun c hc => by cases hc⟩
  · rintro s o ⟨h1, h2, h3, h4⟩
    rw [List.take_of_length_le (Nat.le_refl _)] at h1
    obtain ⟨vr, r1, r2, r3, r4, r5⟩ := h1.put (L := s0.n) rfl o
    have kw : (s.put s0.n o).get σ.n = some (.cells [.slice none 0 0] 27 false) := by rw [CSt.get_put, if_neg (by omega)]; exact h3.get k5 (by omega) (.inl (by omega))
    have kc : (s.put s0.n o).get (σ.n + 1 + 1) = some (.cells [.int .u64 S.length] 31 false) := by rw [CSt.get_put, if_neg (by omega)]; exact h2
    have hun : (s.put s0.n o).n = s.n := rfl
    have hgu : Fr TI σ.n σ (s.put s0.n o) := (g0.fr.trans (h3.mono (fun _ h => h) (by omega))).new (by omega) o
    generalize s.put s0.n o = u at r1 r3 r4 r5 kw kc hun hgu ⊢
    have hwK : WtK (fun x => x = σ.n + 1 ∨ objOf vr = some x) σ.n σ.n u [] := ⟨.slice none 0 0, kw, Nat.le_refl _, by omega, Own.nil, fun x hx => by
      rcases hx with rfl | hx
      · exact ⟨by omega, r3, by simp [objOf]⟩
      · have := r4.obj_lt hx
        have := r4.obj_ge hx
        exact ⟨by omega, by omega, by simp [objOf]⟩⟩
    have hnl := num_len10 hc
    have hnS := num_len10 (n := S.length) (by omega)
    simp [wops_cons]
    refine wnumK_spec _ σ.n σ.n clock [] u hc hwK (by omega) (by simp) _ fun u1 w1 f1 => ?_
    have fn1 := f1.1.1
    have kc1 := f1.1.get kc (by omega) (.inr fun row e ro he => by cases he; decide)
    simp [wops_cons, kc1]
    refine wnumK_spec _ σ.n σ.n S.length _ u1 (by omega) w1 (by omega) (by simp; omega) _ fun u2 w2 f2 => ?_
    have f12 := f1.trans f2
    have fn2 := f2.1.1
    obtain ⟨vw, q1, q2, q3, q4, q5⟩ := w2
    have kr2 : u2.get (σ.n + 1) = some (.cells [vr] 27 false) := by rw [f12.2 _ (.inl rfl) (by omega)]; exact r1
    have or2 := r4.frK f12 fun x hx => .inr hx
    obtain ⟨pr, cr, rfl⟩ := (or2.sl (sz := 1) encY_len).form
    obtain ⟨q, c, σ', a1, a2, a3⟩ := wapp_sl q4 (by omega) (or2.sl encY_len) (by simp only [List.length_append, List.length_nil]; omega)
    have hall : [] ++ num clock ++ num S.length ++ S.flatMap serRow = serS clock S := rfl
    rw [hall] at a2
    obtain ⟨pw, cw, rfl⟩ := (q4.sl (sz := 1) encY_len).form
    have hgr : Grow σ σ' := ((hgu.trans (f12.1.mono (fun _ => .inl) (Nat.le_refl _))).trans (a3.mono (fun _ h => .inl (.inr h)) (Nat.le_refl _))).grow (Nat.le_refl _)
    have hQ := h _ σ' a2 hgr
    simp only [List.nil_append, List.length_append] at a1 hQ q1
    simpa [wops_cons, q1, kr2, a1, -List.length_flatMap] using hQ
  · rintro c s o h; exact h.elim
end Go.Sm
/- The law's own image. -/
set_option linter.unusedVariables false
set_option linter.unusedSimpArgs false
namespace Go.Sm
open Go Go.Proofs
set_option maxRecDepth 100000
set_option maxHeartbeats 4000000
theorem make_mem (l : List Ver) (x : Ver) (h : x ∈ makeL l) : x ∈ l := by
  revert h
  refine rev_ind (P := fun l => x ∈ makeL l → x ∈ l) (by simp [makeL]) (fun l v ih h => ?_) l
  rw [makeL_snoc] at h
  unfold putL at h
  simp only [List.mem_append, List.mem_filter, List.mem_cons, List.not_mem_nil, or_false] at h ⊢
  rcases h with h | h | h
  · exact .inl (ih h.1)
  · exact .inr h
  · exact .inl (ih h.1)
end Go.Sm
/- image.row: a key and its versions, read. -/
set_option linter.unusedVariables false
set_option linter.unusedSimpArgs false
namespace Go.Sm
open Go Go.Proofs
set_option maxRecDepth 100000
set_option maxHeartbeats 40000000
/-- So many versions that bytes begin with, times rising. -/
def rdChain : Nat → Int → List UInt8 → Option (List Ver × List UInt8)
  | 0, _, b => some ([], b)
  | n + 1, at_, b => (rdV b).bind fun p => if at_ < p.1.at_ ∧ p.1.at_ ≤ 2 ^ 40 then (rdChain n p.1.at_ p.2).map fun r => (p.1 :: r.1, r.2) else none
theorem rdChain_step {n : Nat} {at_ : Int} {b : List UInt8} : rdChain (n + 1) at_ b = (rdV b).bind fun p => if at_ < p.1.at_ ∧ p.1.at_ ≤ 2 ^ 40 then (rdChain n p.1.at_ p.2).map fun r => (p.1 :: r.1, r.2) else none := rfl
/-- A key behind another one, and its versions. -/
def rdRow (last : ByteArray) (b : List UInt8) : Option ((ByteArray × List Ver) × List UInt8) :=
  (rdText 32 b).bind fun p => (rd p.2).bind fun q => if klt last p.1 = true ∧ q.1 ≠ 0 ∧ q.1 ≤ q.2.length then (rdChain q.1 0 q.2).map fun r => ((p.1, r.1), r.2) else none
end Go.Sm
/- Images as bytes, plain. -/
set_option linter.unusedVariables false
set_option linter.unusedSimpArgs false
namespace Go.Sm
/-- The last version's time. -/
def lastT (c : List Ver) : Int := (c.getLast?.map (·.at_)).getD 0
/-- So many rows that bytes begin with, keys rising, none of them late. -/
def decRows (clock : Nat) : Nat → ByteArray → List UInt8 → Option (Stl × List UInt8)
  | 0, _, b => some ([], b)
  | n + 1, last, b => (rdRow last b).bind fun p => if lastT p.1.2 ≤ clock then (decRows clock n p.1.1 p.2).map fun r => (p.1 :: r.1, r.2) else none
theorem decRows_step {clock n : Nat} {last : ByteArray} {b : List UInt8} : decRows clock (n + 1) last b = (rdRow last b).bind fun p => if lastT p.1.2 ≤ clock then (decRows clock n p.1.1 p.2).map fun r => (p.1 :: r.1, r.2) else none := rfl
/-- The clock and the store whose bytes these are. -/
def decS (b : List UInt8) : Option (Nat × Stl) :=
  (rd b).bind fun p => (rd p.2).bind fun q => if p.1 ≤ 2 ^ 40 ∧ q.1 ≤ b.length then (decRows p.1 q.1 (str []) q.2).bind fun r => if r.2 = [] then some (p.1, r.1) else none else none
end Go.Sm
/- image.Decode. -/
set_option linter.unusedVariables false
set_option linter.unusedSimpArgs false
namespace Go.Sm
open Go Go.Proofs
set_option maxRecDepth 100000
set_option maxHeartbeats 40000000
theorem Fr.kept {b : Nat} {σ σ' : CSt} (f : Fr TR b σ σ') : Kept σ σ' :=
  ⟨f.1, fun m hm row e ro hg he => f.2 m hm (.inr fun row' e' ro' hg' ht => by
    rw [hg] at hg'
    cases hg'
    rcases he with rfl | rfl | rfl | rfl <;> exact absurd ht (by decide))⟩
theorem St.weaken {b b' : Nat} {σ : CSt} {i : Nat} {S : Stl} (h : St b σ i S) (hb : b' ≤ b) : St b' σ i S := by
  obtain ⟨vr, R, h1, h2, h3, h4, h5⟩ := h
  exact ⟨vr, R, by omega, h2, h3, h4.weaken hb, h5⟩
end Go.Sm
/- A store's bytes, read again; plain. -/
set_option linter.unusedVariables false
set_option linter.unusedSimpArgs false
namespace Go.Sm
/-- What rows must be like to be an image's. -/
structure GoodS (S : Stl) : Prop where
  ks : KS S
  key : ∀ s ∈ S, 1 ≤ s.1.size ∧ s.1.size ≤ 32
  ne : ∀ s ∈ S, s.2 ≠ []
  srt : ∀ s ∈ S, Srt s.2
  ver : ∀ s ∈ S, ∀ x ∈ s.2, GoodV x ∧ 0 < x.at_ ∧ x.at_ ≤ 2 ^ 40
theorem serV_pos (x : Ver) : 1 ≤ (serV x).length := by
  have := num_pos x.at_.toNat
  rw [serV, List.length_append]
  omega
theorem flatV_len (c : List Ver) : c.length ≤ (c.flatMap serV).length := by
  induction c with
  | nil => simp
  | cons x c ih =>
    have := serV_pos x
    rw [List.flatMap_cons, List.length_append, List.length_cons]
    omega
theorem rdChain_ser {r : List UInt8} : ∀ {c : List Ver} {at_ : Int}, Srt c → (∀ x ∈ c, GoodV x ∧ at_ < x.at_ ∧ 0 < x.at_ ∧ x.at_ ≤ 2 ^ 40) → rdChain c.length at_ (c.flatMap serV ++ r) = some (c, r)
  | [], _, _, _ => rfl
  | x :: c, at_, hs, h => by
    obtain ⟨g1, g2, g3, g4⟩ := h x List.mem_cons_self
    obtain ⟨q1, q2⟩ := List.pairwise_cons.1 hs
    have ih := rdChain_ser (r := r) (at_ := x.at_) q2 fun y hy => by
      obtain ⟨k1, k2, k3, k4⟩ := h y (List.mem_cons_of_mem _ hy)
      exact ⟨k1, q1 y hy, k3, k4⟩
    show rdChain (c.length + 1) at_ _ = _
    rw [rdChain_step, List.flatMap_cons, List.append_assoc, rdV_ser g1 (by omega) (by omega), Option.bind_some, if_pos ⟨g2, g4⟩, ih]
    rfl
theorem rdRow_ser {last : ByteArray} {s : ByteArray × List Ver} (hk : klt last s.1 = true) (hks : s.1.size ≤ 32) (hne : s.2 ≠ []) (hs : Srt s.2) (hl : s.2.length < 2 ^ 64) (hv : ∀ x ∈ s.2, GoodV x ∧ 0 < x.at_ ∧ x.at_ ≤ 2 ^ 40) (r : List UInt8) : rdRow last (serRow s ++ r) = some (s, r) := by
  obtain ⟨key, c⟩ := s
  simp only at hk hks hne hs hl hv
  have hpos := List.length_pos_iff.2 hne
  unfold rdRow serRow
  simp only
  rw [List.append_assoc, List.append_assoc, rdText_ser hks (by decide), Option.bind_some]
  simp only
  rw [rd_num hl, Option.bind_some]
  have h1 := flatV_len c
  rw [if_pos ⟨hk, by simp only; omega, by simp only [List.length_append]; omega⟩]
  simp only
  rw [rdChain_ser hs fun x hx => by
    obtain ⟨a, b, d⟩ := hv x hx
    exact ⟨a, b, b, d⟩]
  rfl
theorem decRows_ser {clock : Nat} {r : List UInt8} : ∀ {S : Stl} {last : ByteArray}, GoodS S → (∀ s ∈ S, s.2.length < 2 ^ 64) → (∀ s ∈ S, klt last s.1 = true) → decRows clock S.length last (S.flatMap serRow ++ r) = if (∀ s ∈ S, lastT s.2 ≤ clock) then some (S, r) else none
  | [], _, _, _, _ => by simp [decRows]
  | s :: S, last, h, hl, hlast => by
    obtain ⟨q1, q2⟩ := List.pairwise_cons.1 h.ks
    have hm := List.mem_cons_self (a := s) (l := S)
    have ih := decRows_ser (r := r) (clock := clock) (S := S) (last := s.1) ⟨q2, fun x hx => h.key x (List.mem_cons_of_mem _ hx), fun x hx => h.ne x (List.mem_cons_of_mem _ hx), fun x hx => h.srt x (List.mem_cons_of_mem _ hx), fun x hx => h.ver x (List.mem_cons_of_mem _ hx)⟩ (fun x hx => hl x (List.mem_cons_of_mem _ hx)) q1
    show decRows clock (S.length + 1) last _ = _
    rw [decRows_step, List.flatMap_cons, List.append_assoc, rdRow_ser (hlast s hm) (h.key s hm).2 (h.ne s hm) (h.srt s hm) (hl s hm) (h.ver s hm), Option.bind_some]
    simp only
    rw [ih]
    by_cases h1 : lastT s.2 ≤ clock
    · rw [if_pos h1]
      by_cases h2 : ∀ x ∈ S, lastT x.2 ≤ clock
      · rw [if_pos h2, if_pos (fun x hx => by
          rcases List.mem_cons.1 hx with rfl | hx
          · exact h1
          · exact h2 x hx)]
        rfl
      · rw [if_neg h2, if_neg (fun h3 => h2 fun x hx => h3 x (List.mem_cons_of_mem _ hx))]
        rfl
    · rw [if_neg h1, if_neg (fun h3 => h1 (h3 s hm))]
theorem serRow_pos (s : ByteArray × List Ver) : 1 ≤ (serRow s).length := by
  have := num_pos s.2.length
  unfold serRow
  simp only [List.length_append]
  omega
theorem flatR_len (S : Stl) : S.length ≤ (S.flatMap serRow).length := by
  induction S with
  | nil => simp
  | cons x c ih =>
    have := serRow_pos x
    rw [List.flatMap_cons, List.length_append, List.length_cons]
    omega
theorem decS_ser {clock : Nat} {S : Stl} (hc : clock < 2 ^ 64) (h : GoodS S) (hl : ∀ s ∈ S, s.2.length < 2 ^ 64) (hS : S.length < 2 ^ 64) : decS (serS clock S) = if clock ≤ 2 ^ 40 ∧ ∀ s ∈ S, lastT s.2 ≤ clock then some (clock, S) else none := by
  have hlen := flatR_len S
  have e : serS clock S = num clock ++ (num S.length ++ (S.flatMap serRow ++ [])) := by rw [serS, List.append_nil, List.append_assoc]
  have e1 : rd (serS clock S) = some (clock, num S.length ++ (S.flatMap serRow ++ [])) := by rw [e, rd_num hc]
  have hbl : S.length ≤ (serS clock S).length := by unfold serS; simp only [List.length_append]; omega
  unfold decS
  rw [e1, Option.bind_some]
  simp only
  rw [rd_num hS, Option.bind_some]
  simp only
  by_cases hck : clock ≤ 2 ^ 40
  · rw [if_pos ⟨hck, hbl⟩, decRows_ser h hl fun s hs => klt_nil (h.key s hs).1]
    by_cases h2 : ∀ s ∈ S, lastT s.2 ≤ clock
    · rw [if_pos h2, if_pos ⟨hck, h2⟩]
      simp
    · rw [if_neg h2, if_neg (fun h3 => h2 h3.2)]
      rfl
  · rw [if_neg (fun h3 => hck h3.1), if_neg (fun h3 => hck h3.1)]
end Go.Sm
/- What the law's stores are like. -/
set_option linter.unusedVariables false
set_option linter.unusedSimpArgs false
namespace Go.Sm
theorem key12_size (n : Int) : (key12 n).size = 1 := by unfold key12; split <;> rfl
theorem verOf_good (x : VV) (h : x.ok) (h1 : 1 ≤ x.at_) : GoodV (verOf x) ∧ 0 < (verOf x).at_ ∧ (verOf x).at_ ≤ 255 := by
  obtain ⟨⟨a, b⟩, c⟩ := h
  rw [verOf_at]
  refine ⟨⟨fun hg => ?_, ?_⟩, by omega, by omega⟩
  · unfold verOf at hg ⊢
    by_cases e : x.gone = true
    · rw [if_pos e]; rfl
    · rw [if_neg e] at hg; cases hg
  · unfold verOf
    split
    · show (⟨#[]⟩ : ByteArray).size ≤ 200; decide
    · show (nameOf _).size ≤ 200
      unfold nameOf
      split <;> decide
/-- Small numbers, keys and times from one on. -/
def WsOk (ws : List WW) : Prop := ∀ w ∈ ws, w.ok ∧ 1 ≤ w.v.at_
theorem ofK_mem {ws : List WW} {k : ByteArray} {x : Ver} (h : x ∈ ofK ws k) : ∃ w ∈ ws, w.k = k ∧ x = verOf w.v := by
  unfold ofK at h
  obtain ⟨w, hw, rfl⟩ := List.mem_map.1 h
  obtain ⟨h1, h2⟩ := List.mem_filter.1 hw
  exact ⟨w, h1, by simpa using h2, rfl⟩
theorem makeL_ne : ∀ {l : List Ver}, l ≠ [] → makeL l ≠ [] := by
  intro l
  refine rev_ind (P := fun l => l ≠ [] → makeL l ≠ []) (fun h => absurd rfl h) (fun l v _ _ => ?_) l
  rw [makeL_snoc]
  unfold putL
  simp
theorem good_S {S : Stl} {ws : List WW} (h : SRel S ws) (hw : WsOk ws) : GoodS S := by
  have hv : ∀ s ∈ S, ∀ x ∈ s.2, GoodV x ∧ 0 < x.at_ ∧ x.at_ ≤ 255 := by
    intro s hs x hx
    rw [h.val s hs] at hx
    obtain ⟨w, hw1, _, rfl⟩ := ofK_mem (make_mem _ x hx)
    exact verOf_good _ (hw w hw1).1.2 (hw w hw1).2
  refine ⟨h.ks, fun s hs => ?_, fun s hs => ?_, h.srt, fun s hs x hx => ?_⟩
  · obtain ⟨w, _, e⟩ := h.only s hs
    rw [← e]
    have : w.k.size = 1 := key12_size _
    omega
  · rw [h.val s hs]
    refine makeL_ne ?_
    obtain ⟨w, hw1, e⟩ := h.only s hs
    have : verOf w.v ∈ ofK ws s.1 := by
      unfold ofK
      exact List.mem_map.2 ⟨w, List.mem_filter.2 ⟨hw1, by simpa using e⟩, rfl⟩
    exact List.ne_nil_of_mem this
  · obtain ⟨a, b, c⟩ := hv s hs x hx
    exact ⟨a, b, by omega⟩
theorem lastT_mem {c : List Ver} (h : c ≠ []) : ∃ x ∈ c, lastT c = x.at_ := by
  unfold lastT
  have hl := List.length_pos_iff.2 h
  rw [List.getLast?_eq_getElem?, List.getElem?_eq_getElem (by omega)]
  exact ⟨c[c.length - 1]'(by omega), List.getElem_mem (by omega), by simp⟩
theorem ok_S {S : Stl} {ws : List WW} (h : SRel S ws) (hw : WsOk ws) (hn : ws.length < 2 ^ 20) : OkS S := by
  have hg := good_S h hw
  intro s hs
  have h1 := h.short s hs
  refine ⟨by have := (hg.key s hs).2; omega, by omega, fun x hx => ?_⟩
  obtain ⟨⟨_, a⟩, b, c⟩ := hg.ver s hs x hx
  exact ⟨by omega, by omega, by omega⟩
theorem serS_small {S : Stl} {ws : List WW} {clock : Nat} (h : SRel S ws) (hw : WsOk ws) (hn : ws.length ≤ 1000) (hc : clock < 2 ^ 64) : (serS clock S).length < 2 ^ 28 := by
  have hg := good_S h hw
  have hS := h.len
  have e1 := num_len10 hc
  have e2 := num_len10 (n := S.length) (by omega)
  have e3 := flat_le serRow (100 + 250 * 1000) S fun s hs => by
    have k1 := serText_len s.1 (by have := (hg.key s hs).2; omega)
    have k2 := (hg.key s hs).2
    have k3 := h.short s hs
    have k4 := num_len10 (n := s.2.length) (by omega)
    have k5 := flat_le serV 250 s.2 fun x hx => by
      obtain ⟨⟨_, a⟩, b, c⟩ := hg.ver s hs x hx
      exact serV_len x (by omega) a
    have k6 : 250 * s.2.length ≤ 250 * 1000 := Nat.mul_le_mul_left _ (by omega)
    unfold serRow
    simp only [List.length_append]
    omega
  have e4 : (100 + 250 * 1000) * S.length ≤ (100 + 250 * 1000) * 1000 := Nat.mul_le_mul_left _ (by omega)
  unfold serS
  simp only [List.length_append]
  omega
end Go.Sm
/- Stores of versions in another order, plain. -/
set_option linter.unusedVariables false
set_option linter.unusedSimpArgs false
namespace Go.Sm
theorem lastAt_append (a b : List Ver) (t : Int) : lastAt (a ++ b) t = (lastAt b t).or (lastAt a t) := by
  unfold lastAt
  rw [List.filter_append, List.getLast?_append]
theorem lastAt_comm {a b : List Ver} (h : ∀ u ∈ a, ∀ w ∈ b, u.at_ ≠ w.at_) (t : Int) : lastAt (a ++ b) t = lastAt (b ++ a) t := by
  rw [lastAt_append, lastAt_append]
  cases ha : lastAt a t with
  | none => simp
  | some u =>
    cases hb : lastAt b t with
    | none => simp
    | some w =>
      obtain ⟨h1, h2⟩ := lastAt_at ha
      obtain ⟨h3, h4⟩ := lastAt_at hb
      exact absurd (h2.trans h4.symm) (h u h1 w h3)
theorem makeL_comm {a b : List Ver} (h : ∀ u ∈ a, ∀ w ∈ b, u.at_ ≠ w.at_) : makeL (a ++ b) = makeL (b ++ a) :=
  Srt.ext (makeL_srt _) (makeL_srt _) fun t => by rw [lk_makeL, lk_makeL, lastAt_comm h]
theorem ofK_append (a b : List WW) (k : ByteArray) : ofK (a ++ b) k = ofK a k ++ ofK b k := by
  unfold ofK
  rw [List.filter_append, List.map_append]
theorem order_store {l m : List WW} {S S' : Stl} (h : SRel S (l ++ m)) (h' : SRel S' (m ++ l)) (hne : ∀ u ∈ l, ∀ w ∈ m, u.k = w.k → u.v.at_ ≠ w.v.at_) : S = S' := by
  have hks : S.map (·.1) = S'.map (·.1) := by
    have a1 : (S.map (·.1)).Pairwise fun a c => klt a c = true := by rw [List.pairwise_map]; exact h.ks
    have a2 : (S'.map (·.1)).Pairwise fun x y => klt y x = false := by
      rw [List.pairwise_map]
      exact h'.ks.imp fun {a c} hac => by
        cases h3 : klt c.1 a.1 with
        | false => rfl
        | true => have := klt_trans hac h3; rw [klt_irrefl] at this; cases this
    refine sorted_eq a1 a2 ?_
    refine (List.perm_ext_iff_of_nodup h.ks.nodup h'.ks.nodup).2 fun k => ?_
    constructor
    · intro hk
      obtain ⟨s, hs, rfl⟩ := List.mem_map.1 hk
      obtain ⟨w, hw, e⟩ := h.only s hs
      obtain ⟨s', hs', e'⟩ := h'.all w (by simpa [or_comm] using hw)
      exact List.mem_map.2 ⟨s', hs', e'.trans e⟩
    · intro hk
      obtain ⟨s, hs, rfl⟩ := List.mem_map.1 hk
      obtain ⟨w, hw, e⟩ := h'.only s hs
      obtain ⟨s', hs', e'⟩ := h.all w (by simpa [or_comm] using hw)
      exact List.mem_map.2 ⟨s', hs', e'.trans e⟩
  have hlen : S.length = S'.length := by simpa using congrArg List.length hks
  refine List.ext_getElem hlen fun i h1 h2 => ?_
  have hki : S[i].1 = S'[i].1 := by
    have := congrArg (fun L : List ByteArray => L[i]?) hks
    simpa [List.getElem?_map, List.getElem?_eq_getElem h1, List.getElem?_eq_getElem h2] using this
  refine Prod.ext hki ?_
  rw [h.val _ (List.getElem_mem h1), h'.val _ (List.getElem_mem h2), ← hki, ofK_append, ofK_append]
  refine makeL_comm fun u hu w hw => ?_
  obtain ⟨x, hx, e1, rfl⟩ := ofK_mem hu
  obtain ⟨y, hy, e3, rfl⟩ := ofK_mem hw
  rw [verOf_at, verOf_at]
  exact hne x hx y hy (e1.trans e3.symm)
theorem key12_inj {a b : Int} (ha : 0 ≤ a) (ha2 : a < 5) (hb : 0 ≤ b) (hb2 : b < 5) (h : key12 a = key12 b) : a = b := by
  obtain ⟨m, rfl⟩ : ∃ m : Nat, a = m := ⟨a.toNat, by omega⟩
  obtain ⟨n, rfl⟩ : ∃ m : Nat, b = m := ⟨b.toNat, by omega⟩
  have hm : m < 5 := by omega
  have hn : n < 5 := by omega
  have key : ∀ m n : Fin 5, key12 (m.val : Int) = key12 (n.val : Int) → m = n := by decide
  have := key ⟨m, hm⟩ ⟨n, hn⟩ h
  rw [Fin.mk.injEq] at this
  omega
theorem wk_inj {x w : WW} (hx : x.ok) (hw : w.ok) (h : w.k = x.k) : w.key.tmod 5 = x.key.tmod 5 := by
  have h1 : w.key.tmod 5 = w.key % 5 := Int.tmod_eq_emod_of_nonneg hw.1.1
  have h2 : x.key.tmod 5 = x.key % 5 := Int.tmod_eq_emod_of_nonneg hx.1.1
  exact key12_inj (by omega) (by omega) (by omega) (by omega) h
/-- No two of one key and one time. -/
def AllApart (l : List WW) : Prop := l.Pairwise fun a b => ¬ sameW a b
theorem apart_snoc {l : List WW} {x : WW} (h : AllApart l) (hx : ¬ ∃ w ∈ l, sameW x w) : AllApart (l ++ [x]) := by
  unfold AllApart
  rw [List.pairwise_append]
  refine ⟨h, List.pairwise_singleton _ _, fun a ha b hb hs => hx ⟨a, ha, ?_⟩⟩
  rw [List.mem_singleton.1 hb] at hs
  exact ⟨hs.1.symm, hs.2.symm⟩
theorem apart_split {l : List WW} (h : AllApart l) (hok : ∀ w ∈ l, w.ok) (k : Nat) : ∀ u ∈ l.drop k, ∀ w ∈ l.take k, u.k = w.k → u.v.at_ ≠ w.v.at_ := by
  intro u hu w hw hk ha
  rw [← List.take_append_drop k l] at h
  have := (List.pairwise_append.1 h).2.2 w hw u hu
  exact this ⟨wk_inj (hok w (List.mem_of_mem_take hw)) (hok u (List.mem_of_mem_drop hu)) hk, ha⟩
theorem fix_id {l : List WW} (h : ∀ w ∈ l, 1 ≤ w.v.at_) : l.map fixW = l := by
  conv => rhs; rw [← List.map_id l]
  refine List.map_congr_left fun w hw => ?_
  have := h w hw
  obtain ⟨k, a, v, g⟩ := w
  simp only at this
  show (⟨k, ⟨if a = 0 then 1 else a, v, g⟩⟩ : WW) = _
  rw [if_neg (by omega)]
  rfl
/-! ### One more -/
def moreV : Ver := ⟨290, str [109, 111, 114, 101], false⟩
theorem more_good : GoodV moreV ∧ 0 < moreV.at_ ∧ moreV.at_ ≤ 300 := ⟨⟨fun h => (Bool.noConfusion h), by unfold moreV; rw [size_str]; simp⟩, by unfold moreV; decide, by unfold moreV; decide⟩
theorem more_S {S : Stl} {ws : List WW} (h : SRel S ws) (hw : WsOk ws) {k : ByteArray} {n : Nat} (hk : 1 ≤ k.size ∧ k.size ≤ 32) (hp : Pos S k n) : GoodS (putAt S k moreV n) ∧ (∀ s ∈ putAt S k moreV n, lastT s.2 ≤ 300) ∧ putAt S k moreV n ≠ S := by
  have hG := good_S h hw
  have hold : ∀ s ∈ S, ∀ x ∈ s.2, x.at_ ≤ 255 := fun s hs x hx => by
    rw [h.val s hs] at hx
    obtain ⟨w, hw1, _, rfl⟩ := ofK_mem (make_mem _ x hx)
    exact (verOf_good _ (hw w hw1).1.2 (hw w hw1).2).2.2
  have hput : ∀ c, (c = [] ∨ (k, c) ∈ S) → ∀ x ∈ putL c moreV, x = moreV ∨ ∃ s ∈ S, x ∈ s.2 := fun c hc x hx => by
    unfold putL at hx
    simp only [List.mem_append, List.mem_cons, List.mem_filter] at hx
    have : x = moreV ∨ x ∈ c := by rcases hx with h | h | h <;> simp [h]
    rcases this with h | h
    · exact .inl h
    · rcases hc with rfl | hc
      · cases h
      · exact .inr ⟨_, hc, h⟩
  have hnew : ∀ s ∈ putAt S k moreV n, ∀ x ∈ s.2, GoodV x ∧ 0 < x.at_ ∧ x.at_ ≤ 300 := fun s hs x hx => by
    have hold2 : ∀ s ∈ S, ∀ x ∈ s.2, GoodV x ∧ 0 < x.at_ ∧ x.at_ ≤ 300 := fun s hs x hx => by
      obtain ⟨a, b, _⟩ := hG.ver s hs x hx
      have := hold s hs x hx
      exact ⟨a, b, by omega⟩
    rcases putAt_mem s hs with h1 | ⟨c, rfl, hc⟩
    · exact hold2 s h1 x hx
    · rcases hput c hc x hx with rfl | ⟨s', hs', hx'⟩
      · exact more_good
      · exact hold2 s' hs' x hx'
  refine ⟨⟨putAt_ks h.ks hp, fun s hs => ?_, fun s hs => ?_, fun s hs => ?_, fun s hs x hx => ?_⟩, fun s hs => ?_, fun he => ?_⟩
  · rcases putAt_mem s hs with h1 | ⟨c, rfl, hc⟩
    · exact hG.key s h1
    · exact hk
  · rcases putAt_mem s hs with h1 | ⟨c, rfl, hc⟩
    · exact hG.ne s h1
    · show putL c moreV ≠ []
      unfold putL
      simp
  · rcases putAt_mem s hs with h1 | ⟨c, rfl, hc⟩
    · exact h.srt s h1
    · rcases hc with rfl | hc
      · exact Srt.put List.Pairwise.nil _
      · exact (h.srt _ hc).put _
  · obtain ⟨a, b, c⟩ := hnew s hs x hx
    exact ⟨a, b, by omega⟩
  · have hne : s.2 ≠ [] := by
      rcases putAt_mem s hs with h1 | ⟨c, rfl, hc⟩
      · exact hG.ne s h1
      · show putL c moreV ≠ []
        unfold putL
        simp
    obtain ⟨x, hx, e⟩ := lastT_mem hne
    rw [e]
    exact (hnew s hs x hx).2.2
  · obtain ⟨c, hc, _⟩ := putAt_get (x := moreV) hp
    rw [he] at hc
    have hm := List.mem_of_getElem? hc
    have := hold _ hm moreV (by show moreV ∈ putL c moreV; unfold putL; simp)
    revert this
    unfold moreV
    decide
theorem more_ser {S : Stl} {ws : List WW} (h : SRel S ws) (hw : WsOk ws) (hlen : ws.length < 2 ^ 20) {k : ByteArray} {n : Nat} (hk : 1 ≤ k.size ∧ k.size ≤ 32) (hp : Pos S k n) : serS 300 S ≠ serS 300 (putAt S k moreV n) := by
  obtain ⟨h1, h2, h3⟩ := more_S h hw hk hp
  have hG := good_S h hw
  have hS := h.len
  have hpl := putAt_len S k moreV n
  intro he
  have d1 := decS_ser (clock := 300) (by omega) hG (fun s hs => by have := h.short s hs; omega) (by omega)
  have d2 := decS_ser (clock := 300) (by omega) h1 (fun s hs => by
    rcases putAt_mem s hs with hs | ⟨c, rfl, hc⟩
    · have := h.short s hs; omega
    · have hcl : c.length ≤ ws.length := by
        rcases hc with rfl | hc
        · simp
        · exact h.short _ hc
      have : (putL c moreV).length ≤ 2 * c.length + 1 := by
        unfold putL
        have a1 := List.length_filter_le (fun u : Ver => decide (u.at_ < moreV.at_)) c
        have a2 := List.length_filter_le (fun u : Ver => decide (moreV.at_ < u.at_)) c
        simp only [List.length_append, List.length_cons]
        omega
      show (putL c moreV).length < 2 ^ 64
      omega) (by omega)
  rw [if_pos ⟨by omega, h2⟩] at d2
  rw [he, d2] at d1
  split at d1
  · exact h3 (congrArg Prod.snd (Option.some.inj d1))
  · cases d1
theorem serS_bound {S : Stl} {clock : Nat} (hg : GoodS S) (hl : ∀ s ∈ S, s.2.length ≤ 1000) (hS : S.length ≤ 1000) (hc : clock < 2 ^ 64) : (serS clock S).length < 2 ^ 28 := by
  have e1 := num_len10 hc
  have e2 := num_len10 (n := S.length) (by omega)
  have e3 := flat_le serRow (100 + 250 * 1000) S fun s hs => by
    have k1 := serText_len s.1 (by have := (hg.key s hs).2; omega)
    have k2 := (hg.key s hs).2
    have k3 := hl s hs
    have k4 := num_len10 (n := s.2.length) (by omega)
    have k5 := flat_le serV 250 s.2 fun x hx => by
      obtain ⟨⟨_, a⟩, b, c⟩ := hg.ver s hs x hx
      exact serV_len x (by omega) a
    have k6 : 250 * s.2.length ≤ 250 * 1000 := Nat.mul_le_mul_left _ (by omega)
    unfold serRow
    simp only [List.length_append]
    omega
  have e4 : (100 + 250 * 1000) * S.length ≤ (100 + 250 * 1000) * 1000 := Nat.mul_le_mul_left _ (by omega)
  unfold serS
  simp only [List.length_append]
  omega
theorem more_len {S : Stl} {k : ByteArray} {n m : Nat} (h : ∀ s ∈ S, s.2.length ≤ m) : ∀ s ∈ putAt S k moreV n, s.2.length ≤ 2 * m + 1 := fun s hs => by
  rcases putAt_mem s hs with hs | ⟨c, rfl, hc⟩
  · have := h s hs; omega
  · have hcl : c.length ≤ m := by
      rcases hc with rfl | hc
      · simp
      · exact h _ hc
    have a1 := List.length_filter_le (fun u : Ver => decide (u.at_ < moreV.at_)) c
    have a2 := List.length_filter_le (fun u : Ver => decide (moreV.at_ < u.at_)) c
    show (putL c moreV).length ≤ _
    unfold putL
    simp only [List.length_append, List.length_cons]
    omega
theorem ok_good {S : Stl} (hg : GoodS S) (hl : ∀ s ∈ S, s.2.length < 2 ^ 30) : OkS S := by
  intro s hs
  refine ⟨by have := (hg.key s hs).2; omega, hl s hs, fun x hx => ?_⟩
  obtain ⟨⟨_, a⟩, b, c⟩ := hg.ver s hs x hx
  exact ⟨by omega, by omega, by omega⟩
/-- A time of at least one. -/
def mx (w : WW) : WW := ⟨w.key, ⟨if w.v.at_ < 1 then 1 else w.v.at_, w.v.v, w.v.gone⟩⟩
theorem mx_ok {w : WW} (h : w.ok) : (mx w).ok ∧ 1 ≤ (mx w).v.at_ := by
  obtain ⟨h1, ⟨h2, h3⟩, h4⟩ := h
  refine ⟨⟨h1, ?_, h4⟩, ?_⟩
  · show 0 ≤ (if w.v.at_ < 1 then 1 else w.v.at_) ∧ (if w.v.at_ < 1 then 1 else w.v.at_) < 256
    split <;> omega
  · show 1 ≤ (if w.v.at_ < 1 then 1 else w.v.at_)
    split <;> omega
end Go.Sm
/- slices.Concat of bytes. -/
set_option linter.unusedVariables false
set_option linter.unusedSimpArgs false
namespace Go.Sm
open Go Go.Proofs
set_option maxRecDepth 100000
set_option maxHeartbeats 4000000
section
attribute [local simp] sliceOp_open3 sliceOp_cap sliceOp_open sliceOp_nil appendOp_K appendOp_N copyOp_K
end
end Go.Sm
/- ImageOrder, walked. -/
set_option linter.unusedVariables false
set_option linter.unusedSimpArgs false
namespace Go.Sm
open Go Go.Proofs
set_option maxRecDepth 100000
set_option maxHeartbeats 4000000
theorem law_ImageOrder (l : List WW) (hok : ∀ x ∈ l, x.ok) (turn : Nat) (ht : turn ≤ 255) (w0 : WW) (hw0 : w0.ok) (v : Value) (σ : CSt) (hn : gnone σ) (hz : 1 < σ.n) (hsl : Sl σ 82 4 encW v l) : W E1 (.fn 11 #[v, .int .u8 turn, .agg (encW w0).toArray] none) σ isTrueP := by
  rw [W_fn (fn := Tryz.f11) Tryz.func11 rfl rfl rfl]
  obtain ⟨p, c, rfl⟩ := hsl.form
  have g0 : Grow σ (σ.alloc (.cells (encW w0) 82 false)) := (Grow.refl σ).alloc _
  have kb : (σ.alloc (.cells (encW w0) 82 false)).get σ.n = some (.cells (encW w0) 82 false) := by simp
  have nb : (σ.alloc (.cells (encW w0) 82 false)).n = σ.n + 1 := by simp
  have hn' : gnone (σ.alloc (.cells (encW w0) 82 false)) := g0.get hn hz
  simp only [encW] at g0 kb nb hn'
  simp [wops_cons, encW]
  generalize σ.alloc (.cells [.int .u8 w0.key, .int .u8 w0.v.at_, .int .u8 w0.v.v, .bool w0.v.gone] 82 false) = σ0 at g0 kb nb hn' ⊢
  rw [awake_spec rfl hn']
  simp [wops_cons]
  by_cases hl : 30 < l.length
  · have hl' : (30 : Int) < l.length := by omega
    simp [wops_cons, wops_if', dstOf, hl', isTrueP]
  have hl' : ¬ (30 : Int) < l.length := by omega
  by_cases hnil : l = []
  · subst hnil
    simp [wops_cons, wops_if', dstOf, isTrueP]
  have hpos := List.length_pos_iff.2 hnil
  have hpos' : ¬ (l.length : Int) = 0 := by omega
  simp [wops_cons, wops_if', dstOf, hl', hpos', hnil]
  have hsl0 := hsl.grow g0
  refine W_loop_J (fun n a s => ∃ tm, ∃ j : Nat, ∃ vx X, a = ⟨tm, 88, [], false⟩ ∧ tm.get 1 = some (.int .u8 (turn : Nat)) ∧ tm.get 5 = some (.pointer (some ⟨σ.n, 0, none⟩)) ∧ tm.get 7 = some vx ∧ tm.get 26 = some (.slice p l.length c) ∧ tm.get 27 = some (.int .i64 l.length) ∧ tm.get 28 = some (.int .i64 (j : Nat)) ∧ (j ≤ l.length ∧ n = l.length - j ∧ Own σ0.n s 82 encW vx X ∧ Grow σ0 s ∧ AllApart X ∧ (∀ w ∈ X, w.ok ∧ 1 ≤ w.v.at_) ∧ X.length ≤ j ∧ (0 < j → X ≠ [])))
    (fun o s => ∃ tm vx X, o = .code (.exit 0) ⟨tm, 88, [], false⟩ ∧ tm.get 1 = some (.int .u8 (turn : Nat)) ∧ tm.get 5 = some (.pointer (some ⟨σ.n, 0, none⟩)) ∧ tm.get 7 = some vx ∧ Own σ0.n s 82 encW vx X ∧ Grow σ0 s ∧ AllApart X ∧ (∀ w ∈ X, w.ok ∧ 1 ≤ w.v.at_) ∧ X.length ≤ 30 ∧ X ≠ []) ?_ l.length _ _ ?_ ?_
  · rintro n a s ⟨tm, j, vx, X, rfl, e1, e5, e7, e26, e27, e28, hj, hnn, hov, gs, hap, hX, hXl, hXn⟩
    by_cases hjl : j < l.length
    · obtain ⟨px, cx, rfl⟩ := (hov.sl (sz := 4) lenW).form
      obtain ⟨i, off, row, ro, rfl, hg, hin, hrow, hle⟩ := (hsl0.grow gs).at hjl
      have hld := row_get (enc := encW) lenW hrow j hjl
      have hl1 := row_le hle j hjl
      have hw2 := i64n1 j (by omega)
      have hjl' : (j : Int) < l.length := by omega
      have hmj := mx_ok (hok _ (List.getElem_mem hjl))
      simp [wops_cons, e1, e5, e7, e26, e27, e28, hjl, hjl', hg, hld, hl1]
      generalize l[j] = w at hld hmj
      obtain ⟨s1, hs1⟩ : ∃ z, (((s.alloc (.cells [.int .u8 0, .int .u8 0, .int .u8 0, .bool false] 82 false)).put s.n (.cells [.int .u8 w.key, .int .u8 w.v.at_, .int .u8 w.v.v, .bool w.v.gone] 82 false)).put s.n (.cells [.int .u8 w.key, .int .u8 (if w.v.at_ < 1 then 1 else w.v.at_), .int .u8 w.v.v, .bool w.v.gone] 82 false)) = z := ⟨_, rfl⟩
      have hg7 : Grow s s1 := by rw [← hs1]; exact (((Grow.refl s).alloc _).put (Nat.le_refl _) _).put (Nat.le_refl _) _
      have hc7 : s1.get s.n = some (.cells (encW (mx w)) 82 false) := by rw [← hs1]; simp [encW, mx]
      have hn7 : s1.n = s.n + 1 := by rw [← hs1]; simp
      simp [wops_cons, encW, e1, e5, e7, e26, e27, e28, maxK]
      rw [hs1]
      clear hs1
      generalize mx w = w' at hc7 hmj
      have hXo : ∀ x ∈ X, x.ok := fun x hx => (hX x hx).1
      have hov1 := hov.grow hg7
      have gs1 := gs.trans hg7
      have gsn := gs1.n
      refine hasW_spec s.n w' hmj.1 X hXo _ s1 hc7 (by omega) (hov1.sl lenW) (by omega) _ fun s2 g2 => ?_
      have gs2 := gs1.trans g2
      have hc72 := g2.get hc7 (by omega)
      have hn2 := g2.n
      have hov2 := hov1.grow g2
      by_cases hh : ∃ x ∈ X, sameW w' x
      · simp [wops_cons, hh, e1, e5, e7, e26, e27, e28, hw2]
        have hXne : X ≠ [] := by
          obtain ⟨x, hx, _⟩ := hh
          exact List.ne_nil_of_mem hx
        exact ⟨n - 1, by omega, j + 1, rfl, by omega, by omega, X, hov2, gs2, hap, hX, by omega, fun _ => hXne⟩
      · have hga : Grow s2 (s2.alloc (.cells (encW w') 82 false)) := (Grow.refl s2).alloc _
        obtain ⟨v9, s3, a1, a2, a3, a4, a5⟩ := append_only (P := Tryz.prog) (ts := #[60, 60]) (e := 82) (sz := 4) (enc := encW) (l := X) (m := [w']) (b := σ0.n) ef60 (by simp) lenW cokW rfl (by decide) (by decide) rfl (σ := s2.alloc (.cells (encW w') 82 false))
          (hov2.grow hga) (by have := gs2.n; simp; omega) (Sl.all (l := [w']) (i := s2.n) (cap := 1) (ro := false) lenW (by simp) (by simp) (.inr ⟨by simp, by simp [openCap]⟩)) (by show (_ + 1) * 4 ≤ _; omega) (by omega)
        have gs3 : Grow σ0 s3 := ⟨by have := a3.1; simp at this; have := gs2.n; omega, fun i hi => by rw [a3.2 i hi, hga.old i (by have := gs2.n; omega), gs2.old i hi]⟩
        obtain ⟨p9, c9, rfl⟩ := (a2.sl (sz := 4) lenW).form
        have a1' : appendOp Tryz.prog (s2.alloc (.cells (encW w') 82 false)) #[60, 60] (.slice px X.length cx) (.slice (some ⟨s2.n, 0, none⟩) 1 1) = some (.slice p9 (X ++ [w']).length c9, s3) := a1
        have hXl2 : (X ++ [w']).length ≤ j + 1 := by simp; omega
        have hapn := apart_snoc hap hh
        have hXn2 : ∀ x ∈ X ++ [w'], x.ok ∧ 1 ≤ x.v.at_ := fun x hx => by
          rcases List.mem_append.1 hx with h | h
          · exact hX x h
          · rw [List.mem_singleton.1 h]; exact hmj
        have hne2 : X ++ [w'] ≠ [] := by simp
        generalize X ++ [w'] = X' at a1' a2 hXl2 hapn hXn2 hne2
        generalize hn1 : X'.length = n1 at a1' a2 hXl2
        simp only [encW] at a1' hc72
        have hne : ¬ s.n = s2.n := by omega
        simp [wops_cons, hh, e1, e5, e7, e26, e27, e28, hw2, hc72, a1']
        exact ⟨n - 1, by omega, j + 1, rfl, by omega, by omega, X', a2, gs3, hapn, hXn2, by omega, fun _ => hne2⟩
    · have hje : j = l.length := by omega
      subst hje
      simp [wops_cons, e1, e5, e7, e26, e27, e28]
      exact ⟨X, hov, gs, hap, hX, by omega, hXn hpos⟩
  · refine ⟨_, 0, .slice none 0 0, [], rfl, ?_⟩
    simp
    exact ⟨Own.nil, Grow.refl _, List.Pairwise.nil⟩
  · rintro o s ⟨tm, vx, X, rfl, e1, e5, e7, hov, gs, hap, hX, hXl, hXn⟩
    simp [wops_cons, e1, e5, e7]
    obtain ⟨px, cx, rfl⟩ := (hov.sl (sz := 4) lenW).form
    have hXpos := List.length_pos_iff.2 hXn
    have hwt : IntKind.i64.wrap (turn : Int) = (turn : Int) := IntWalk.i64_in _ (by omega)
    have hmod : (turn : Int).tmod (X.length : Int) = ((turn % X.length : Nat) : Int) := by
      rw [Int.tmod_eq_emod_of_nonneg (by omega)]
      push_cast
      rfl
    have hk : turn % X.length < X.length := Nat.mod_lt _ hXpos
    have hne0 : ¬ ((X.length : Int) = 0) := by omega
    have hne0' : ¬ X = [] := hXn
    generalize turn % X.length = k at hmod hk
    have hwk : IntKind.i64.wrap (k : Int) = (k : Int) := IntWalk.i64_in _ (by omega)
    have hXo : ∀ x ∈ X, x.ok := fun x hx => (hX x hx).1
    have hfx := fix_id (fun w hw => (hX w hw).2)
    simp [wops_cons, hwt, hmod, hne0, hne0', hwk, e1, e5, e7]
    refine store_spec X hXo _ s (hov.sl lenW) (by omega) _ fun i1 m1 S1 M1 σ1 hS1 hst1 hmp1 hmr1 hm1 hm1n g1 => ?_
    rw [hfx] at hS1
    simp [wops_cons, e1, e5, e7]
    have hX1 := (hov.sl (sz := 4) lenW).grow g1
    have st := Sl.mid (P := Tryz.prog) (t := 60) ef60 rfl (by decide) lenW hX1 k X.length (by omega) (Nat.le_refl _) (bl := some (.int .i64 (k : Nat))) (bh := none) (by simp) (by simp)
    have sh := Sl.mid (P := Tryz.prog) (t := 60) ef60 rfl (by decide) lenW hX1 0 k (by omega) (by omega) (bl := none) (bh := some (.int .i64 (k : Nat))) (by simp) (by simp)
    rw [List.take_of_length_le (Nat.le_refl _)] at st
    rw [List.drop_zero, Nat.sub_zero] at sh
    obtain ⟨pt, ct, t1, t2⟩ := st
    obtain ⟨ph, ch, h1, h2⟩ := sh
    refine W_calm (by kernel_rfl) ?_
    simp [dops_cons, e1, e5, e7, t1, h1]
    have ga : Grow σ1 (σ1.alloc (.cells [.slice pt (X.length - k) ct, .slice ph k ch] 60 false)) := (Grow.refl σ1).alloc _
    refine concatW_spec (X.drop k) (X.take k) _ _ _ σ1.n (by simp) (by simp) (t2.grow ga) (h2.grow ga) (by simp; omega) (by simp; omega) _ fun v3 σ3 ho3 g3 => ?_
    have hlen2 : (X.drop k ++ X.take k).length = X.length := by simp; omega
    have hmem2 : ∀ w ∈ X.drop k ++ X.take k, w ∈ X := fun w hw => (List.mem_append.1 hw).elim List.mem_of_mem_drop List.mem_of_mem_take
    have hfx2 : (X.drop k ++ X.take k).map fixW = X.drop k ++ X.take k := fix_id fun w hw => (hX w (hmem2 w hw)).2
    obtain ⟨p3, c3, rfl⟩ := (ho3.sl (sz := 4) lenW).form
    have hs3 := ho3.sl (sz := 4) lenW
    rw [hlen2] at hs3 ⊢
    simp [dops_cons, e1, e5, e7]
    refine store_spec (X.drop k ++ X.take k) (fun w hw => hXo w (hmem2 w hw)) _ σ3 hs3 (by omega) _ fun i2 m2 S2 M2 σ4 hS2 hst2 hmp2 hmr2 hm2 hm2n g4 => ?_
    rw [hfx2] at hS2
    have hS1' : SRel S1 (X.take k ++ X.drop k) := by rw [List.take_append_drop]; exact hS1
    obtain rfl : S1 = S2 := order_store hS1' hS2 fun u hu w hw hk' ha => apart_split hap hXo k w hw u hu hk'.symm ha.symm
    have hW : WsOk X := hX
    have hSl := hS1.len
    have hOk := ok_S hS1 hW (by omega)
    have hG := good_S hS1 hW
    have hsm := serS_small (clock := 300) hS1 hW (by omega) (by omega)
    have g14 := (ga.trans g3).trans g4
    have kb4 := ((gs.trans g1).trans g14).get kb (by omega)
    have n04 := ((gs.trans g1).trans g14).n
    have n3 := g3.n
    simp at n3
    simp [dops_cons, wops_cons, e1, e5, e7]
    have gsn := gs.n
    have g1n := g1.n
    have g4n := g4.n
    refine imgenc_spec s.n i1 S1 300 (by omega) σ4 (by omega) (hst1.grow g14) hOk (by omega) (by omega) _ fun v5 σ5 o5 g5 => ?_
    have s5 := o5.sl (sz := 1) encY_len
    obtain ⟨p5, c5, rfl⟩ := s5.form
    have g5n := g5.n
    simp [wops_cons, e1, e5, e7]
    refine imgenc_spec σ3.n i2 S1 300 (by omega) σ5 (by omega) (hst2.grow g5) hOk (by omega) (by omega) _ fun v6 σ6 o6 g6 => ?_
    have s6 := o6.sl (sz := 1) encY_len
    obtain ⟨p6, c6, rfl⟩ := s6.form
    have g6n := g6.n
    simp [wops_cons, e1, e5, e7]
    refine yeq_spec _ _ _ _ σ6 (s5.grow g6) s6 (by omega) (by omega) _ ?_
    have kb6 := (g5.trans g6).get kb4 (by omega)
    have hst6 := (hst2.grow g5).grow g6
    have hkm : 0 ≤ w0.key.tmod 5 ∧ w0.key.tmod 5 < 5 := by
      have : w0.key.tmod 5 = w0.key % 5 := Int.tmod_eq_emod_of_nonneg hw0.1.1
      omega
    have hwk5 : IntKind.u8.wrap (w0.key.tmod 5) = w0.key.tmod 5 := IntWalk.u8_in _ (by omega)
    simp [wops_cons, wops_if', dstOf, e1, e5, e7, kb6, hwk5]
    refine kspec (w0.key.tmod 5) hkm.1 hkm.2 σ6 _ fun σ7 g7 => ?_
    have g7n := g7.n
    have hsh : ∀ s ∈ S1, s.2.length ≤ 30 := fun s hs => by have := hS1.short s hs; omega
    have hksz : 1 ≤ (key12 (w0.key.tmod 5)).size ∧ (key12 (w0.key.tmod 5)).size ≤ 32 := by rw [key12_size]; omega
    have hput := put_store σ3.n i2 S1 hS1.ks hS1.srt (fun s hs => by have := hsh s hs; omega) (key12 (w0.key.tmod 5)) moreV σ7 (by omega) (hst6.grow g7) (by omega)
    simp only [encV, moreV, str] at hput
    simp [wops_cons]
    refine hput _ fun n8 σ8 hp8 hst8 f8 => ?_
    clear hput
    obtain ⟨b1, b2, b3⟩ := more_S hS1 hW hksz hp8
    have hne := more_ser hS1 hW (by omega) hksz hp8
    have hml := more_len (k := key12 (w0.key.tmod 5)) (n := n8) hsh
    have hpl := putAt_len S1 (key12 (w0.key.tmod 5)) moreV n8
    have hst8' : St σ3.n σ8 i2 (putAt S1 (key12 (w0.key.tmod 5)) moreV n8) := hst8
    have s8 := ((s5.grow g6).grow g7).fr (T := stT) (b := σ3.n) (by unfold stT; decide) f8
    generalize putAt S1 (key12 (w0.key.tmod 5)) moreV n8 = S8 at b1 b2 b3 hne hml hpl hst8'
    have hsm8 := serS_bound (clock := 300) b1 (fun s hs => by have := hml s hs; omega) (by omega) (by omega)
    have f8n := f8.1
    simp [wops_cons, e1, e5, e7]
    refine imgenc_spec σ3.n i2 S8 300 (by omega) σ8 (by omega) hst8' (ok_good b1 fun s hs => by have := hml s hs; omega) (by omega) (by omega) _ fun v9 σ9 o9 g9 => ?_
    have s9 := o9.sl (sz := 1) encY_len
    obtain ⟨p9, c9, rfl⟩ := s9.form
    simp [wops_cons, e1, e5, e7]
    refine yeq_spec _ _ _ _ σ9 (s8.grow g9) s9 (by omega) (by omega) _ ?_
    simp [wops_cons, wops_if', dstOf, hne, isTrueP]
end Go.Sm
/- Single plain arguments. -/
set_option linter.unusedVariables false
set_option linter.unusedSimpArgs false
namespace Go.Sm
open Go Go.WideShapes Go.ChangeShapes
section
variable {H : Type} {en : TypeId × Value → H} {P : Program} {w : World}
theorem open_one {base base' : Nat} {spare : Nat → Bool} {held : Bool} {t : TypeId} {f fuel : Nat} {ks : List PK} {v : Value} {x : DataW H × List MemPlace} {r : Reach}
    (hk : kindsF P f t = some ks) (hval : Value.okWide P w r base t v) (hd : DataW.trod en P w base' spare held fuel t v.cells.toList = some x) : ∃ xs, OkL ks xs ∧ v = wrapV P t xs := by
  have h := trod_kinds f t ks hk fuel _ x hd
  refine ⟨_, h, ?_⟩
  cases f with
  | zero => cases hk
  | succ f =>
    unfold kindsF at hk
    cases hu : P.underlying t with
    | none => rw [hu] at hk; cases hk
    | some d =>
      rw [hu] at hk
      cases d with
      | int k => obtain ⟨n, rfl⟩ := okWide_int hu hval; simp [wrapV, isAggT, hu, Value.cells]
      | bool => obtain ⟨n, rfl⟩ := okWide_bool hu hval; simp [wrapV, isAggT, hu, Value.cells]
      | string => obtain ⟨n, rfl⟩ := okWide_string hu hval; simp [wrapV, isAggT, hu, Value.cells]
      | struct fs => obtain ⟨cs, rfl, _⟩ := okWide_struct hu hval; simp [wrapV, isAggT, hu, Value.cells]
      | _ => cases hk
theorem open_i {base base' : Nat} {spare : Nat → Bool} {held : Bool} {t : TypeId} {fuel : Nat} {k : IntKind} {v : Value} {x : DataW H × List MemPlace} {r : Reach}
    (hk : P.underlying t = some (.int k)) (hval : Value.okWide P w r base t v) (hd : DataW.trod en P w base' spare held fuel t v.cells.toList = some x) : ∃ n, v = .int k n ∧ k.min ≤ n ∧ n ≤ k.max := by
  obtain ⟨xs, h, rfl⟩ := open_one (f := 1) (ks := [.int k]) (by simp [kindsF, hk]) hval hd
  match xs, h with
  | [a], ⟨⟨n, ha, hn⟩, _⟩ =>
    subst ha
    simp only [Lit.wf, Bool.and_eq_true, decide_eq_true_eq] at hn
    exact ⟨n, by simp [wrapV, isAggT, hk], hn⟩
theorem open_st {α : Type} {enc : α → List Value} {ok : α → Prop} {base base' : Nat} {spare : Nat → Bool} {held : Bool} {t : TypeId} {f fuel : Nat} {ks : List PK} {v : Value} {x : DataW H × List MemPlace} {r : Reach}
    (hk : kindsF P f t = some ks) (ha : isAggT P t = true) (hen : ∀ r, OkL ks r → ∃ x, ok x ∧ r = enc x) (hval : Value.okWide P w r base t v) (hd : DataW.trod en P w base' spare held fuel t v.cells.toList = some x) : ∃ y, ok y ∧ v = .agg (enc y).toArray ∧ Sm.flat v = true := by
  obtain ⟨xs, h, rfl⟩ := open_one hk hval hd
  obtain ⟨y, h1, rfl⟩ := hen _ h
  refine ⟨y, h1, by simp [wrapV, ha], ?_⟩
  have := OkL.flat h
  simp only [wrapV, ha, if_true, Sm.flat]
  simpa using this
end
end Go.Sm
/- Nil pointers, compared; a Boolean among the arguments. -/
set_option linter.unusedVariables false
set_option linter.unusedSimpArgs false
namespace Go.Sm
open Go Go.Proofs
set_option maxRecDepth 100000
section
open Go.WideShapes Go.ChangeShapes
variable {H : Type} {en : TypeId × Value → H} {P : Program} {w : World}
end
end Go.Sm
