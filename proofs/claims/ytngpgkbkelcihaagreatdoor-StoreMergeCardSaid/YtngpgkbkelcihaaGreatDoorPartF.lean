/- Part F of the proof. -/
import Derived.Test.YtngpgkbkelcihaaGreatDoorCards
import Derived.Test.YtngpgkbkelcihaaGreatDoorTie
import Derived.ProofKit
import Derived.OpenShut
import Derived.LaidMore
import Derived.Deep.DeepHandedRow
import Derived.Test.YtngpgkbkelcihaaGreatDoorPartC
import Derived.Test.YtngpgkbkelcihaaGreatDoorPartD
import Derived.Test.YtngpgkbkelcihaaGreatDoorPartE
/- The start: the listed variable, in the abstract state. -/
set_option linter.unusedVariables false
namespace Go.Sm
open Go Go.Proofs Go.Proofs.YtngpgkbkelcihaaGreatDoor Go.ChangeShapes Go.WideShapes
theorem gNone : Tryz.prog.globalNamed "selion/span.none" = some 0 := by kernel_rfl
theorem tNone : (Tryz.prog.globals[0]?).map (·.type) = some 187 := by kernel_rfl
set_option maxRecDepth 100000 in
theorem base_R {W : World} (h : laidMetH Tryz.prog Rows.chainPutsRow.laid W) : ∃ ρ, R Tryz.prog ρ st0 W := by
  rw [MakeChecks.laidMetH_plain _ _ _ (by kernel_rfl)] at h
  obtain ⟨ps, ⟨g0, t0, cs0, f0, p0, q0, hg0, ht0, hv0, hd0, _⟩, _⟩ := h
  obtain rfl := Option.some.inj (gNone.symm.trans hg0)
  obtain rfl := Option.some.inj (tNone.symm.trans ht0)
  obtain ⟨xs, n, rfl, hx, hcl, hxl, hf⟩ := DataW.trod_struct Tryz.underlying187 hd0
  have c187 : Tryz.prog.cellsOf 187 = 2 := by kernel_rfl
  have c27 : Tryz.prog.cellsOf 27 = 1 := by kernel_rfl
  have h0 : DataW.trod _ Tryz.prog W 0 _ false n 27 ((cs0.toList.drop 0).take (Tryz.prog.cellsOf 27)) = xs[0]? := hf 0 _ rfl
  have h1 : DataW.trod _ Tryz.prog W 0 _ false n 27 ((cs0.toList.drop 1).take (Tryz.prog.cellsOf 27)) = xs[1]? := hf 1 _ rfl
  rw [c27] at h0 h1
  rw [c187] at hcl
  match hcs : cs0.toList, hcl with
  | [x, y], _ =>
    rw [hcs] at h0 h1
    match xs, hxl with
    | [u, v], _ =>
      obtain ⟨k, e1, e2, _⟩ := DataW.trod_int Tryz.underlying27 (show DataW.trod _ Tryz.prog W 0 _ false n 27 [x] = some u from h0)
      obtain ⟨m, e3, e4, _⟩ := DataW.trod_int Tryz.underlying27 (show DataW.trod _ Tryz.prog W 0 _ false n 27 [y] = some v from h1)
      cases e1; cases e3
      subst e2; subst e4
      simp only [Prod.mk.injEq] at hx
      have hx1 : (DataW.agg [.lit (.int .u64 1), .lit (.int .u64 0)] : DataW Unit) = .agg [.lit (.int .u64 k), .lit (.int .u64 m)] := hx.1
      simp at hx1
      obtain ⟨rfl, rfl⟩ := hx1
      have hc0 : W.cell? ⟨0, 0, none⟩ = some (.int .u64 1) := by
        have := World.var?_cell hg0 hv0 0
        rw [this, ← Array.getElem?_toList, hcs]
        rfl
      have hc1 : W.cell? ⟨0, 1, none⟩ = some (.int .u64 0) := by
        have := World.var?_cell hg0 hv0 1
        rw [this, ← Array.getElem?_toList, hcs]
        rfl
      have hlt := World.block_lt_of_cell? _ _ hc0
      refine ⟨fun g => if g < globalLimit then some ⟨g, 0, 2, Tryz.prog.cellsOf 0⟩ else none, fun i hi => ?_, fun i hl => ?_, fun i p hp hl => ?_, fun i o p ho hp => ?_, fun i j p q hn hp hq hr hl => ?_, fun g hg => ⟨_, if_pos hg, rfl, rfl⟩, Nat.le_refl _⟩
      · exact if_neg (by have : globalLimit ≤ i := hi; omega)
      · obtain ⟨o, ho, _⟩ := hl
        obtain ⟨h1, _⟩ := base0.ro i o ho
        exact ⟨_, if_pos h1⟩
      · obtain ⟨o, ho, _⟩ := hl
        simp only [st0, CSt.get, Tr.get_set] at ho
        split at ho
        · rename_i hi
          subst hi
          rw [if_pos (by decide)] at hp
          cases hp
          exact hlt
        · simp [Tr.get_nil] at ho
      · simp only [st0, CSt.get, Tr.get_set] at ho
        split at ho
        · rename_i hi
          subst hi
          cases ho
          rw [if_pos (by decide)] at hp
          cases hp
          refine ⟨⟨Eq.refl (Tryz.prog.cellsOf 0), Nat.le_refl 2⟩, fun k u => ?_⟩
          match k, u with
          | 0, _ => exact ⟨_, hc0, .plain _ rfl⟩
          | 1, _ => exact ⟨_, hc1, .plain _ rfl⟩
        · simp [Tr.get_nil] at ho
      · obtain ⟨o, ho, hro, _⟩ := hr
        obtain ⟨_, c, e, rfl, _⟩ := base0.ro i o ho
        cases hro
theorem calm0 : Calm st0 := fun i ⟨o, ho, hro, _⟩ => by
  obtain ⟨_, c, e, rfl, _⟩ := base0.ro i o ho
  cases hro
theorem gnone0 : gnone st0 := by simp [gnone, st0, CSt.get]
end Go.Sm
/- What the rows of this seat share. -/
set_option linter.unusedVariables false
set_option linter.unusedSimpArgs false
namespace Go.Sm
open Go Go.Proofs Go.Proofs.YtngpgkbkelcihaaGreatDoor Go.ChangeShapes Go.WideShapes Go.RowKit Go.ChangeAt
theorem own0 : ownKnob Tryz.prog.godebug = none := by kernel_rfl
theorem laidOut0 : laidOutB Tryz.prog = true := by kernel_rfl
theorem okU_of (r : List Value) (h : OkL [.int .u8, .int .u8, .bool] r) : ∃ x : VV, x.ok ∧ r = encU x := by
  match r, h with
  | [a, b, c], ⟨⟨n, ha, hn⟩, ⟨m, hb, hm⟩, ⟨g, hc⟩, _⟩ =>
    subst ha; subst hb; subst hc
    simp only [Lit.wf, Bool.and_eq_true, decide_eq_true_eq] at hn hm
    have e1 : IntKind.u8.min = 0 := rfl
    have e2 : IntKind.u8.max = 255 := rfl
    rw [e1, e2] at hn hm
    exact ⟨⟨n, m, g⟩, by simp only [VV.ok]; omega, rfl⟩
noncomputable def laidWorld (os : Os) : World :=
  { World.holding Tryz.prog os ⟨#[], #[], []⟩ with heap := (World.holding Tryz.prog os ⟨#[], #[], []⟩).heap.modify 0 fun
      | .cells _ t frozen => .cells #[.int .u64 1, .int .u64 0] t frozen
      | o => o }
end Go.Sm
/- Stores: the laws' Make: a store, and the same as a map. -/
set_option linter.unusedVariables false
set_option linter.unusedSimpArgs false
namespace Go.Sm
open Go Go.Proofs
set_option maxRecDepth 100000
set_option maxHeartbeats 4000000
structure WW where
  key : Int
  v : VV
def encW (w : WW) : List Value := [.int .u8 w.key, .int .u8 w.v.at_, .int .u8 w.v.v, .bool w.v.gone]
theorem lenW (w : WW) : (encW w).length = 4 := rfl
theorem cokW (w : WW) : cokL (encW w) = true := rfl
def WW.ok (w : WW) : Prop := (0 ≤ w.key ∧ w.key < 256) ∧ w.v.ok
def WW.k (w : WW) : ByteArray := keyOf (w.key.tmod 8)
/-- A map as a list: the keys, and what was put, in order. -/
abbrev Fl := List (ByteArray × List VV)
def putF : Fl → ByteArray → VV → Fl
  | [], k, x => [(k, [x])]
  | p :: F, k, x => if p.1 = k then (k, p.2 ++ [x]) :: F else p :: putF F k x
def MRel (b : Nat) (σ : CSt) : Ml → Fl → Prop
  | [], [] => True
  | p :: M, q :: F => (p.1 = q.1 ∧ Own b σ 34 encU p.2 q.2) ∧ (∀ r ∈ M, ∀ i, objOf p.2 = some i → objOf r.2 ≠ some i) ∧ MRel b σ M F
  | _, _ => False
theorem Own.at_obj {α : Type} {b : Nat} {σ σ' : CSt} {e : TypeId} {enc : α → List Value} {v : Value} {l : List α} (h : Own b σ e enc v l) (hn : σ.n ≤ σ'.n) (hg : ∀ i, objOf v = some i → i < σ.n → σ'.get i = σ.get i) : Own b σ' e enc v l := by
  rcases h with h | ⟨i, cap, h1, hb, hi, h2, h3⟩
  · exact .inl h
  · exact .inr ⟨i, cap, h1, hb, Nat.lt_of_lt_of_le hi hn, by rw [hg i (by rw [h1]; rfl) hi]; exact h2, h3⟩
theorem Own.obj_lt {α : Type} {b : Nat} {σ : CSt} {e : TypeId} {enc : α → List Value} {v : Value} {l : List α} (h : Own b σ e enc v l) {i : Nat} (ho : objOf v = some i) : i < σ.n := by
  rcases h with ⟨rfl, _⟩ | ⟨j, cap, rfl, _, h1, _⟩
  · cases ho
  · cases ho; exact h1
theorem MRel.own {b : Nat} {σ : CSt} : ∀ {M : Ml} {F : Fl}, MRel b σ M F → ∀ r ∈ M, ∃ l : List VV, Own b σ 34 encU r.2 l
  | [], [], _, r, hr => by cases hr
  | p :: M, q :: F, h, r, hr => by
    rcases List.mem_cons.1 hr with rfl | hr
    · exact ⟨_, h.1.2⟩
    · exact MRel.own h.2.2 r hr
theorem MRel.keep {b : Nat} {σ σ' : CSt} (hn : σ.n ≤ σ'.n) : ∀ {M : Ml} {F : Fl}, MRel b σ M F → (∀ r ∈ M, ∀ i, objOf r.2 = some i → i < σ.n → σ'.get i = σ.get i) → MRel b σ' M F
  | [], [], _, _ => trivial
  | p :: M, q :: F, h, hg => ⟨⟨h.1.1, h.1.2.at_obj hn (hg p (by simp))⟩, h.2.1, MRel.keep hn h.2.2 fun r hr => hg r (by simp [hr])⟩
theorem MRel.fr {T : TypeId → Prop} {b b' : Nat} {σ σ' : CSt} (ht : ¬ T 34) (hg : Fr T b' σ σ') : ∀ {M : Ml} {F : Fl}, MRel b σ M F → MRel b σ' M F
  | [], [], _ => trivial
  | p :: M, q :: F, h => ⟨⟨h.1.1, h.1.2.fr ht hg⟩, h.2.1, MRel.fr ht hg h.2.2⟩
def getF (F : Fl) (k : ByteArray) : List VV := match F.find? (fun p => decide (p.1 = k)) with | some p => p.2 | none => []
theorem MRel.get {b : Nat} {σ : CSt} (k : ByteArray) : ∀ {M : Ml} {F : Fl}, MRel b σ M F → Own b σ 34 encU ((getM M k).getD (.slice none 0 0)) (getF F k)
  | [], [], _ => Own.nil
  | p :: M, q :: F, h => by
    have ih := MRel.get k h.2.2
    unfold getM getF at ih ⊢
    rw [List.find?_cons, List.find?_cons, h.1.1]
    by_cases e : q.1 = k
    · simp only [e, decide_true]; exact h.1.2
    · simp only [e, decide_false]; exact ih
theorem MRel.set {b : Nat} {σ σ' : CSt} (k : ByteArray) (x : VV) (v' : Value) {n c : Nat} (hn : σ.n ≤ σ'.n) (hv : v' = .slice (some ⟨σ.n, 0, none⟩) n c) : ∀ {M : Ml} {F : Fl}, MRel b σ M F → Own b σ' 34 encU v' (getF F k ++ [x]) →
    (∀ j, j < σ.n → (∀ i, objOf ((getM M k).getD (.slice none 0 0)) = some i → j ≠ i) → σ'.get j = σ.get j) → MRel b σ' (setM M k v') (putF F k x)
  | [], [], _, ho, _ => ⟨⟨rfl, ho⟩, by simp, trivial⟩
  | p :: M, q :: F, h, ho, hg => by
    unfold getM at hg
    unfold getF at ho
    rw [List.find?_cons] at hg ho
    unfold setM putF
    rw [h.1.1] at hg ⊢
    have hobj : objOf v' = some σ.n := by rw [hv]; rfl
    by_cases e : q.1 = k
    · simp only [e, decide_true, Option.map_some, Option.getD_some] at hg ho
      rw [if_pos e, if_pos e]
      refine ⟨⟨rfl, ho⟩, fun r hr i hi => ?_, MRel.keep hn h.2.2 fun r hr i hi hlt => hg i hlt fun i' hi' e' => h.2.1 r hr i' hi' (by rw [← e']; exact hi)⟩
      rw [hobj] at hi
      cases hi
      intro h2
      obtain ⟨l, hl⟩ := MRel.own h.2.2 r hr
      have := hl.obj_lt h2
      omega
    · simp only [e, decide_false] at hg ho
      rw [if_neg e, if_neg e]
      refine ⟨⟨h.1.1, h.1.2.at_obj hn fun i hi hlt => hg i hlt fun i' hi' e' => ?_⟩, fun r hr i hi => ?_, MRel.set k x v' hn hv h.2.2 ho hg⟩
      · subst e'
        cases hf : M.find? (fun p => decide (p.1 = k)) with
        | none => rw [hf] at hi'; cases hi'
        | some r =>
          rw [hf] at hi'
          exact h.2.1 r (List.mem_of_find?_eq_some hf) i hi hi'
      · have hlt := h.1.2.obj_lt hi
        have hmem : ∀ {M : Ml}, r ∈ setM M k v' → r ∈ M ∨ r.2 = v' := by
          intro M
          induction M with
          | nil => intro hr; simp [setM] at hr; right; rw [hr]
          | cons a M ih =>
            unfold setM
            split
            · intro hr
              rcases List.mem_cons.1 hr with rfl | hr
              · exact .inr rfl
              · exact .inl (by simp [hr])
            · intro hr
              rcases List.mem_cons.1 hr with rfl | hr
              · exact .inl (by simp)
              · rcases ih hr with h | h
                · exact .inl (by simp [h])
                · exact .inr h
        rcases hmem hr with h1 | h1
        · exact h.2.1 r h1 i hi
        · rw [h1, hobj]
          intro e2
          cases e2
          omega
end Go.Sm
/- Stores as lists: puts, one after the other. -/
set_option linter.unusedSimpArgs false
namespace Go.Sm
def ofK (ws : List WW) (k : ByteArray) : List Ver := (ws.filter fun w => decide (w.k = k)).map fun w => verOf w.v
/-- The store of these versions. -/
structure SRel (S : Stl) (ws : List WW) : Prop where
  ks : KS S
  val : ∀ s ∈ S, s.2 = makeL (ofK ws s.1)
  all : ∀ w ∈ ws, ∃ s ∈ S, s.1 = w.k
  only : ∀ s ∈ S, ∃ w ∈ ws, w.k = s.1
  len : S.length ≤ ws.length
theorem ofK_snoc (ws : List WW) (w : WW) (k : ByteArray) : ofK (ws ++ [w]) k = if w.k = k then ofK ws k ++ [verOf w.v] else ofK ws k := by
  unfold ofK
  rw [List.filter_append]
  by_cases e : w.k = k <;> simp [e]
theorem SRel.srt {S : Stl} {ws : List WW} (h : SRel S ws) : ∀ s ∈ S, Srt s.2 := fun s hs => by rw [h.val s hs]; exact makeL_srt _
theorem SRel.short {S : Stl} {ws : List WW} (h : SRel S ws) : ∀ s ∈ S, s.2.length ≤ ws.length := fun s hs => by
  rw [h.val s hs]
  refine Nat.le_trans (make_len _) ?_
  unfold ofK
  rw [List.length_map]
  exact List.length_filter_le _ _
theorem SRel.nil : SRel [] [] := ⟨List.Pairwise.nil, by simp, by simp, by simp, Nat.le_refl _⟩
theorem SRel.put {S : Stl} {ws : List WW} {w : WW} {n : Nat} (h : SRel S ws) (hp : Pos S w.k n) : SRel (putAt S w.k (verOf w.v) n) (ws ++ [w]) := by
  have hnew : (∀ s, S[n]? = some s → s.1 ≠ w.k) → SRel (S.take n ++ (w.k, putL [] (verOf w.v)) :: S.drop n) (ws ++ [w]) := by
    intro hne
    have hlo : ∀ s ∈ S.take n, klt s.1 w.k = true := fun s hs => by
      obtain ⟨j, hj, rfl⟩ := List.mem_iff_getElem.1 hs
      rw [List.length_take] at hj
      rw [List.getElem_take]
      exact hp.lo j (by omega) (by omega)
    have hhi : ∀ s ∈ S.drop n, klt w.k s.1 = true := fun s hs => by
      obtain ⟨j, hj, rfl⟩ := List.mem_iff_getElem.1 hs
      rw [List.length_drop] at hj
      rw [List.getElem_drop]
      have h1 := hp.hi (n + j) (by omega) (by omega)
      have h0 := hne S[n] (List.getElem?_eq_getElem (by omega))
      have h2 := hp.hi n (by omega) (Nat.le_refl _)
      have h3 : klt w.k S[n].1 = true := by
        cases h4 : klt w.k S[n].1 with
        | true => rfl
        | false => exact absurd (klt_tri h2 h4) h0
      cases j with
      | zero => exact h3
      | succ j => exact klt_trans h3 (List.pairwise_iff_getElem.1 h.ks n (n + (j + 1)) (by omega) (by omega) (by omega))
    have hno : ∀ s ∈ S, s.1 ≠ w.k := fun s hs e => by
      rw [← List.take_append_drop n S] at hs
      rcases List.mem_append.1 hs with hs | hs
      · have := hlo s hs; rw [e, klt_irrefl] at this; cases this
      · have := hhi s hs; rw [e, klt_irrefl] at this; cases this
    have hmem : ∀ s, s ∈ S.take n ++ (w.k, putL [] (verOf w.v)) :: S.drop n ↔ s = (w.k, putL [] (verOf w.v)) ∨ s ∈ S := fun s => by
      conv => rhs; rw [← List.take_append_drop n S]
      simp only [List.mem_append, List.mem_cons]
      exact or_left_comm
    have hempty : ofK ws w.k = [] := by
      unfold ofK
      rw [List.map_eq_nil_iff, List.filter_eq_nil_iff]
      intro u hu
      obtain ⟨s, hs, e⟩ := h.all u hu
      have := hno s hs
      simp
      intro e2
      exact this (by rw [e, e2])
    refine ⟨?_, fun s hs => ?_, fun u hu => ?_, fun s hs => ?_, ?_⟩
    · unfold KS
      rw [List.pairwise_append]
      have hks := h.ks
      unfold KS at hks
      refine ⟨List.Pairwise.sublist (List.take_sublist n S) hks, List.pairwise_cons.2 ⟨fun s hs => hhi s hs, List.Pairwise.sublist (List.drop_sublist n S) hks⟩, fun a ha c hc => ?_⟩
      rcases List.mem_cons.1 hc with rfl | hc
      · exact hlo a ha
      · exact klt_trans (hlo a ha) (hhi c hc)
    · rw [ofK_snoc]
      rcases (hmem s).1 hs with rfl | hs
      · simp only [if_true, hempty, List.nil_append]; rfl
      · rw [if_neg (Ne.symm (hno s hs))]; exact h.val s hs
    · rcases List.mem_append.1 hu with hu | hu
      · obtain ⟨s, hs, e⟩ := h.all u hu
        exact ⟨s, (hmem s).2 (.inr hs), e⟩
      · rw [List.mem_singleton] at hu
        subst hu
        exact ⟨_, (hmem _).2 (.inl rfl), rfl⟩
    · rcases (hmem s).1 hs with rfl | hs
      · exact ⟨w, by simp, rfl⟩
      · obtain ⟨u, hu, e⟩ := h.only s hs
        exact ⟨u, by simp [hu], e⟩
    · have := h.len; have := hp.le; simp; omega
  unfold putAt
  cases hn : S[n]? with
  | none => exact hnew fun s hs => by rw [hn] at hs; cases hs
  | some s =>
    simp only
    by_cases e : s.1 = w.k
    · rw [if_pos e]
      obtain ⟨hnS, hs⟩ := List.getElem?_eq_some_iff.1 hn
      have hks := h.ks
      unfold KS at hks
      have hother : ∀ j (hj : j < S.length), j ≠ n → S[j].1 ≠ w.k := fun j hj hjn e2 => by
        rcases Nat.lt_or_gt_of_ne hjn with h1 | h1
        · have := List.pairwise_iff_getElem.1 hks j n hj hnS h1
          rw [e2, hs, e, klt_irrefl] at this; cases this
        · have := List.pairwise_iff_getElem.1 hks n j hnS hj h1
          rw [e2, hs, e, klt_irrefl] at this; cases this
      have hval := h.val s (by rw [← hs]; exact List.getElem_mem hnS)
      have hget : ∀ j (hj : j < (S.set n (w.k, putL s.2 (verOf w.v))).length), ((S.set n (w.k, putL s.2 (verOf w.v)))[j]).1 = (S[j]'(by simpa using hj)).1 := fun j hj => by
        by_cases e2 : n = j
        · subst e2; simp [hs, e]
        · rw [List.getElem_set_ne e2]
      refine ⟨?_, fun u hu => ?_, fun u hu => ?_, fun u hu => ?_, ?_⟩
      · unfold KS
        rw [List.pairwise_iff_getElem]
        intro i j hi hj hij
        rw [hget, hget]
        exact List.pairwise_iff_getElem.1 hks i j _ _ hij
      · rw [ofK_snoc]
        obtain ⟨j, hj, rfl⟩ := List.mem_iff_getElem.1 hu
        by_cases e2 : n = j
        · subst e2
          simp only [List.getElem_set_self, if_true]
          rw [hval, e, makeL_snoc]
        · rw [List.getElem_set_ne e2]
          have hj' : j < S.length := by simpa using hj
          rw [if_neg (Ne.symm (hother j hj' (Ne.symm e2)))]
          exact h.val _ (List.getElem_mem hj')
      · rcases List.mem_append.1 hu with hu | hu
        · obtain ⟨r, hr, e2⟩ := h.all u hu
          obtain ⟨j, hj, rfl⟩ := List.mem_iff_getElem.1 hr
          have hj' : j < (S.set n (w.k, putL s.2 (verOf w.v))).length := by simpa using hj
          exact ⟨_, List.getElem_mem hj', by rw [hget]; exact e2⟩
        · rw [List.mem_singleton] at hu
          subst hu
          have hn' : n < (S.set n (u.k, putL s.2 (verOf u.v))).length := by simpa using hnS
          exact ⟨_, List.getElem_mem hn', by rw [hget, hs]; exact e⟩
      · obtain ⟨j, hj, rfl⟩ := List.mem_iff_getElem.1 hu
        rw [hget]
        obtain ⟨r, hr, e2⟩ := h.only _ (List.getElem_mem (by simpa using hj : j < S.length))
        exact ⟨r, by simp [hr], e2⟩
      · have := h.len; simp; omega
    · rw [if_neg e]
      exact hnew fun r hr => by rw [hn] at hr; cases hr; exact e
end Go.Sm
/- Stores: the laws' Make, walked. -/
set_option linter.unusedVariables false
set_option linter.unusedSimpArgs false
namespace Go.Sm
open Go Go.Proofs
set_option maxRecDepth 100000
set_option maxHeartbeats 4000000
def mapF (ws : List WW) : Fl := ws.foldl (fun F w => putF F w.k w.v) []
theorem mapF_snoc (ws : List WW) (w : WW) : mapF (ws ++ [w]) = putF (mapF ws) w.k w.v := by simp [mapF]
theorem getF_putF (k : ByteArray) (x : VV) (k' : ByteArray) : ∀ F : Fl, getF (putF F k x) k' = if k = k' then getF F k ++ [x] else getF F k'
  | [] => by
    unfold putF getF
    by_cases e : k = k' <;> simp [e]
  | p :: F => by
    have ih := getF_putF k x k' F
    unfold getF at ih ⊢
    unfold putF
    by_cases e1 : p.1 = k
    · by_cases e : k = k' <;> simp [e1, e]
    · rw [if_neg e1]
      simp only [List.find?_cons, e1, decide_false]
      by_cases e2 : p.1 = k'
      · have e : ¬ k = k' := fun h => e1 (by rw [e2, h])
        simp [e2, e]
      · simp only [e2, decide_false]
        exact ih
theorem getF_len (ws : List WW) (k : ByteArray) : (getF (mapF ws) k).length ≤ ws.length := by
  refine rev_ind (P := fun ws => ∀ k, (getF (mapF ws) k).length ≤ ws.length) (fun k => by simp [mapF, getF]) (fun ws w ih k => ?_) ws k
  rw [mapF_snoc, getF_putF]
  have a := ih k
  have b := ih w.k
  split <;> simp <;> omega
theorem nil51_ne (a : Addr) : isNilCmp Tryz.prog .neq 51 (.pointer (some a)) (.pointer none) = some (.bool true) := by simp [isNilCmp, nilPair, Tryz.underlying51]
theorem nil51_eq (a : Addr) : isNilCmp Tryz.prog .eql 51 (.pointer (some a)) (.pointer none) = some (.bool false) := by simp [isNilCmp, nilPair, Tryz.underlying51]
theorem Mp.fr {T : TypeId → Prop} {b : Nat} {σ σ' : CSt} {m : Nat} {M : Ml} (h : Mp σ m M) (hm : m < σ.n) (hf : Fr T b σ σ') : Mp σ' m M := by
  obtain ⟨es, clock, h1, h2⟩ := h
  exact ⟨es, clock, hf.get h1 hm (.inr fun _ _ _ h => by cases h), h2⟩
theorem Mp.grow {σ σ' : CSt} {m : Nat} {M : Ml} (h : Mp σ m M) (hm : m < σ.n) (hf : Grow σ σ') : Mp σ' m M := by
  obtain ⟨es, clock, h1, h2⟩ := h
  exact ⟨es, clock, hf.get h1 hm, h2⟩
theorem Own.is_cells {α : Type} {b : Nat} {σ : CSt} {e : TypeId} {enc : α → List Value} {v : Value} {l : List α} (h : Own b σ e enc v l) {i : Nat} (hi : objOf v = some i) : ∃ row, σ.get i = some (.cells row e false) := by
  rcases h with ⟨rfl, _⟩ | ⟨j, cap, rfl, _, _, h2, _⟩
  · cases hi
  · cases hi; exact ⟨_, h2⟩
theorem objOf_eq {v : Value} {b : Nat} {σ : CSt} {l : List VV} (h : Own b σ 34 encU v l) {i off n c : Nat} (hv : v = .slice (some ⟨i, off, none⟩) n c) : objOf v = some i := by rw [hv]; rfl
theorem mset_step (b : Nat) {σ σ9 : CSt} {m : Nat} {M : Ml} {F : Fl} {k : ByteArray} {x : VV} {v' : Value} (hmp : Mp σ m M) (hm : m < σ.n) (hmr : MRel b σ M F) (hn : σ.n ≤ σ9.n)
    (hkeep : ∀ j, j < σ.n → (∀ i off n c, (getM M k).getD (.slice none 0 0) = .slice (some ⟨i, off, none⟩) n c → j ≠ i) → σ9.get j = σ.get j) (hv : ∃ n c, v' = .slice (some ⟨σ.n, 0, none⟩) n c) (ho : Own b σ9 34 encU v' (getF F k ++ [x])) :
    ∃ o, updateOp Tryz.prog σ9 52 (.map (some m)) (.string k) v' = some (σ9.put m o) ∧ Mp (σ9.put m o) m (setM M k v') ∧ MRel b (σ9.put m o) (setM M k v') (putF F k x) ∧ Kept σ (σ9.put m o) := by
  have hown := hmr.get k
  have hobj : ∀ i off n c, (getM M k).getD (.slice none 0 0) = .slice (some ⟨i, off, none⟩) n c → ∃ row, σ.get i = some (.cells row 34 false) := fun i off n c e => hown.is_cells (by rw [e]; rfl)
  have hmap : ∃ es clock, σ.get m = some (.map es clock) := by obtain ⟨es, clock, h1, _⟩ := hmp; exact ⟨es, clock, h1⟩
  obtain ⟨es, clock, hmg⟩ := hmap
  have hm9 : σ9.get m = σ.get m := hkeep m hm fun i off n c e e2 => by
    obtain ⟨row, hr⟩ := hobj i off n c e
    rw [← e2, hmg] at hr
    cases hr
  have hmp9 : Mp σ9 m M := by
    obtain ⟨es, clock, h1, h2⟩ := hmp
    exact ⟨es, clock, by rw [hm9]; exact h1, h2⟩
  obtain ⟨o, h1, h2⟩ := update_mp (P := Tryz.prog) (t := 52) (kt := 9) (et := 22) (k := k) Tryz.underlying52 (by kernel_rfl) hmp9 v'
  obtain ⟨n, c, hv'⟩ := hv
  have hset : MRel b σ9 (setM M k v') (putF F k x) := MRel.set k x v' hn hv' hmr ho fun j hj hne => hkeep j hj fun i off n c e => hne i (by rw [e]; rfl)
  refine ⟨o, h1, h2, MRel.keep (σ' := σ9.put m o) (Nat.le_refl σ9.n) hset fun r hr i hi hlt => ?_, hn, fun j hj row e ro hg he => ?_⟩
  · obtain ⟨l, hl⟩ := hset.own r hr
    obtain ⟨row, hrow⟩ := hl.is_cells hi
    rw [CSt.get_put, if_neg]
    rintro rfl
    rw [hm9, hmg] at hrow
    cases hrow
  · have hjm : ¬ j = m := by
      rintro rfl
      rw [hmg] at hg
      cases hg
    rw [CSt.get_put, if_neg hjm]
    refine hkeep j hj fun i off n c e' e2 => ?_
    obtain ⟨row', hr⟩ := hobj i off n c e'
    rw [← e2, hg] at hr
    injection hr with hr
    injection hr with _ h3 _
    have h4 : e = 34 := by first | exact h3 | exact h3.symm
    rw [h4] at he
    exact absurd he (by decide)
theorem St.kept {b : Nat} {σ σ' : CSt} {i : Nat} {S : Stl} (h : St b σ i S) (hk : Kept σ σ') : St b σ' i S := by
  obtain ⟨vr, R, h1, h2, h3, h4, h5⟩ := h
  refine ⟨vr, R, h1, Nat.lt_of_lt_of_le h2 hk.1, by rw [hk.2 i h2 _ _ _ h3 (by simp)]; exact h3, ?_, h5.1, fun j h6 h7 => ⟨(h5.2 j h6 h7).1, hk.sl (h5.2 j h6 h7).2 (by simp)⟩⟩
  rcases h4 with h | ⟨o, cap, zs, g1, g2, g3, g4, g5⟩
  · exact .inl h
  · exact .inr ⟨o, cap, zs, g1, g2, Nat.lt_of_lt_of_le g3 hk.1, by rw [hk.2 o g3 _ _ _ g4 (by simp)]; exact g4, g5⟩
theorem st75 : ¬ stT 75 := by unfold stT; decide
theorem st34 : ¬ stT 34 := by unfold stT; decide
theorem lenVV (x : VV) : (encU x).length = 3 := rfl
theorem cokVV (x : VV) : cokL (encU x) = true := rfl
theorem hbits127 : ∀ j, j < 7 → Nat.testBit 127 j = true := by decide
theorem make_store (l : List WW) (hok : ∀ w ∈ l, w.ok) (v : Value) (σ : CSt) (hsl : Sl σ 75 4 encW v l) (hbig : l.length < 2 ^ 30) (Q : Out → CSt → Prop)
    (h : ∀ (i m : Nat) (S : Stl) (M : Ml) (σ' : CSt), SRel S l → St σ.n σ' i S → Mp σ' m M → MRel σ.n σ' M (mapF l) → σ.n ≤ m → m < σ'.n → Grow σ σ' → Q (.ret (.tuple #[.pointer (some ⟨i, 0, none⟩), .map (some m)]) false) σ') :
    W E1 (.fn 28 #[v] none) σ Q := by
  rw [W_fn (fn := Tryz.f28) Tryz.func28 rfl rfl rfl]
  obtain ⟨p, c, rfl⟩ := hsl.form
  simp [wops_cons]
  refine new_spec σ _ fun σ1 h1 g1 => ?_
  have hn1 : σ.n < σ1.n := by obtain ⟨_, _, _, h, _⟩ := h1; exact h
  have hm : Mp (σ1.alloc (.map #[] 0)) σ1.n [] := ⟨#[], 0, by simp, entsOk_nil _ _⟩
  have gm : Grow σ1 (σ1.alloc (.map #[] 0)) := (Grow.refl σ1).alloc _
  simp [wops_cons, copE_makeMap (P := Tryz.prog) (t := 52) Tryz.underlying52]
  refine W_loop_inv (fun n a σ' => ∃ tm j S M, a = ⟨tm, 42, [], false⟩ ∧ tm.get 4 = some (.pointer (some ⟨σ.n, 0, none⟩)) ∧ tm.get 5 = some (.map (some σ1.n)) ∧ tm.get 10 = some (.slice p l.length c) ∧ tm.get 11 = some (.int .i64 l.length) ∧ tm.get 12 = some (.int .i64 (j : Nat)) ∧ j ≤ l.length ∧ n = l.length - j ∧
    SRel S (l.take j) ∧ St σ.n σ' σ.n S ∧ Mp σ' σ1.n M ∧ MRel σ.n σ' M (mapF (l.take j)) ∧ σ1.n < σ'.n ∧ Grow σ σ') ?_ l.length _ _ ?_
  · rintro n a σ2 ⟨tm, j, S, M, rfl, e4, e5, e10, e11, e12, hj, hn, hS, hst, hmp, hmr, hn2, hgr⟩
    by_cases hjl : j < l.length
    · obtain ⟨i, off, row, ro, rfl, hg, hin, hrow, hle⟩ := (hsl.grow hgr).at hjl
      have hld := row_get (enc := encW) lenW hrow j hjl
      have hl1 := row_le hle j hjl
      have hw2 := i64n1 j (by omega)
      have hx := hok _ (List.getElem_mem hjl)
      have hgw : Grow σ2 ((σ2.alloc (.cells [.int .u8 0, .int .u8 0, .int .u8 0, .bool false] 75 false)).put σ2.n (.cells [.int .u8 l[j].key, .int .u8 l[j].v.at_, .int .u8 l[j].v.v, .bool l[j].v.gone] 75 false)) := ((Grow.refl σ2).alloc _).put (Nat.le_refl _) _
      simp [wops_cons, e4, e5, e10, e11, e12, hjl, hg, hld, hl1]
      simp [wops_cons, encW, e4, e5, nil51_ne]
      refine W_drawn (l := [0, 1, 2, 4, 5, 3, 6, 7]) (b := #[0, 0, 2, 6, 0, 16, 62, 127]) (by kernel_rfl) (by kernel_rfl) (by kernel_rfl) ?_
      simp [dopsR_cons, opAt, isEff, again, befBits, isRead, Nat.add_assoc, e4, e5]
      generalize hσ3 : (σ2.alloc (.cells [.int .u8 0, .int .u8 0, .int .u8 0, .bool false] 75 false)).put σ2.n (.cells [.int .u8 l[j].key, .int .u8 l[j].v.at_, .int .u8 l[j].v.v, .bool l[j].v.gone] 75 false) = σ3 at hgw ⊢
      have hc3 : σ3.get σ2.n = some (.cells [.int .u8 l[j].key, .int .u8 l[j].v.at_, .int .u8 l[j].v.v, .bool l[j].v.gone] 75 false) := by rw [← hσ3]; simp
      have hn3 : σ2.n < σ3.n := by rw [← hσ3]; simp
      refine key_spec _ hx.1.1 hx.1.2 σ3 _ fun σ4 g4 => ?_
      have hc4 := g4.get hc3 hn3
      simp [dopsR_cons, opAt, isEff, again, befBits, isRead, Nat.add_assoc, e4, e5, hc4]
      have hvm := vmake_spec l[j].v hx.2
      simp only [encU] at hvm
      refine hvm σ4 _ fun σ5 g5 => ?_
      have g35 := g4.trans g5
      have hc5 := g5.get hc4 (Nat.lt_of_lt_of_le hn3 g4.n)
      simp [dopsR_cons, opAt, isEff, again, befBits, isRead, Nat.add_assoc, e4, e5, hc5]
      have g25 := hgw.trans g35
      have hlt := List.length_take_le j l
      refine put_store σ.n σ.n S hS.ks hS.srt (fun s hs => by have := hS.short s hs; omega) _ (verOf l[j].v) σ5 (by have := (hgr.trans g25).n; exact this) (hst.grow g25) (by have := hS.len; omega) _ fun n6 σ6 hp h6 f6 => ?_
      simp [dopsR_cons, opAt, isEff, again, befBits, isRead, Nat.add_assoc, e4, e5, hbits127]
      have hn25 : σ2.n < σ5.n := Nat.lt_of_lt_of_le hn3 g35.n
      have hc6 := f6.get hc5 hn25 (.inr fun row e ro he => by injection he with _ h2 _; rw [← h2]; exact st75)
      have hmp6 := (hmp.grow hn2 g25).fr (Nat.lt_of_lt_of_le hn2 g25.n) f6
      have hmr6 := (hmr.fr (T := fun _ => False) (fun h => h) (b' := 0) g25.fr).fr (T := stT) st34 f6
      have hn26 : σ2.n < σ6.n := Nat.lt_of_lt_of_le hn25 f6.1
      have hn16 : σ1.n < σ6.n := Nat.lt_of_lt_of_le hn2 (Nat.le_trans g25.n f6.1)
      have hg06 : Grow σ σ6 := by
        have := (hgr.trans g25).fr (T := stT) (b := σ.n)
        exact (this.trans f6).grow (Nat.le_refl _)
      have hkdef : keyOf (l[j].key.tmod 8) = l[j].k := rfl
      have hS6 := hS.put (w := l[j]) hp
      rw [hkdef] at h6
      have htk : l.take (j + 1) = l.take j ++ [l[j]] := List.take_succ_eq_append_getElem hjl
      have hlk : ∀ σ', Mp σ' σ1.n M → lookupOp Tryz.prog σ' 52 (.map (some σ1.n)) (.string l[j].k) false = some ((getM M l[j].k).getD (.slice none 0 0)) := fun σ' hm' => lookup_mp Tryz.underlying52 (by kernel_rfl) (by kernel_rfl) hm'
      have hgl := getF_len (l.take j) l[j].k
      rw [List.length_take, Nat.min_eq_left (by omega)] at hgl
      have hne26 : ¬ σ2.n = σ6.n := by omega
      have hb9 : Nat.testBit 1536 9 = true := by decide
      have hb10 : Nat.testBit 1536 10 = true := by decide
      have hb81 : ∀ j, j < 13 → Nat.testBit 8191 j = true := by decide
      have hb40 : ∀ j, j < 12 → 0 < j → Nat.testBit 4094 j = true := by decide
      have hfin : ∀ (σ8 : CSt) (a : Nat), Grow σ6 σ8 → σ8.get a = some (.cells (encU l[j].v) 34 false) → a < σ8.n → ∃ v9 σ9 o, appendOp Tryz.prog σ8 #[22, 22] ((getM M l[j].k).getD (.slice none 0 0)) (.slice (some ⟨a, 0, none⟩) 1 1) = some (v9, σ9) ∧
          updateOp Tryz.prog σ9 52 (.map (some σ1.n)) (.string l[j].k) v9 = some (σ9.put σ1.n o) ∧ (∃ S' M', SRel S' (l.take (j + 1)) ∧ St σ.n (σ9.put σ1.n o) σ.n S' ∧ Mp (σ9.put σ1.n o) σ1.n M' ∧ MRel σ.n (σ9.put σ1.n o) M' (mapF (l.take (j + 1))) ∧ σ1.n < σ9.n ∧ Grow σ (σ9.put σ1.n o)) := by
        intro σ8 a hg8 hca han
        have hmr8 := hmr6.fr (T := fun _ => False) (fun h => h) (b' := 0) hg8.fr
        have hmp8 := hmp6.grow hn16 hg8
        obtain ⟨v9, σ9, a1, a2, a3, a4, a5⟩ := append_only (P := Tryz.prog) (ts := #[22, 22]) (e := 34) (sz := 3) (enc := encU) (l := getF (mapF (l.take j)) l[j].k) (m := [l[j].v]) (b := σ.n) ef22 (by simp) lenVV cokVV rfl (by decide) (by decide) rfl (σ := σ8) (hmr8.get l[j].k)
          (hg06.trans hg8).n (Sl.all (l := [l[j].v]) (i := a) (cap := 1) (ro := false) lenVV (by simpa using hca) han (.inr ⟨by simp, by simp [openCap]⟩)) (by simp; omega) (by omega)
        obtain ⟨o, b1, b2, b3, b4⟩ := mset_step σ.n hmp8 (Nat.lt_of_lt_of_le hn16 hg8.n) hmr8 a3.1 a4 (a5 (by simp)) a2
        refine ⟨v9, σ9, o, a1, b1, _, _, by rw [htk]; exact hS6, (h6.grow hg8).kept b4, b2, by rw [htk, mapF_snoc]; exact b3, Nat.lt_of_lt_of_le (Nat.lt_of_lt_of_le hn16 hg8.n) a3.1, ?_⟩
        exact Grow.thenB (hg06.trans hg8) (a3.put (by omega) _) (Nat.le_refl _)
      refine W_plans (ls := [[0, 1, 2, 4, 5, 6, 9, 10, 3, 7, 8, 11, 12, 13], [0, 1, 2, 4, 5, 6, 9, 10, 3, 11, 7, 8, 12, 13], [0, 1, 2, 4, 5, 6, 9, 10, 11, 3, 7, 8, 12, 13]]) (b := #[0, 0, 2, 6, 0, 0, 32, 110, 254, 0, 512, 1536, 4094, 8191]) (by kernel_rfl) (by kernel_rfl) (by kernel_rfl) (by kernel_rfl) ?_
      intro ll hll
      simp only [List.mem_cons, List.not_mem_nil, or_false] at hll
      rcases hll with rfl | rfl | rfl
      · simp [dopsR_cons, opAt, isEff, again, befBits, isRead, Nat.add_assoc, e4, e5, hc6]
        refine key_spec _ hx.1.1 hx.1.2 σ6 _ fun σ7 g7 => ?_
        have hc7 := g7.get hc6 hn26
        rw [hkdef]
        simp [dopsR_cons, opAt, isEff, again, befBits, isRead, Nat.add_assoc, e4, e5, hc7]
        refine key_spec _ hx.1.1 hx.1.2 σ7 _ fun σ8 g8 => ?_
        have hg8 := g7.trans g8
        have hc8 := hg8.get hc6 hn26
        have hmp8 := hmp6.grow hn16 hg8
        have hlk8 := hlk _ hmp8
        have hne28 : ¬ σ2.n = σ8.n := by have := hg8.n; omega
        rw [hkdef]
        have hga : Grow σ8 (σ8.alloc (.cells (encU l[j].v) 34 false)) := (Grow.refl σ8).alloc _
        have hlk9 := hlk _ (hmp8.grow (Nat.lt_of_lt_of_le hn16 hg8.n) hga)
        simp [dopsR_cons, opAt, isEff, again, befBits, isRead, Nat.add_assoc, e4, e5, hc8, hlk8]
        obtain ⟨v9, σ9, o, a1, b1, S', M', c1, c2, c3, c4, c5, c6⟩ := hfin (σ8.alloc (.cells (encU l[j].v) 34 false)) σ8.n (hg8.trans hga) (by simp) (by simp)
        simp only [encU] at a1 b1 hlk9
        simp [wops_cons, dopsR_cons, opAt, isEff, again, befBits, isRead, Nat.add_assoc, e4, e5, e10, e11, e12, hw2, hb9, hb10, hb81, hb40, hlk9, hne28, hc8, hlk8, a1, b1]
        refine ⟨_, ?_, j + 1, rfl, by omega, rfl, S', c1, c2, M', c3, c4, c5, c6⟩
        omega
      · simp [dopsR_cons, opAt, isEff, again, befBits, isRead, Nat.add_assoc, e4, e5, hc6]
        refine key_spec _ hx.1.1 hx.1.2 σ6 _ fun σ7 g7 => ?_
        have hc7 := g7.get hc6 hn26
        rw [hkdef]
        have hne27 : ¬ σ2.n = σ7.n := by have := g7.n; omega
        have hga : Grow σ7 (σ7.alloc (.cells (encU l[j].v) 34 false)) := (Grow.refl σ7).alloc _
        have hga2 := hga
        simp only [encU] at hga2
        simp [dopsR_cons, opAt, isEff, again, befBits, isRead, Nat.add_assoc, e4, e5, hc7, hne27, hb9, hb10]
        refine key_spec _ hx.1.1 hx.1.2 _ _ fun σ8 g8 => ?_
        have hg8 := (g7.trans hga2).trans g8
        have hc8 := hg8.get hc6 hn26
        have hmp8 := hmp6.grow hn16 hg8
        have hlk8 := hlk _ hmp8
        have hlk9 := hlk8
        have hne28 : ¬ σ2.n = σ8.n := by have := hg8.n; omega
        rw [hkdef]
        simp [dopsR_cons, opAt, isEff, again, befBits, isRead, Nat.add_assoc, e4, e5, hc8, hlk8]
        obtain ⟨v9, σ9, o, a1, b1, S', M', c1, c2, c3, c4, c5, c6⟩ := hfin σ8 σ7.n hg8 (g8.get (by simp [encU]) (by simp)) (by have := g8.n; simp at this; omega)
        simp [wops_cons, dopsR_cons, opAt, isEff, again, befBits, isRead, Nat.add_assoc, e4, e5, e10, e11, e12, hw2, hb9, hb10, hb81, hb40, hlk9, hne28, hc8, hlk8, a1, b1]
        refine ⟨_, ?_, j + 1, rfl, by omega, rfl, S', c1, c2, M', c3, c4, c5, c6⟩
        omega
      · have hga : Grow σ6 (σ6.alloc (.cells (encU l[j].v) 34 false)) := (Grow.refl σ6).alloc _
        have hga2 := hga
        simp only [encU] at hga2
        simp [dopsR_cons, opAt, isEff, again, befBits, isRead, Nat.add_assoc, e4, e5, hc6, hne26, hb9, hb10]
        refine key_spec _ hx.1.1 hx.1.2 _ _ fun σ7 g7 => ?_
        have hg7 := hga2.trans g7
        have hc7 := hg7.get hc6 hn26
        rw [hkdef]
        simp [dopsR_cons, opAt, isEff, again, befBits, isRead, Nat.add_assoc, e4, e5, hc7, hb9, hb10]
        refine key_spec _ hx.1.1 hx.1.2 _ _ fun σ8 g8 => ?_
        have hg8 := hg7.trans g8
        have hc8 := hg8.get hc6 hn26
        have hmp8 := hmp6.grow hn16 hg8
        have hlk8 := hlk _ hmp8
        have hlk9 := hlk8
        have hne28 : ¬ σ2.n = σ8.n := by have := hg8.n; omega
        rw [hkdef]
        simp [dopsR_cons, opAt, isEff, again, befBits, isRead, Nat.add_assoc, e4, e5, hc8, hlk8]
        obtain ⟨v9, σ9, o, a1, b1, S', M', c1, c2, c3, c4, c5, c6⟩ := hfin σ8 σ6.n hg8 ((g7.trans g8).get (by simp [encU]) (by simp)) (by have := (g7.trans g8).n; simp at this; omega)
        simp [wops_cons, dopsR_cons, opAt, isEff, again, befBits, isRead, Nat.add_assoc, e4, e5, e10, e11, e12, hw2, hb9, hb10, hb81, hb40, hlk9, hne28, hc8, hlk8, a1, b1]
        refine ⟨_, ?_, j + 1, rfl, by omega, rfl, S', c1, c2, M', c3, c4, c5, c6⟩
        omega
    · have hj' : j = l.length := by omega
      subst hj'
      rw [List.take_length] at hS hmr
      have := h σ.n σ1.n S M σ2 hS hst hmp hmr (by omega) hn2 hgr
      simpa [wops_cons, e4, e5, e10, e11, e12] using this
  · refine ⟨_, 0, [], [], rfl, ?_⟩
    simp
    exact ⟨SRel.nil, h1.grow gm, hm, trivial, g1.trans gm⟩
end Go.Sm
/- Stores: All, ranged over by a body that changes nothing. -/
set_option linter.unusedVariables false
set_option linter.unusedSimpArgs false
namespace Go.Sm
open Go Go.Proofs
set_option maxRecDepth 100000
set_option maxHeartbeats 4000000
theorem kround1_mono {E : Env} {L : Nat} {fn : FuncId} {body : Code} {Q Q' : Out → CSt → Prop} (hQ : ∀ o s, Q o s → Q' o s) (o : Out) (s : CSt) (h : kround1 E L fn body Q o s) : kround1 E L fn body Q' o s := by
  unfold kround1 at h ⊢
  split at h
  · split at h
    · refine W.weaken h fun o2 s2 h2 => ?_
      split at h2
      · split at h2
        · split at h2
          · exact hQ _ _ h2
          · exact h2.elim
        · split at h2
          · split at h2
            · split at h2
              · first
                  | exact hQ _ _ h2
                  | (rw [if_pos (by assumption)]; exact hQ _ _ h2)
              · exact h2.elim
            · exact h2.elim
          · exact h2.elim
      · exact h2.elim
    · exact h.elim
  · exact h.elim
def allF (q : Nat) : Value := .func (.func 56) #[] #[.pointer (some ⟨q, 0, none⟩)]
theorem all33 (p : Addr) (σ : CSt) (Q : Out → CSt → Prop) (h : Q (.ret (allF σ.n) false) (σ.alloc (.cells [.pointer (some p)] 51 false))) : W E1 (.fn 33 #[.pointer (some p)] none) σ Q := by
  rw [W_fn (fn := Tryz.f33) Tryz.func33 rfl rfl rfl]
  simpa [wops_cons, allF] using h
theorem range_all {b i : Nat} {S : Stl} {q : Nat} {qo : Bool} {x : Ctx} {a : CAct} {σ : CSt} {f : Operand} {p1 p2 : Tmp} {asg body : Code} {Q : Out → CSt → Prop} (hf : a.eval f = allF q) (ha : aroundOk σ x.rnd = true) (hst : St b σ i S)
    (hq : σ.get q = some (.cells [.pointer (some ⟨i, 0, none⟩)] 51 qo)) (hqn : q < σ.n) (hbig : S.length < 2 ^ 38) (hcl : ∀ s ∈ S, s.2.length < 2 ^ 38) (hp1 : p1 < a.sz) (hp2 : p2 < a.sz)
    (hround : ∀ (j : Nat) (hj : j < S.length) (σ' : CSt) (v : Value) (b' : Nat), Grow (σ.alloc (.loop .ready none x.f a.tm a.sz #[p1, p2] asg body)) σ' → σ.n < b' → b' ≤ σ'.n → Own b' σ' 29 encV v S[j].2 →
      W E1 (.code ⟨x.f, some σ.n, none⟩ asg { tm := (a.tm.set p1 (.string S[j].1)).set p2 v, sz := a.sz, df := [], tk := false }) σ' (kround1 E1 σ.n x.f body fun o s => o = .ret (.bool true) false ∧ Grow (σ.alloc (.loop .ready none x.f a.tm a.sz #[p1, p2] asg body)) s))
    (h : ∀ σ', Grow σ σ' → Q (.code .normal a) σ') : W E1 (.code x (.rangeFunc f #[p1, p2] asg body) a) σ Q := by
  rw [W_rangeFunc hf ha]
  have hg : Grow σ (σ.alloc (.loop .ready none x.f a.tm a.sz #[p1, p2] asg body)) := (Grow.refl σ).alloc _
  have hL : (σ.alloc (.loop .ready none x.f a.tm a.sz #[p1, p2] asg body)).get σ.n = some (.loop .ready none x.f a.tm a.sz #[p1, p2] asg body) := by simp
  have hLn : σ.n < (σ.alloc (.loop .ready none x.f a.tm a.sz #[p1, p2] asg body)).n := by simp
  generalize σ.alloc (.loop .ready none x.f a.tm a.sz #[p1, p2] asg body) = σL at hg hL hLn hround ⊢
  refine all_spec b i S q σ.n qo σL (hst.grow hg) (hg.get hq hqn) (Nat.lt_of_lt_of_le hqn hg.n) hbig hcl (fun _ σ' => Grow σL σ') (fun _ => False) (fun j σ' h => h.kept) (fun j σ' σ'' h h' => h.trans h') (Grow.refl σL) ?_ _ (fun σ' h' => ?_) (fun σ' h' => h'.elim)
  · intro j hj σ' v b' Q' hi hb1 hb2 ho hQ
    rw [W_round (hi.get hL hLn) rfl]
    have := hround j hj σ' v b' hi (Nat.lt_of_lt_of_le hLn hb1) hb2 ho
    simp only [List.zip_cons_cons, List.zip_nil_left, List.foldl_cons, List.foldl_nil, hp1, hp2, if_true]
    refine W.weaken this fun o s h' => kround1_mono (fun o s h => ?_) o s h'
    obtain ⟨rfl, h2⟩ := h
    exact hQ true s (fun _ => h2) (fun h => by cases h)
  · unfold krange
    rw [h'.get hL hLn]
    simp only
    rw [if_neg (by decide)]
    exact h _ ((hg.trans h').put (Nat.le_refl _) _)
/-- The loop's own object while a round runs. -/
def busyO (x : Ctx) (a : CAct) (p1 p2 : Tmp) (asg body : Code) : CObj := .loop .busy none x.f a.tm a.sz #[p1, p2] asg body
theorem range_all2 {b i : Nat} {S : Stl} {q : Nat} {qo : Bool} {x : Ctx} {a : CAct} {σ : CSt} {f : Operand} {p1 p2 : Tmp} {asg body : Code} {Q : Out → CSt → Prop} (hf : a.eval f = allF q) (ha : aroundOk σ x.rnd = true) (hst : St b σ i S)
    (hq : σ.get q = some (.cells [.pointer (some ⟨i, 0, none⟩)] 51 qo)) (hqn : q < σ.n) (hbig : S.length < 2 ^ 38) (hcl : ∀ s ∈ S, s.2.length < 2 ^ 38) (hp1 : p1 < a.sz) (hp2 : p2 < a.sz)
    (hround : ∀ (j : Nat) (hj : j < S.length) (σ' : CSt) (v : Value) (b' : Nat), Grow σ σ' → σ.n < b' → b' ≤ σ'.n → Own b' σ' 29 encV v S[j].2 →
      W E1 (.code ⟨x.f, some σ.n, none⟩ asg { tm := (a.tm.set p1 (.string S[j].1)).set p2 v, sz := a.sz, df := [], tk := false }) σ' fun o s => ∃ a', o = .code .normal a' ∧ s = σ' ∧ ∀ ob : CObj,
        W E1 (.code ⟨x.f, some σ.n, none⟩ body a') (σ'.put σ.n ob) fun o2 s2 => (∃ a2, o2 = .code .normal a2) ∧ s2.get σ.n = some ob ∧ σ'.n ≤ s2.n ∧ ∀ m, m < b' → m ≠ σ.n → s2.get m = σ'.get m)
    (h : ∀ σ', Grow σ σ' → Q (.code .normal a) σ') : W E1 (.code x (.rangeFunc f #[p1, p2] asg body) a) σ Q := by
  refine range_all hf ha hst hq hqn hbig hcl hp1 hp2 (fun j hj σ' v b' hg hb1 hb2 ho => ?_) h
  have hgr : Grow σ σ' := ((Grow.refl σ).alloc _).trans hg
  have hL : σ'.get σ.n = some (.loop .ready none x.f a.tm a.sz #[p1, p2] asg body) := hg.get (by simp) (by simp)
  refine W.weaken (hround j hj σ' v b' hgr hb1 hb2 ho) fun o s h1 => ?_
  obtain ⟨a', rfl, rfl, h2⟩ := h1
  unfold kround1
  rw [hL]
  simp only
  refine W.weaken (h2 (busyO x a p1 p2 asg body)) fun o2 s2 h3 => ?_
  obtain ⟨⟨a2, rfl⟩, h4, h5, h6⟩ := h3
  simp only [jumpOf]
  rw [h4]
  unfold busyO
  simp only [Option.isNone_none, if_true]
  refine ⟨trivial, But.back (L := σ.n) ⟨Nat.le_trans hg.n h5, fun m hm hne => ?_⟩ (by simp)⟩
  have hm' : m < b' := by simp at hm; omega
  rw [h6 m hm' hne]
  exact hg.old m hm
end Go.Sm
/- Stores: All, ranged over by a body that changes its own, and may break off. -/
set_option linter.unusedVariables false
set_option linter.unusedSimpArgs false
namespace Go.Sm
open Go Go.Proofs
set_option maxRecDepth 100000
set_option maxHeartbeats 4000000
/-- A round that goes on, or breaks off. -/
def RoundEnd (L : Nat) (ob : CObj) (I : CSt → Prop) (D : Code → CSt → Prop) : Out → CSt → Prop := fun o2 s2 =>
  ∃ e a2 jj, o2 = .code e a2 ∧ jumpOf e = some jj ∧ s2.get L = some ob ∧ (jj = none → ∀ ob', I (s2.put L ob')) ∧ (∀ c, jj = some c → ∀ ob', D c (s2.put L ob'))
theorem round_gen {L : Nat} {fn : FuncId} {tm : Tr Value} {sz : Nat} {ps : Array Tmp} {asg body : Code} {s : CSt} {args : Array Value} {I : CSt → Prop} {D : Code → CSt → Prop} {Q : Out → CSt → Prop} (hL : s.get L = some (.loop .ready none fn tm sz ps asg body)) (hs : args.size = ps.size)
    (h : ∃ a' s1, (W E1 (.code ⟨fn, some L, none⟩ asg { tm := (ps.toList.zip args.toList).foldl (fun t p => if p.1 < sz then t.set p.1 p.2 else t) tm, sz := sz, df := [], tk := false }) s fun o s' => o = .code .normal a' ∧ s' = s1) ∧ s1.get L = some (.loop .ready none fn tm sz ps asg body) ∧ ∀ ob : CObj,
      W E1 (.code ⟨fn, some L, none⟩ body a') (s1.put L ob) (RoundEnd L ob I D))
    (h1 : ∀ s2, I s2 → s2.get L = some (.loop .ready none fn tm sz ps asg body) → Q (.ret (.bool true) false) s2)
    (h2 : ∀ c s2, D c s2 → s2.get L = some (.loop .done (some c) fn tm sz ps asg body) → Q (.ret (.bool false) false) s2) : W E1 (.round L args) s Q := by
  rw [W_round hL hs]
  obtain ⟨a', s1, h, hL1, h4⟩ := h
  refine W.weaken h fun o s' h3 => ?_
  obtain ⟨rfl, rfl⟩ := h3
  unfold kround1
  simp only [hL1]
  refine W.weaken (h4 _) fun o2 s2 h5 => ?_
  obtain ⟨e, a2, jj, rfl, hj, hL2, hI, hD⟩ := h5
  simp only [hj, hL2]
  cases jj with
  | none => exact h1 _ (hI rfl _) (by simp)
  | some c => exact h2 c _ (hD c rfl _) (by simp)
theorem range_allG {b i : Nat} {S : Stl} {q : Nat} {qo : Bool} {x : Ctx} {a : CAct} {σ : CSt} {f : Operand} {p1 p2 : Tmp} {asg body : Code} {K : Out → CSt → Prop} (hf : a.eval f = allF q) (ha : aroundOk σ x.rnd = true) (hst : St b σ i S)
    (hq : σ.get q = some (.cells [.pointer (some ⟨i, 0, none⟩)] 51 qo)) (hqn : q < σ.n) (hbig : S.length < 2 ^ 38) (hcl : ∀ s ∈ S, s.2.length < 2 ^ 38) (hp1 : p1 < a.sz) (hp2 : p2 < a.sz)
    (Inv : Nat → CSt → Prop) (Done : Code → CSt → Prop) (hkept : ∀ j s, Inv j s → Kept σ s ∧ σ.n < s.n) (hgrow : ∀ j s s', Inv j s → Grow s s' → Inv j s') (h0 : ∀ o, Inv 0 (σ.alloc o))
    (hround : ∀ (j : Nat) (hj : j < S.length) (s : CSt) (v : Value) (b' : Nat), Inv j s → σ.n < b' → b' ≤ s.n → Own b' s 29 encV v S[j].2 → s.get σ.n = some (.loop .ready none x.f a.tm a.sz #[p1, p2] asg body) →
      ∃ a' s1, (W E1 (.code ⟨x.f, some σ.n, none⟩ asg { tm := (a.tm.set p1 (.string S[j].1)).set p2 v, sz := a.sz, df := [], tk := false }) s fun o s' => o = .code .normal a' ∧ s' = s1) ∧ s1.get σ.n = some (.loop .ready none x.f a.tm a.sz #[p1, p2] asg body) ∧ ∀ ob : CObj,
        W E1 (.code ⟨x.f, some σ.n, none⟩ body a') (s1.put σ.n ob) (RoundEnd σ.n ob (Inv (j + 1)) Done))
    (h : ∀ s o, Inv S.length s → K (.code .normal a) (s.put σ.n o)) (hd : ∀ c s o, Done c s → W E1 (.code x c a) (s.put σ.n o) K) : W E1 (.code x (.rangeFunc f #[p1, p2] asg body) a) σ K := by
  rw [W_rangeFunc hf ha]
  have hg : Grow σ (σ.alloc (.loop .ready none x.f a.tm a.sz #[p1, p2] asg body)) := (Grow.refl σ).alloc _
  have hL : (σ.alloc (.loop .ready none x.f a.tm a.sz #[p1, p2] asg body)).get σ.n = some (.loop .ready none x.f a.tm a.sz #[p1, p2] asg body) := by simp
  have hLn : σ.n < (σ.alloc (.loop .ready none x.f a.tm a.sz #[p1, p2] asg body)).n := by simp
  have h00 := h0 (.loop .ready none x.f a.tm a.sz #[p1, p2] asg body)
  have hkp : ∀ j s, Inv j s → Kept (σ.alloc (.loop .ready none x.f a.tm a.sz #[p1, p2] asg body)) s := fun j s hi => by
    obtain ⟨h1, h2⟩ := hkept j s hi
    refine ⟨by simp; omega, fun m hm row e ro hg he => ?_⟩
    simp at hm
    rw [CSt.get_alloc] at hg ⊢
    by_cases hmn : m = σ.n
    · rw [if_pos hmn] at hg; cases hg
    · rw [if_neg hmn] at hg ⊢
      exact h1.2 m (by omega) row e ro hg he
  generalize σ.alloc (.loop .ready none x.f a.tm a.sz #[p1, p2] asg body) = σL at hg hL hLn h00 hkp ⊢
  refine all_spec b i S q σ.n qo σL (hst.grow hg) (hg.get hq hqn) (Nat.lt_of_lt_of_le hqn hg.n) hbig hcl (fun j s => Inv j s ∧ s.get σ.n = some (.loop .ready none x.f a.tm a.sz #[p1, p2] asg body) ∧ σ.n < s.n) (fun s => ∃ c, Done c s ∧ s.get σ.n = some (.loop .done (some c) x.f a.tm a.sz #[p1, p2] asg body)) (fun j s h => hkp j s h.1) (fun j s s' h h' => ⟨hgrow j s s' h.1 h', h'.get h.2.1 h.2.2, Nat.lt_of_lt_of_le h.2.2 h'.n⟩) ⟨h00, hL, hLn⟩ ?_ _ (fun s h' => ?_) (fun s h' => ?_)
  · intro j hj s v b' Q' hi hb1 hb2 ho hk
    have hr := hround j hj s v b' hi.1 (Nat.lt_of_lt_of_le hLn hb1) hb2 ho hi.2.1
    refine round_gen (I := fun s2 => Inv (j + 1) s2 ∧ σ.n < s2.n) (D := Done) hi.2.1 rfl ?_ (fun s2 h1 h2 => hk true s2 (fun _ => ⟨h1.1, h2, h1.2⟩) (fun h => by cases h)) (fun c s2 h1 h2 => hk false s2 (fun h => by cases h) (fun _ => ⟨c, h1, h2⟩))
    simp only [List.zip_cons_cons, List.zip_nil_left, List.foldl_cons, List.foldl_nil, hp1, hp2, if_true]
    obtain ⟨a', s1, hr1, hL1, h4⟩ := hr
    refine ⟨a', s1, hr1, hL1, fun ob => W.weaken (h4 ob) fun o2 s2 h5 => ?_⟩
    obtain ⟨e, a2, jj, h6, h7, h8, h9, h10⟩ := h5
    exact ⟨e, a2, jj, h6, h7, h8, fun h ob' => ⟨h9 h ob', (hkept _ _ (h9 h ob')).2⟩, h10⟩
  · unfold krange
    rw [h'.2.1]
    simp only
    rw [if_neg (by decide)]
    exact h _ _ h'.1
  · obtain ⟨c, h1, h2⟩ := h'
    unfold krange
    rw [h2]
    simp only
    rw [if_neg (by decide)]
    exact hd c _ _ h1
end Go.Sm
/- Stores: Rows, gone over. -/
set_option linter.unusedVariables false
set_option linter.unusedSimpArgs false
namespace Go.Sm
open Go Go.Proofs
set_option maxRecDepth 100000
set_option maxHeartbeats 4000000
theorem kle_eq (s u : ByteArray) : (klt s u || s.toList == u.toList) = !klt u s := by
  cases h : klt s u with
  | true =>
    have := bl_asymm h
    unfold klt; rw [this]; rfl
  | false =>
    by_cases e : s.toList = u.toList
    · have e2 := ba_list_inj e
      subst e2
      simp [klt_irrefl]
    · cases h2 : klt u s with
      | true => simp [e]
      | false => exact absurd (bl_tri h h2) e
def rowsF (q1 q2 q3 : Nat) : Value := .func (.func 57) #[] #[.pointer (some ⟨q1, 0, none⟩), .pointer (some ⟨q2, 0, none⟩), .pointer (some ⟨q3, 0, none⟩)]
theorem rows34 (p : Addr) (fr to : ByteArray) (σ : CSt) (Q : Out → CSt → Prop) (h : Q (.ret (rowsF σ.n (σ.n + 1) (σ.n + 2)) false) (((σ.alloc (.cells [.pointer (some p)] 51 false)).alloc (.cells [.string fr] 9 false)).alloc (.cells [.string to] 9 false))) : W E1 (.fn 34 #[.pointer (some p), .string fr, .string to] none) σ Q := by
  rw [W_fn (fn := Tryz.f34) Tryz.func34 rfl rfl rfl]
  simpa [wops_cons, rowsF] using h
theorem rows_spec (b : Nat) (i : Nat) (S : Stl) (hk : KS S) (q1 q2 q3 L : Nat) (o1 o2 o3 : Bool) (fr to : ByteArray) (σ : CSt) (hst : St b σ i S) (hq1 : σ.get q1 = some (.cells [.pointer (some ⟨i, 0, none⟩)] 51 o1)) (hqn1 : q1 < σ.n) (hq2 : σ.get q2 = some (.cells [.string fr] 9 o2)) (hqn2 : q2 < σ.n) (hq3 : σ.get q3 = some (.cells [.string to] 9 o3)) (hqn3 : q3 < σ.n) (hbig : S.length < 2 ^ 38) (hcl : ∀ s ∈ S, s.2.length < 2 ^ 38)
    (Inv : Nat → Nat → CSt → Prop) (Done : CSt → Prop) (hkept : ∀ n j σ', Inv n j σ' → Kept σ σ' ∧ σ'.get q1 = some (.cells [.pointer (some ⟨i, 0, none⟩)] 51 o1) ∧ σ'.get q3 = some (.cells [.string to] 9 o3)) (hgrow : ∀ n j σ' σ'', Inv n j σ' → Grow σ' σ'' → Inv n j σ'') (h0 : ∀ n σ', Pos S fr n → Grow σ σ' → Inv n n σ')
    (hround : ∀ (n j : Nat) (hj : j < S.length) (σ' : CSt) (v : Value) (b' : Nat) (Q' : Out → CSt → Prop), Inv n j σ' → Pos S fr n → n ≤ j → klt to S[j].1 = false → σ.n ≤ b' → b' ≤ σ'.n → Own b' σ' 29 encV v S[j].2 →
      (∀ (ok : Bool) σ'', (ok = true → Inv n (j + 1) σ'') → (ok = false → Done σ'') → Q' (.ret (.bool ok) false) σ'') → W E1 (.round L #[.string S[j].1, v]) σ' Q')
    (Q : Out → CSt → Prop) (h1 : ∀ n j σ', Pos S fr n → n ≤ j → j ≤ S.length → (∀ h : j < S.length, klt to S[j].1 = true) → Inv n j σ' → Q (.ret (.tuple #[]) false) σ') (h2 : ∀ σ', Done σ' → Q (.ret (.tuple #[]) false) σ') :
    W E1 (.fn 57 #[.func (.yield L) #[] #[], .pointer (some ⟨q1, 0, none⟩), .pointer (some ⟨q2, 0, none⟩), .pointer (some ⟨q3, 0, none⟩)] none) σ Q := by
  obtain ⟨vr, R, hbi, hin, hg, hown, hrw⟩ := hst
  rw [W_fn (fn := Tryz.f57) Tryz.func57 rfl rfl rfl]
  have hsR := hown.sl (sz := 2) lenR
  obtain ⟨pr, cr, rfl⟩ := hsR.form
  have hl := hrw.1
  simp [wops_cons]
  refine W_calm (by kernel_rfl) ?_
  simp [dops_cons, hq1, hq2, hg]
  refine find_store S hk R _ fr σ hrw hsR (by omega) _ fun n0 σ1 hp0 g1 => ?_
  have hnS := hp0.le
  simp [dops_cons, wops_cons]
  refine W_loop_inv (fun n a σ' => ∃ tm j, a = ⟨tm, 57, [], false⟩ ∧ tm.get 0 = some (.func (.yield L) #[] #[]) ∧ tm.get 1 = some (.pointer (some ⟨q1, 0, none⟩)) ∧ tm.get 3 = some (.pointer (some ⟨q3, 0, none⟩)) ∧ tm.get 5 = some (.int .i64 (j : Nat)) ∧ n0 ≤ j ∧ j ≤ R.length ∧ n = R.length - j ∧ Inv n0 j σ') ?_ (R.length - n0) _ _ ?_
  · rintro n a σ1 ⟨tm, j, rfl, e0, e1, e3, e5, hj0, hj, hn, hinv⟩
    obtain ⟨hkp, hk1, hk3⟩ := hkept n0 j σ1 hinv
    have hgi : σ1.get i = some (.cells [.slice pr R.length cr] 97 false) := by rw [hkp.2 i hin _ _ _ hg (by simp)]; exact hg
    by_cases hjl : j < R.length
    · have hjS : j < S.length := by omega
      obtain ⟨o, off, row, ro, rfl, hgo, hon, hrow, hle⟩ := (hkp.sl hsR (.inl rfl)).at hjl
      have hld := row_get (enc := encR) lenR hrow j hjl
      have hl1 := row_le hle j hjl
      have hw2 := i64n1 j (by omega)
      obtain ⟨hkey, hch⟩ := hrw.2 j hjl hjS
      have hch1 := hkp.sl hch (.inr (.inr (.inl rfl)))
      have hc0 := row_cell (enc := encR) lenR hrow j 0 hjl (by omega)
      have hc1 := row_cell (enc := encR) lenR hrow j 1 hjl (by omega)
      have hc0' : row[off + j * 2]? = some (.string R[j].key) := by simpa [encR] using hc0
      have hc1' : row[off + j * 2 + 1]? = some (.slice R[j].p R[j].n R[j].c) := by simpa [encR] using hc1
      have hc1'' : row[off + (j * 2 + 1)]? = some (.slice R[j].p R[j].n R[j].c) := hc1'
      have hjl' : (j : Int) < R.length := by omega
      simp [wops_cons]
      refine W_calm (by kernel_rfl) ?_
      simp [dops_cons, dops_if, dstOf, e0, e1, e3, e5, hk1, hk3, hgi, hjl, hjl', hgo, hc0', hkey, kle_eq]
      cases hto : klt to S[j].1 with
      | true =>
        simp [wops_cons, dops_cons, dops_if, dstOf]
        exact h1 n0 j σ1 hp0 hj0 (by omega) (fun _ => hto) hinv
      | false =>
        simp [wops_cons, dops_cons, dops_if, dstOf]
        refine W_drawn (l := [0, 1, 2, 3, 4, 5, 6, 7, 8, 9, 10, 11, 12, 13, 14, 15, 16, 17, 18, 19]) (b := #[0, 0, 2, 6, 14, 0, 62, 126, 254, 0, 512, 1536, 3584, 0, 15872, 32256, 65024, 130560, 262143, 524287]) (by kernel_rfl) (by kernel_rfl) (by kernel_rfl) ?_
        simp [dopsR_cons, opAt, isEff, again, befBits, isRead, Nat.add_assoc, e0, e1, e3, e5, hk1, hk3, hgi, hjl, hjl', hgo, hc0', hc1'', hkey]
        refine clone_29 S[j].2 _ _ hch1 (by have := hcl _ (List.getElem_mem hjS); omega) _ fun v2 σ2 h2' g2 => ?_
        have hk1q : q1 < σ1.n := Nat.lt_of_lt_of_le hqn1 hkp.1
        have hk12 := g2.get hk1 hk1q
        have hgi2 := g2.get hgi (Nat.lt_of_lt_of_le hin hkp.1)
        have hgo2 := g2.get hgo hon
        have hbits : ∀ j, j < 18 → Nat.testBit 262143 j = true := by decide
        have hbits2 : ∀ j, j < 19 → Nat.testBit 524287 j = true := by decide
        simp [dopsR_cons, opAt, isEff, again, befBits, isRead, Nat.add_assoc, e0, e1, e3, e5, hk12, hgi2, hjl, hjl', hgo2, hc0', hc1'', hkey, hbits, hbits2]
        refine hround n0 j hjS σ2 v2 σ1.n _ (hgrow n0 j σ1 σ2 hinv g2) hp0 hj0 hto hkp.1 g2.n h2' fun ok σ3 ht hf => ?_
        cases ok with
        | true =>
          simp [wops_cons, dopsR_cons, opAt, isEff, again, befBits, isRead, Nat.add_assoc, e0, e1, e3, e5, hbits, hbits2, hw2]
          exact ⟨_, by omega, j + 1, rfl, by omega, by omega, rfl, ht rfl⟩
        | false =>
          simp [dopsR_cons, opAt, isEff, again, befBits, isRead, Nat.add_assoc, e0, hbits, hbits2]
          exact h2 σ3 (hf rfl)
    · have hjl' : j = R.length := by omega
      subst hjl'
      have hjl' : ¬ (R.length : Int) < R.length := by omega
      simp [wops_cons]
      refine W_calm (by kernel_rfl) ?_
      simp [wops_cons, dops_cons, dops_if, dstOf, e0, e1, e3, e5, hk1, hk3, hgi, hjl']
      exact h1 n0 _ σ1 hp0 hj0 (by omega) (fun h => by omega) hinv
  · refine ⟨_, n0, rfl, ?_⟩
    simp
    exact ⟨by omega, h0 n0 σ1 hp0 g1⟩
theorem range_rowsG {b i : Nat} {S : Stl} (hk : KS S) {q1 q2 q3 : Nat} {o1 o2 o3 : Bool} {fr to : ByteArray} {x : Ctx} {a : CAct} {σ : CSt} {f : Operand} {p1 p2 : Tmp} {asg body : Code} {K : Out → CSt → Prop} (hf : a.eval f = rowsF q1 q2 q3) (ha : aroundOk σ x.rnd = true) (hst : St b σ i S)
    (hq1 : σ.get q1 = some (.cells [.pointer (some ⟨i, 0, none⟩)] 51 o1)) (hqn1 : q1 < σ.n) (hq2 : σ.get q2 = some (.cells [.string fr] 9 o2)) (hqn2 : q2 < σ.n) (hq3 : σ.get q3 = some (.cells [.string to] 9 o3)) (hqn3 : q3 < σ.n) (hbig : S.length < 2 ^ 38) (hcl : ∀ s ∈ S, s.2.length < 2 ^ 38) (hp1 : p1 < a.sz) (hp2 : p2 < a.sz)
    (Inv : Nat → Nat → CSt → Prop) (Done : Code → CSt → Prop) (hkept : ∀ n j s, Inv n j s → Kept σ s ∧ σ.n < s.n ∧ s.get q1 = some (.cells [.pointer (some ⟨i, 0, none⟩)] 51 o1) ∧ s.get q3 = some (.cells [.string to] 9 o3)) (hgrow : ∀ n j s s', Inv n j s → Grow s s' → Inv n j s') (h0 : ∀ n o s, Pos S fr n → Grow (σ.alloc o) s → Inv n n s)
    (hround : ∀ (n j : Nat) (hj : j < S.length) (s : CSt) (v : Value) (b' : Nat), Inv n j s → Pos S fr n → n ≤ j → klt to S[j].1 = false → σ.n < b' → b' ≤ s.n → Own b' s 29 encV v S[j].2 → s.get σ.n = some (.loop .ready none x.f a.tm a.sz #[p1, p2] asg body) →
      ∃ a' s1, (W E1 (.code ⟨x.f, some σ.n, none⟩ asg { tm := (a.tm.set p1 (.string S[j].1)).set p2 v, sz := a.sz, df := [], tk := false }) s fun o s' => o = .code .normal a' ∧ s' = s1) ∧ s1.get σ.n = some (.loop .ready none x.f a.tm a.sz #[p1, p2] asg body) ∧ ∀ ob : CObj,
        W E1 (.code ⟨x.f, some σ.n, none⟩ body a') (s1.put σ.n ob) (RoundEnd σ.n ob (Inv n (j + 1)) Done))
    (h : ∀ n j s o, Pos S fr n → n ≤ j → j ≤ S.length → (∀ h : j < S.length, klt to S[j].1 = true) → Inv n j s → K (.code .normal a) (s.put σ.n o)) (hd : ∀ c s o, Done c s → W E1 (.code x c a) (s.put σ.n o) K) : W E1 (.code x (.rangeFunc f #[p1, p2] asg body) a) σ K := by
  rw [W_rangeFunc hf ha]
  have hg : Grow σ (σ.alloc (.loop .ready none x.f a.tm a.sz #[p1, p2] asg body)) := (Grow.refl σ).alloc _
  have hL : (σ.alloc (.loop .ready none x.f a.tm a.sz #[p1, p2] asg body)).get σ.n = some (.loop .ready none x.f a.tm a.sz #[p1, p2] asg body) := by simp
  have hLn : σ.n < (σ.alloc (.loop .ready none x.f a.tm a.sz #[p1, p2] asg body)).n := by simp
  have h00 := fun n s => h0 n (.loop .ready none x.f a.tm a.sz #[p1, p2] asg body) s
  have hkp : ∀ n j s, Inv n j s → Kept (σ.alloc (.loop .ready none x.f a.tm a.sz #[p1, p2] asg body)) s := fun n j s hi => by
    obtain ⟨h1, h2, _⟩ := hkept n j s hi
    refine ⟨by simp; omega, fun m hm row e ro hg he => ?_⟩
    simp at hm
    rw [CSt.get_alloc] at hg ⊢
    by_cases hmn : m = σ.n
    · rw [if_pos hmn] at hg; cases hg
    · rw [if_neg hmn] at hg ⊢
      exact h1.2 m (by omega) row e ro hg he
  generalize σ.alloc (.loop .ready none x.f a.tm a.sz #[p1, p2] asg body) = σL at hg hL hLn h00 hkp ⊢
  refine rows_spec b i S hk q1 q2 q3 σ.n o1 o2 o3 fr to σL (hst.grow hg) (hg.get hq1 hqn1) (Nat.lt_of_lt_of_le hqn1 hg.n) (hg.get hq2 hqn2) (Nat.lt_of_lt_of_le hqn2 hg.n) (hg.get hq3 hqn3) (Nat.lt_of_lt_of_le hqn3 hg.n) hbig hcl
    (fun n j s => Inv n j s ∧ s.get σ.n = some (.loop .ready none x.f a.tm a.sz #[p1, p2] asg body) ∧ σ.n < s.n) (fun s => ∃ c, Done c s ∧ s.get σ.n = some (.loop .done (some c) x.f a.tm a.sz #[p1, p2] asg body)) (fun n j s h => ⟨hkp n j s h.1, (hkept n j s h.1).2.2⟩) (fun n j s s' h h' => ⟨hgrow n j s s' h.1 h', h'.get h.2.1 h.2.2, Nat.lt_of_lt_of_le h.2.2 h'.n⟩) (fun n s hp hgs => ⟨h00 n s hp hgs, hgs.get hL hLn, Nat.lt_of_lt_of_le hLn hgs.n⟩) ?_ _ (fun n j s hp hj1 hj2 hj3 h' => ?_) (fun s h' => ?_)
  · intro n j hj s v b' Q' hi hp hnj hto hb1 hb2 ho hk
    have hr := hround n j hj s v b' hi.1 hp hnj hto (Nat.lt_of_lt_of_le hLn hb1) hb2 ho hi.2.1
    refine round_gen (I := fun s2 => Inv n (j + 1) s2 ∧ σ.n < s2.n) (D := Done) hi.2.1 rfl ?_ (fun s2 h1 h2 => hk true s2 (fun _ => ⟨h1.1, h2, h1.2⟩) (fun h => by cases h)) (fun c s2 h1 h2 => hk false s2 (fun h => by cases h) (fun _ => ⟨c, h1, h2⟩))
    simp only [List.zip_cons_cons, List.zip_nil_left, List.foldl_cons, List.foldl_nil, hp1, hp2, if_true]
    obtain ⟨a', s1, hr1, hL1, h4⟩ := hr
    refine ⟨a', s1, hr1, hL1, fun ob => W.weaken (h4 ob) fun o2 s2 h5 => ?_⟩
    obtain ⟨e, a2, jj, h6, h7, h8, h9, h10⟩ := h5
    exact ⟨e, a2, jj, h6, h7, h8, fun h ob' => ⟨h9 h ob', (hkept _ _ _ (h9 h ob')).2.1⟩, h10⟩
  · unfold krange
    rw [h'.2.1]
    simp only
    rw [if_neg (by decide)]
    exact h n j _ _ hp hj1 hj2 hj3 h'.1
  · obtain ⟨c, h1, h2⟩ := h'
    unfold krange
    rw [h2]
    simp only
    rw [if_neg (by decide)]
    exact hd c _ _ h1
end Go.Sm
/- Stores: Purge. -/
set_option linter.unusedVariables false
set_option linter.unusedSimpArgs false
namespace Go.Sm
open Go Go.Proofs
set_option maxRecDepth 100000
set_option maxHeartbeats 4000000
theorem Rws.nil_ {σ : CSt} : Rws σ [] [] := ⟨rfl, fun j h => by simp at h⟩
theorem Rws.cons_ {σ : CSt} {r : RV} {s : ByteArray × List Ver} {R : List RV} {S : Stl} (h : Rws σ (r :: R) (s :: S)) : (r.key = s.1 ∧ Sl σ 29 3 encV (.slice r.p r.n r.c) s.2) ∧ Rws σ R S :=
  ⟨h.2 0 (by simp) (by simp), by have := h.1; simpa using this, fun j h1 h2 => h.2 (j + 1) (by simpa using h1) (by simpa using h2)⟩
theorem Rws.mk_ {σ : CSt} {r : RV} {s : ByteArray × List Ver} {R : List RV} {S : Stl} (h1 : r.key = s.1 ∧ Sl σ 29 3 encV (.slice r.p r.n r.c) s.2) (h : Rws σ R S) : Rws σ (r :: R) (s :: S) :=
  ⟨by simp [h.1], fun j a b => by
    cases j with
    | zero => exact h1
    | succ j => exact h.2 j (by simpa using a) (by simpa using b)⟩
theorem sl_len {α : Type} {σ : CSt} {e : TypeId} {sz : Nat} {enc : α → List Value} {p : Option Addr} {n c : Nat} {l : List α} (h : Sl σ e sz enc (.slice p n c) l) : n = l.length := by
  obtain ⟨p', c', h1⟩ := h.form
  cases h1; rfl
theorem Rws.filter_ {σ : CSt} : ∀ {R : List RV} {S : Stl}, Rws σ R S → Rws σ (R.filter fun r => !decide (r.n = 0)) (S.filter fun s => !decide (s.2.length = 0))
  | [], [], _ => Rws.nil_
  | [], _ :: _, h => by have := h.1; simp at this
  | _ :: _, [], h => by have := h.1; simp at this
  | r :: R, s :: S, h => by
    obtain ⟨h1, h2⟩ := h.cons_
    have ih := Rws.filter_ h2
    have hn := sl_len h1.2
    rw [List.filter_cons, List.filter_cons]
    by_cases e : s.2.length = 0
    · have e2 : r.n = 0 := by omega
      simp only [e, e2, decide_true, Bool.not_true, Bool.false_eq_true, if_false]
      exact ih
    · have e2 : ¬ r.n = 0 := by omega
      simp only [e, e2, decide_false, Bool.not_false, if_true]
      exact Rws.mk_ h1 ih
def cutS (t : Int) (s : ByteArray × List Ver) : ByteArray × List Ver := (s.1, cutL s.2 t)
def purgeS (t : Int) (S : Stl) : Stl := (S.map (cutS t)).filter fun s => !decide (s.2.length = 0)
def wentS (t : Int) (S : Stl) : Nat := (S.map fun s => s.2.length - (cutL s.2 t).length).sum
theorem wentS_take {t : Int} {S : Stl} {j : Nat} (h : j < S.length) : wentS t (S.take (j + 1)) = wentS t (S.take j) + (S[j].2.length - (cutL S[j].2 t).length) := by
  unfold wentS
  rw [List.take_succ_eq_append_getElem h, List.map_append, List.sum_append]
  simp
def lensS (S : Stl) : Nat := (S.map fun s => s.2.length).sum
theorem wentS_le (t : Int) : ∀ S : Stl, wentS t S ≤ lensS S
  | [] => by simp [wentS, lensS]
  | s :: S => by
    have := wentS_le t S
    unfold wentS lensS at *
    simp; omega
theorem lensS_take (S : Stl) (j : Nat) : lensS (S.take j) ≤ lensS S := by
  have h : lensS S = lensS (S.take j) + lensS (S.drop j) := by
    unfold lensS
    rw [← List.sum_append, ← List.map_append, List.take_append_drop]
  omega
theorem cut_len (c : List Ver) (t : Int) : (cutL c t).length ≤ c.length := by
  unfold cutL
  split
  · exact Nat.le_refl _
  · split <;> simp
theorem pred60 (r : RV) (s : CSt) (Q : Out → CSt → Prop) (h : ∀ s', Grow s s' → Q (.ret (.bool (decide (r.n = 0))) false) s') : W E1 (.fn 60 (#[.agg (encR r).toArray] ++ #[]) none) s Q := by
  simp only [Array.append_empty]
  rw [W_fn (fn := Tryz.f60) Tryz.func60 rfl rfl rfl]
  have hg := h _ ((Grow.refl s).alloc (.cells (encR r) 95 false))
  simp only [encR] at hg
  by_cases e : r.n = 0
  · simpa [wops_cons, encR, e] using hg
  · have e2 : ¬ (r.n : Int) = 0 := by omega
    simpa [wops_cons, encR, e, e2] using hg
theorem purge_store (b : Nat) (i : Nat) (S : Stl) (hc : ∀ s ∈ S, Srt s.2) (hcl : ∀ s ∈ S, s.2.length < 2 ^ 38) (t : Int) (σ : CSt) (hb : b ≤ σ.n) (hst : St b σ i S) (hbig : S.length < 2 ^ 38) (hsum : lensS S < 2 ^ 60) (Q : Out → CSt → Prop)
    (h : ∀ (σ' : CSt), St b σ' i (purgeS t S) → Fr stT b σ σ' → Q (.ret (.int .i64 (wentS t S)) false) σ') :
    W E1 (.fn 36 #[.pointer (some ⟨i, 0, none⟩), .int .u64 t] none) σ Q := by
  obtain ⟨vr, R, hbi, hin, hg, hown, hrw⟩ := hst
  rw [W_fn (fn := Tryz.f36) Tryz.func36 rfl rfl rfl]
  obtain ⟨pr, cr, rfl⟩ := (hown.sl (sz := 2) lenR).form
  have hl := hrw.1
  simp [wops_cons, hg]
  refine W_loop_J (fun n a s => ∃ (tm : Tr Value) (j : Nat) (R' : List RV) (S' : Stl), a = ⟨tm, 49, [], false⟩ ∧ tm.get 0 = some (.pointer (some ⟨i, 0, none⟩)) ∧ tm.get 1 = some (.int .u64 t) ∧ tm.get 5 = some (.int .i64 (wentS t (S.take j))) ∧ tm.get 12 = some (.slice pr R.length cr) ∧ tm.get 13 = some (.int .i64 R.length) ∧ tm.get 14 = some (.int .i64 (j : Nat)) ∧ j ≤ R.length ∧ n = R.length - j ∧ R'.length = R.length ∧ S'.length = S.length ∧ Rws s R' S' ∧ S'.take j = (S.take j).map (cutS t) ∧ S'.drop j = S.drop j ∧ s.get i = some (.cells [.slice pr R.length cr] 97 false) ∧ OwnZ b s 95 encR (.slice pr R.length cr) R' ∧ Fr stT b σ s)
    (fun o s => ∃ (tm : Tr Value) (R' : List RV), o = .code (.exit 0) ⟨tm, 49, [], false⟩ ∧ tm.get 0 = some (.pointer (some ⟨i, 0, none⟩)) ∧ tm.get 5 = some (.int .i64 (wentS t S)) ∧ R'.length = R.length ∧ Rws s R' (S.map (cutS t)) ∧ s.get i = some (.cells [.slice pr R.length cr] 97 false) ∧ OwnZ b s 95 encR (.slice pr R.length cr) R' ∧ Fr stT b σ s) ?_ R.length _ _ ?_ ?_
  · rintro n a s ⟨tm, j, R', S', rfl, e0, e1, e5, e12, e13, e14, hj, hn, hR', hS', hrw', htk, hdr, hgi, hown', hfr⟩
    by_cases hjl : j < R.length
    · have hjR : j < R'.length := by omega
      have hjS : j < S.length := by omega
      have hjS' : j < S'.length := by omega
      have hSj := drop_get hjS hS' hdr
      obtain ⟨hkey, hch⟩ := hrw'.2 j hjR hjS'
      rw [hSj] at hkey hch
      rcases hown' with ⟨h0, h1⟩ | ⟨o, cap, zs, h0, hbo, hon, hgo, hzs, hcap⟩
      · rw [h1] at hjR; simp at hjR
      rw [hR'] at h0
      cases h0
      have hrl : (R'.flatMap encR ++ zs).length = R'.length * 2 + zs.length := by rw [List.length_append, enc_length encR lenR]
      have hrow := rowZ lenR R' zs
      have hld := row_get (enc := encR) lenR hrow j hjR
      rw [Nat.zero_add] at hld
      have hsetz : ∀ (p : Option Addr) (m c : Nat), (R'.flatMap encR ++ zs).take (j * 2 + 1) ++ .slice p m c :: (R'.flatMap encR ++ zs).drop (j * 2 + 1 + 1) = (R'.set j ⟨R'[j].key, p, m, c⟩).flatMap encR ++ zs := fun p m c => by
        have hrl1 := enc_length encR lenR R'
        rw [List.take_append_of_le_length (by omega), List.drop_append_of_le_length (by omega), ← List.cons_append, ← List.append_assoc, encR_set1 R' j hjR p m c]
      generalize hrwd : R'.flatMap encR ++ zs = row at hgo hrl hrow hld hsetz
      have hle1 : j * 2 + 2 ≤ row.length := by omega
      have hle2 : j * 2 + 1 + 1 ≤ row.length := by omega
      have hw2 := i64n1 j (by omega)
      have hRn := sl_len hch
      have hne : ¬ o = s.n := by omega
      have hgw : Grow s ((s.alloc (.cells [.string ⟨#[]⟩, .slice none 0 0] 95 false)).put s.n (.cells [.string R'[j].key, .slice R'[j].p R'[j].n R'[j].c] 95 false)) := ((Grow.refl s).alloc _).put (Nat.le_refl _) _
      have hcw : ((s.alloc (.cells [.string ⟨#[]⟩, .slice none 0 0] 95 false)).put s.n (.cells [.string R'[j].key, .slice R'[j].p R'[j].n R'[j].c] 95 false)).get s.n = some (.cells [.string R'[j].key, .slice R'[j].p R'[j].n R'[j].c] 95 false) := by simp
      have hnw : ((s.alloc (.cells [.string ⟨#[]⟩, .slice none 0 0] 95 false)).put s.n (.cells [.string R'[j].key, .slice R'[j].p R'[j].n R'[j].c] 95 false)).n = s.n + 1 := by simp
      simp [wops_cons, e0, e1, e5, e12, e13, e14, hjl, hgo, hld, hle1]
      simp [wops_cons, encR, e0, e1, e5, e12, e13, e14]
      generalize (s.alloc (.cells [.string ⟨#[]⟩, .slice none 0 0] 95 false)).put s.n (.cells [.string R'[j].key, .slice R'[j].p R'[j].n R'[j].c] 95 false) = s1 at hgw hcw hnw ⊢
      refine purge_spec S[j].2 (hc _ (List.getElem_mem hjS)) _ t s1 (hch.grow hgw) (by have := hcl _ (List.getElem_mem hjS); omega) _ fun v2 s2 h2 g2 => ?_
      obtain ⟨p2, c2, rfl⟩ := (h2.sl (sz := 3) (fun _ => rfl)).form
      have gs2 := hgw.trans g2
      have hcw2 := g2.get hcw (by omega)
      have his : i < s.n := Nat.lt_of_lt_of_le hin hfr.1
      have hgi2 := gs2.get hgi his
      have hgo2 := gs2.get hgo hon
      have hcl2 := cut_len S[j].2 t
      have hcl3 := hcl _ (List.getElem_mem hjS)
      have hw1 : IntKind.i64.wrap ((S[j].2.length : Int) - (cutL S[j].2 t).length) = ((S[j].2.length - (cutL S[j].2 t).length : Nat) : Int) := by rw [IntWalk.i64_in _ (by omega)]; omega
      have hsucc := wentS_take (t := t) hjS
      have hwle := Nat.le_trans (wentS_le t (S.take (j + 1))) (lensS_take S (j + 1))
      have hw3 : IntKind.i64.wrap ((wentS t (S.take j) : Int) + ((S[j].2.length - (cutL S[j].2 t).length : Nat) : Int)) = (wentS t (S.take (j + 1)) : Nat) := by rw [IntWalk.i64_in _ (by omega)]; omega
      simp [wops_cons, e0, e1, e5, e12, e13, e14, hcw2, hRn, hw1, hw3, hgi2, hjl, hgo2, hle2, hw2, hsetz]
      have hoi : ¬ i = o := by
        rintro rfl
        rw [hgi] at hgo
        cases hgo
      have hfo : Fr (fun t => t = 95) 0 s2 (s2.put o (.cells ((R'.set j ⟨R'[j].key, p2, (cutL S[j].2 t).length, c2⟩).flatMap encR ++ zs) 95 false)) := (Fr.refl (fun t => t = 95) 0 s2).put (Nat.zero_le _) hgo2 rfl _
      have hrw2 := ((hrw'.grow gs2).set j ⟨R'[j].key, p2, (cutL S[j].2 t).length, c2⟩ (cutS t S[j]) hkey (h2.sl (fun _ => rfl))).fr (T := fun t => t = 95) (by decide) hfo
      have htk2 : (S'.set j (cutS t S[j])).take (j + 1) = (S.take (j + 1)).map (cutS t) := by
        rw [List.take_succ_eq_append_getElem (by simpa using hjS'), List.take_set_of_le (Nat.le_refl _), htk, List.take_succ_eq_append_getElem hjS, List.map_append]
        simp
      have hdr2 : (S'.set j (cutS t S[j])).drop (j + 1) = S.drop (j + 1) := by
        rw [List.drop_set_of_lt (by omega)]
        have := congrArg (List.drop 1) hdr
        simpa [List.drop_drop] using this
      refine ⟨n - 1, by omega, j + 1, rfl, rfl, by omega, by omega, R'.set j ⟨R'[j].key, p2, (cutL S[j].2 t).length, c2⟩, by simpa using hR', S'.set j (cutS t S[j]), by simpa using hS', hrw2, by rw [htk2, List.map_take], hdr2, hoi, .inr ⟨o, cr, zs, by simp [hR'], hbo, Nat.lt_of_lt_of_le hon gs2.n, by rw [CSt.get_put, if_pos rfl], hzs, ?_⟩, (hfr.trans gs2.fr).put hbo hgo2 (.inl rfl) _⟩
      rcases hcap with hc1 | ⟨hc1, _⟩
      · exact .inl hc1
      · rw [hc1] at hjR; simp at hjR
    · have hje : j = R.length := by omega
      subst hje
      rw [hl, ← hS', List.take_length] at htk
      rw [hS', List.take_length] at htk
      rw [hl, List.take_length] at e5
      subst htk
      simp [wops_cons, e0, e1, e5, e12, e13, e14]
      exact ⟨R', hR', hrw', hgi, hown', hfr⟩
  · refine ⟨_, 0, R, S, rfl, ?_⟩
    simp
    exact ⟨rfl, hrw, hg, hown, Fr.refl _ _ _⟩
  · rintro o s ⟨tm, R', rfl, e0, e5, hR', hrw', hgi, hown', hfr⟩
    simp [wops_cons, e0, e5, hgi]
    have hdf := fun Q => deleteFn_95 60 #[] (fun args s => by simp) (fun r => decide (r.n = 0)) (fun _ => True) b R' (.slice pr R.length cr) s (fun _ _ _ _ => trivial) hown' trivial (fun x _ s Q _ h => pred60 x s Q h) (by omega) Q
    refine hdf _ fun v' s2 ho2 hobj hb2 => ?_
    obtain ⟨p2, c2, rfl⟩ := (ho2.sl (sz := 2) lenR).form
    have hf1 : Fr (fun t => t = 95) b s s2 := hown'.frV hb2
    have his : i < s.n := Nat.lt_of_lt_of_le hin hfr.1
    have hgi2 : s2.get i = some (.cells [.slice pr R.length cr] 97 false) := hf1.get hgi his (.inr fun row e ro he => by cases he; decide)
    have hrw2 := (hrw'.filter_).fr (T := fun t => t = 95) (by decide) hf1
    have hfr2 : Fr stT b σ (s2.put i (.cells [.slice p2 (R'.filter fun r => !decide (r.n = 0)).length c2] 97 false)) := (hfr.trans (hf1.mono (fun e he => .inl he) (Nat.le_refl _))).put hbi hgi2 (.inr rfl) _
    have hFi : Fr (fun t => t = 97) 0 s2 (s2.put i (.cells [.slice p2 (R'.filter fun r => !decide (r.n = 0)).length c2] 97 false)) := (Fr.refl (fun t => t = 97) 0 s2).put (Nat.zero_le _) hgi2 rfl _
    have fin := h (s2.put i (.cells [.slice p2 (R'.filter fun r => !decide (r.n = 0)).length c2] 97 false)) ⟨_, _, hbi, Nat.lt_of_lt_of_le his hf1.1, by rw [CSt.get_put, if_pos rfl], ho2.fr (T := fun t => t = 97) (by decide) hFi, hrw2.fr (T := fun t => t = 97) (by decide) hFi⟩ hfr2
    simpa [wops_cons, e0, e5, hgi2] using fin
end Go.Sm
/- slices.Equal of []string, of []Version; StoreMerge's second closure: a store laid flat. -/
set_option linter.unusedVariables false
set_option linter.unusedSimpArgs false
namespace Go.Sm
open Go Go.Proofs
set_option maxRecDepth 100000
set_option maxHeartbeats 4000000

theorem cokVer (x : Ver) : cokL (encV x) = true := rfl
theorem app_keep {α β : Type} {b b2 : Nat} {σ σ' : CSt} {e e2 : TypeId} {enc : α → List Value} {enc2 : β → List Value} {v w : Value} {l : List α} {m : List β} (h1 : Own b σ e enc v l) (h2 : Own b2 σ e2 enc2 w m) (hne : e ≠ e2) (hn : σ.n ≤ σ'.n) (h : ∀ j, j < σ.n → (∀ i off n c, v = .slice (some ⟨i, off, none⟩) n c → j ≠ i) → σ'.get j = σ.get j) : Own b2 σ' e2 enc2 w m :=
  h2.at_obj hn fun i hi hin => h i hin fun i' off n c hv hj => by
    subst hj
    obtain ⟨r1, g1⟩ := h2.is_cells hi
    obtain ⟨r2, g2⟩ := h1.is_cells (i := i) (by rw [hv]; rfl)
    rw [g1] at g2
    cases g2
    exact hne rfl
theorem lensS_flat (S : Stl) : (S.flatMap (·.2)).length = lensS S := by
  unfold lensS
  rw [List.length_flatMap]
/-- The store's keys, and all its versions in a row. -/
theorem flat41 (b i : Nat) (S : Stl) (σ : CSt) (hst : St b σ i S) (hbig : S.length < 2 ^ 20) (hl : lensS S < 2 ^ 20) (hcl : ∀ s ∈ S, s.2.length < 2 ^ 20) (Q : Out → CSt → Prop)
    (h : ∀ v1 v2 σ', Sl σ' 9 1 encS v1 (S.map (·.1)) → Sl σ' 29 3 encV v2 (S.flatMap (·.2)) → Grow σ σ' → Q (.ret (.tuple #[v1, v2]) false) σ') : W E1 (.fn 41 #[.pointer (some ⟨i, 0, none⟩)] none) σ Q := by
  rw [W_fn (fn := Tryz.f41) Tryz.func41 rfl rfl rfl]
  have g1 : Grow σ ((σ.alloc (.cells [.slice none 0 0] 57 false)).alloc (.cells [.slice none 0 0] 25 false)) := ((Grow.refl σ).alloc _).alloc _
  have hc4 : ((σ.alloc (.cells [.slice none 0 0] 57 false)).alloc (.cells [.slice none 0 0] 25 false)).get σ.n = some (.cells [.slice none 0 0] 57 false) := by simp
  have hc5 : ((σ.alloc (.cells [.slice none 0 0] 57 false)).alloc (.cells [.slice none 0 0] 25 false)).get (σ.n + 1) = some (.cells [.slice none 0 0] 25 false) := by simp
  have hn1 : ((σ.alloc (.cells [.slice none 0 0] 57 false)).alloc (.cells [.slice none 0 0] 25 false)).n = σ.n + 2 := by simp
  simp [wops_cons]
  generalize (σ.alloc (.cells [.slice none 0 0] 57 false)).alloc (.cells [.slice none 0 0] 25 false) = σ1 at g1 hc4 hc5 hn1 ⊢
  refine all33 _ σ1 _ ?_
  have g2 : Grow σ1 (σ1.alloc (.cells [.pointer (some ⟨i, 0, none⟩)] 51 false)) := (Grow.refl σ1).alloc _
  have hq : (σ1.alloc (.cells [.pointer (some ⟨i, 0, none⟩)] 51 false)).get σ1.n = some (.cells [.pointer (some ⟨i, 0, none⟩)] 51 false) := by simp
  have hn2 : (σ1.alloc (.cells [.pointer (some ⟨i, 0, none⟩)] 51 false)).n = σ1.n + 1 := by simp
  generalize σ1.alloc (.cells [.pointer (some ⟨i, 0, none⟩)] 51 false) = σ2 at g2 hq hn2 ⊢
  have hc4 := g2.get hc4 (by omega)
  have hc5 := g2.get hc5 (by omega)
  have g02 := g1.trans g2
  simp [wops_cons]
  refine range_allG (q := σ1.n) (S := S) (i := i) (b := b) rfl rfl (hst.grow g02) hq (by omega) (by omega) (fun u hu => by have := hcl u hu; omega) (by simp) (by simp)
    (fun j s => σ2.n < s.n ∧ (∀ m, m < σ2.n → m ≠ σ.n → m ≠ σ.n + 1 → s.get m = σ2.get m) ∧ ∃ v1 v2, s.get σ.n = some (.cells [v1] 57 false) ∧ s.get (σ.n + 1) = some (.cells [v2] 25 false) ∧ Own (σ2.n + 1) s 9 encS v1 ((S.take j).map (·.1)) ∧ Own (σ2.n + 1) s 29 encV v2 ((S.take j).flatMap (·.2)))
    (fun _ _ => False) ?_ ?_ ?_ ?_ ?_ ?_
  · rintro j s ⟨k1, k2, _⟩
    refine ⟨⟨by omega, fun m hm row e ro hg he => k2 m hm ?_ ?_⟩, k1⟩
    · rintro rfl
      rw [hc4] at hg; cases hg
      exact absurd he (by decide)
    · rintro rfl
      rw [hc5] at hg; cases hg
      exact absurd he (by decide)
  · rintro j s s' ⟨k1, k2, v1, v2, k3, k4, k5, k6⟩ hg
    exact ⟨Nat.lt_of_lt_of_le k1 hg.n, fun m hm h1 h2 => by rw [hg.old m (by omega)]; exact k2 m hm h1 h2, v1, v2, hg.get k3 (by omega), hg.get k4 (by omega), k5.grow hg, k6.grow hg⟩
  · intro o
    refine ⟨by simp, fun m hm _ _ => by rw [CSt.get_alloc, if_neg (by omega)], .slice none 0 0, .slice none 0 0, ?_, ?_, ?_, ?_⟩
    · rw [CSt.get_alloc, if_neg (by omega)]; exact hc4
    · rw [CSt.get_alloc, if_neg (by omega)]; exact hc5
    · simpa using Own.nil
    · simpa using Own.nil
  · rintro j hj s v b' ⟨k1, k2, v1, v2, k3, k4, k5, k6⟩ hb1 hb2 ho hL
    refine ⟨_, s, by simp [wops_cons]; rfl, hL, fun ob => ?_⟩
    have k2' : ∀ m, m < σ2.n → m ≠ σ.n → m ≠ σ.n + 1 → (s.put σ2.n ob).get m = σ2.get m := fun m hm h1 h2 => by rw [CSt.get_put, if_neg (by omega)]; exact k2 m hm h1 h2
    have k3' : (s.put σ2.n ob).get σ.n = some (.cells [v1] 57 false) := by rw [CSt.get_put, if_neg (by omega)]; exact k3
    have k4' : (s.put σ2.n ob).get (σ.n + 1) = some (.cells [v2] 25 false) := by rw [CSt.get_put, if_neg (by omega)]; exact k4
    have k5' := k5.put (i := σ2.n) (by omega) ob
    have k6' := k6.put (i := σ2.n) (by omega) ob
    have ho' := ho.put (i := σ2.n) hb1 ob
    have hob : (s.put σ2.n ob).get σ2.n = some ob := by simp
    have hn' : (s.put σ2.n ob).n = s.n := rfl
    clear k2 k3 k4 k5 k6 ho hL
    generalize s.put σ2.n ob = t1 at k2' k3' k4' k5' k6' ho' hob hn' ⊢
    obtain ⟨p1, c1, rfl⟩ := (k5'.sl (sz := 1) lenS).form
    obtain ⟨p2, c2, rfl⟩ := (k6'.sl (sz := 3) (fun _ => rfl)).form
    obtain ⟨pv, cv, rfl⟩ := (ho'.sl (sz := 3) (fun _ => rfl)).form
    have hga : Grow t1 (t1.alloc (.cells [.string S[j].1] 9 false)) := (Grow.refl t1).alloc _
    have hfl1 : ((S.take j).flatMap (·.2)).length ≤ lensS S := by rw [lensS_flat]; exact lensS_take S j
    have hcj := hcl _ (List.getElem_mem hj)
    have hkl : ((S.take j).map (·.1)).length = j := by simp; omega
    have k5a := k5'.grow hga
    have k6a := k6'.grow hga
    have hoa := ho'.grow hga
    obtain ⟨v9, σ9, a1, a2, a3, a4, a5⟩ := append_only (P := Tryz.prog) (ts := #[57, 57]) (e := 9) (sz := 1) (enc := encS) (l := (S.take j).map (·.1)) (m := [S[j].1]) (b := σ2.n + 1) ef57 (by simp) lenS cokS rfl (by decide) (by decide) rfl (σ := t1.alloc (.cells [.string S[j].1] 9 false))
      k5a (by simp; omega) (Sl.all (l := [S[j].1]) (i := t1.n) (cap := 1) (ro := false) lenS (by simp [encS]) (by simp) (.inr ⟨by simp, by simp [openCap]⟩)) (by rw [hkl]; simp; omega) (by rw [hkl]; omega)
    have k6b := app_keep k5a k6a (by decide) a3.1 a4
    have hob9 := app_keep k5a hoa (by decide) a3.1 a4
    obtain ⟨p9, c9, rfl⟩ := (a2.sl (sz := 1) lenS).form
    have hn9 := a3.1
    obtain ⟨v10, σ10, d1, d2, d3, d4, d5⟩ := append_only (P := Tryz.prog) (ts := #[25, 26]) (e := 29) (sz := 3) (enc := encV) (l := (S.take j).flatMap (·.2)) (m := S[j].2) (b := σ2.n + 1) (σ := σ9) ef25 (by simp) (fun _ => rfl) cokVer rfl (by decide) (by decide) rfl
      k6b (by simp at hn9; omega) (hob9.sl (fun _ => rfl)) (by show _ * 32 ≤ _; omega) (by omega)
    have a2b := app_keep k6b a2 (by decide) d3.1 d4
    obtain ⟨p10, c10, rfl⟩ := (d2.sl (sz := 3) (fun _ => rfl)).form
    have hn10 := d3.1
    have a1' : appendOp Tryz.prog (t1.alloc (.cells [.string S[j].1] 9 false)) #[57, 57] (.slice p1 ((S.take j).map (·.1)).length c1) (.slice (some ⟨t1.n, 0, none⟩) 1 1) = some (.slice p9 ((S.take j).map (·.1) ++ [S[j].1]).length c9, σ9) := a1
    have hold : ∀ m, m < σ2.n + 1 → σ10.get m = t1.get m := fun m hm => by rw [d3.2 m hm, a3.2 m hm]; exact hga.old m (by omega)
    have hk3 : σ10.get σ.n = some (.cells [.slice p1 ((S.take j).map (·.1)).length c1] 57 false) := by rw [hold _ (by omega)]; exact k3'
    have hk4 : σ10.get (σ.n + 1) = some (.cells [.slice p2 ((S.take j).flatMap (·.2)).length c2] 25 false) := by rw [hold _ (by omega)]; exact k4'
    have hob10 : σ10.get σ2.n = some ob := by rw [hold _ (by omega)]; exact hob
    have htk1 : (S.take (j + 1)).map (·.1) = (S.take j).map (·.1) ++ [S[j].1] := by rw [List.take_succ_eq_append_getElem hj, List.map_append]; rfl
    have htk2 : (S.take (j + 1)).flatMap (·.2) = (S.take j).flatMap (·.2) ++ S[j].2 := by rw [List.take_succ_eq_append_getElem hj, List.flatMap_append]; simp
    rw [← htk1] at a2b a1'
    rw [← htk2] at d2 d1
    simp only [CSt.n_alloc] at hn9
    generalize (S.take (j + 1)).map (·.1) = KK at a2b a1' ⊢
    generalize (S.take (j + 1)).flatMap (·.2) = VV at d2 d1 ⊢
    generalize ((S.take j).map (·.1)).length = n1 at a1' hk3 k3' 
    generalize ((S.take j).flatMap (·.2)).length = n2 at d1 hk4 k4'
    generalize S[j].2.length = n3 at d1
    have hne1 : ¬ σ.n = t1.n := by omega
    have hne2 : ¬ σ.n + 1 = t1.n := by omega
    have hbits : ∀ j, j < 8 → Nat.testBit 255 j = true := by decide
    have hk39 : σ9.get σ.n = some (.cells [.slice p1 n1 c1] 57 false) := by rw [a3.2 _ (by omega), hga.old _ (by omega)]; exact k3'
    have hk49 : σ9.get (σ.n + 1) = some (.cells [.slice p2 n2 c2] 25 false) := by rw [a3.2 _ (by omega), hga.old _ (by omega)]; exact k4'
    simp [wops_cons]
    refine W_drawn (l := [0, 1, 4, 5, 2, 3, 6, 7, 8]) (b := #[0, 0, 2, 7, 0, 0, 63, 127, 255]) (by kernel_rfl) (by kernel_rfl) (by kernel_rfl) ?_
    simp [dopsR_cons, opAt, isEff, again, befBits, isRead, Nat.add_assoc, k3', k4', a1', d1, hk3, hk4, hk39, hk49, hne1, hne2, hbits]
    have a2c := (a2b.put (i := σ.n) (by omega) (.cells [.slice p9 KK.length c9] 57 false)).put (i := σ.n + 1) (by omega) (.cells [.slice p10 VV.length c10] 25 false)
    have d2c := (d2.put (i := σ.n) (by omega) (.cells [.slice p9 KK.length c9] 57 false)).put (i := σ.n + 1) (by omega) (.cells [.slice p10 VV.length c10] 25 false)
    refine ⟨.normal, _, none, rfl, rfl, by rw [CSt.get_put, if_neg (by omega), CSt.get_put, if_neg (by omega)]; exact hob10, fun _ ob' => ⟨by show σ2.n < σ10.n; omega, fun m hm e1 e2 => ?_, .slice p9 KK.length c9, ?_, .slice p10 VV.length c10, ?_, a2c.put (by omega) ob', d2c.put (by omega) ob'⟩, fun c h => by cases h⟩
    · rw [CSt.get_put, if_neg (by omega), CSt.get_put, if_neg e2, CSt.get_put, if_neg e1, hold m (by omega)]
      exact k2' m hm e1 e2
    · rw [CSt.get_put, if_neg (by omega), CSt.get_put, if_neg (by omega), CSt.get_put, if_pos rfl]
    · rw [CSt.get_put, if_neg (by omega), CSt.get_put, if_pos rfl]
  · rintro s o ⟨k1, k2, v1, v2, k3, k4, k5, k6⟩
    rw [List.take_of_length_le (Nat.le_refl _)] at k5 k6
    have k3' : (s.put σ2.n o).get σ.n = some (.cells [v1] 57 false) := by rw [CSt.get_put, if_neg (by omega)]; exact k3
    have k4' : (s.put σ2.n o).get (σ.n + 1) = some (.cells [v2] 25 false) := by rw [CSt.get_put, if_neg (by omega)]; exact k4
    have k5' := k5.put (i := σ2.n) (by omega) o
    have k6' := k6.put (i := σ2.n) (by omega) o
    have gg : Grow σ (s.put σ2.n o) := ⟨by have := g02.n; show σ.n ≤ s.n; omega, fun m hm => by
      have := g02.n
      rw [CSt.get_put, if_neg (by omega), k2 m (by omega) (by omega) (by omega)]
      exact g02.old m hm⟩
    obtain ⟨p1, c1, rfl⟩ := (k5'.sl (sz := 1) lenS).form
    obtain ⟨p2, c2, rfl⟩ := (k6'.sl (sz := 3) (fun _ => rfl)).form
    have q1 := k5'.sl (sz := 1) lenS
    have q2 := k6'.sl (sz := 3) (fun _ => rfl)
    clear k5' k6' k3 k4
    generalize (S.map (·.1)).length = n1 at k3' q1
    generalize (S.flatMap (·.2)).length = n2 at k4' q2
    simp [wops_cons]
    refine W_calm (by kernel_rfl) ?_
    simp [dops_cons, wops_cons, k3', k4']
    exact h _ _ _ q1 q2 gg
  · intro c s o h
    exact h.elim
end Go.Sm
/- Stores as lists: one put, whatever it is. -/
set_option linter.unusedSimpArgs false
namespace Go.Sm
theorem getF_ofK (ws : List WW) (k : ByteArray) : (getF (mapF ws) k).map verOf = ofK ws k := by
  refine rev_ind (P := fun ws => ∀ k, (getF (mapF ws) k).map verOf = ofK ws k) (fun k => by simp [mapF, getF, ofK]) (fun ws w ih k => ?_) ws k
  rw [mapF_snoc, getF_putF, ofK_snoc]
  by_cases e : w.k = k
  · rw [if_pos e, if_pos e, List.map_append, ih w.k, e]; rfl
  · rw [if_neg e, if_neg e, ih k]
theorem getF_ok (ws : List WW) (h : ∀ w ∈ ws, w.ok) (k : ByteArray) : ∀ x ∈ getF (mapF ws) k, x.ok := by
  refine rev_ind (P := fun ws => (∀ w ∈ ws, w.ok) → ∀ k, ∀ x ∈ getF (mapF ws) k, x.ok) (fun _ k x hx => by simp [mapF, getF] at hx) (fun ws w ih h k x hx => ?_) ws h k
  rw [mapF_snoc, getF_putF] at hx
  have ih' := ih fun w hw => h w (by simp [hw])
  split at hx
  · rcases List.mem_append.1 hx with hx | hx
    · exact ih' _ x hx
    · rw [List.mem_singleton] at hx; rw [hx]; exact (h w (by simp)).2
  · exact ih' _ x hx
/-- What stands at a key's place behind a put. -/
theorem putAt_get {S : Stl} {k : ByteArray} {x : Ver} {n : Nat} (hp : Pos S k n) : ∃ c, (putAt S k x n)[n]? = some (k, putL c x) ∧ (c = [] ∨ (k, c) ∈ S) := by
  have hnew : (S.take n ++ (k, putL [] x) :: S.drop n)[n]? = some (k, putL [] x) := by
    rw [List.getElem?_append_right (by simp; omega)]
    simp [Nat.min_eq_left hp.le]
  unfold putAt
  cases hn : S[n]? with
  | none => exact ⟨[], hnew, .inl rfl⟩
  | some s =>
    simp only
    obtain ⟨h1, h2⟩ := List.getElem?_eq_some_iff.1 hn
    by_cases e : s.1 = k
    · rw [if_pos e]
      exact ⟨s.2, by simp [h1], .inr (by rw [← e, ← h2]; exact List.getElem_mem h1)⟩
    · rw [if_neg e]
      exact ⟨[], hnew, .inl rfl⟩
theorem putAt_mem {S : Stl} {k : ByteArray} {x : Ver} {n : Nat} : ∀ s ∈ putAt S k x n, s ∈ S ∨ ∃ c, s = (k, putL c x) ∧ (c = [] ∨ (k, c) ∈ S) := by
  have hnew : ∀ s ∈ S.take n ++ (k, putL [] x) :: S.drop n, s ∈ S ∨ ∃ c, s = (k, putL c x) ∧ (c = [] ∨ (k, c) ∈ S) := fun s hs => by
    rcases List.mem_append.1 hs with h | h
    · exact .inl (List.mem_of_mem_take h)
    · rcases List.mem_cons.1 h with rfl | h
      · exact .inr ⟨[], rfl, .inl rfl⟩
      · exact .inl (List.mem_of_mem_drop h)
  unfold putAt
  cases hn : S[n]? with
  | none => exact hnew
  | some s =>
    simp only
    obtain ⟨h1, h2⟩ := List.getElem?_eq_some_iff.1 hn
    by_cases e : s.1 = k
    · rw [if_pos e]
      intro r hr
      rcases List.mem_or_eq_of_mem_set hr with h | rfl
      · exact .inl h
      · exact .inr ⟨s.2, rfl, .inr (by rw [← e, ← h2]; exact List.getElem_mem h1)⟩
    · rw [if_neg e]; exact hnew
theorem putAt_ks {S : Stl} {k : ByteArray} {x : Ver} {n : Nat} (hks : KS S) (hp : Pos S k n) : KS (putAt S k x n) := by
  have hnew : (∀ s, S[n]? = some s → s.1 ≠ k) → KS (S.take n ++ (k, putL [] x) :: S.drop n) := by
    intro hne
    have hlo : ∀ s ∈ S.take n, klt s.1 k = true := fun s hs => by
      obtain ⟨j, hj, rfl⟩ := List.mem_iff_getElem.1 hs
      rw [List.length_take] at hj
      rw [List.getElem_take]
      exact hp.lo j (by omega) (by omega)
    have hhi : ∀ s ∈ S.drop n, klt k s.1 = true := fun s hs => by
      obtain ⟨j, hj, rfl⟩ := List.mem_iff_getElem.1 hs
      rw [List.length_drop] at hj
      rw [List.getElem_drop]
      have h0 := hne S[n] (List.getElem?_eq_getElem (by omega))
      have h2 := hp.hi n (by omega) (Nat.le_refl _)
      have h3 : klt k S[n].1 = true := by
        cases h4 : klt k S[n].1 with
        | true => rfl
        | false => exact absurd (klt_tri h2 h4) h0
      cases j with
      | zero => exact h3
      | succ j => exact klt_trans h3 (List.pairwise_iff_getElem.1 hks n (n + (j + 1)) (by omega) (by omega) (by omega))
    unfold KS at hks ⊢
    rw [List.pairwise_append]
    refine ⟨List.Pairwise.sublist (List.take_sublist n S) hks, List.pairwise_cons.2 ⟨fun s hs => hhi s hs, List.Pairwise.sublist (List.drop_sublist n S) hks⟩, fun a ha c hc => ?_⟩
    rcases List.mem_cons.1 hc with rfl | hc
    · exact hlo a ha
    · exact klt_trans (hlo a ha) (hhi c hc)
  unfold putAt
  cases hn : S[n]? with
  | none => exact hnew fun s hs => by rw [hn] at hs; cases hs
  | some s =>
    simp only
    by_cases e : s.1 = k
    · rw [if_pos e]
      obtain ⟨hnS, hs⟩ := List.getElem?_eq_some_iff.1 hn
      have hget : ∀ j (hj : j < (S.set n (k, putL s.2 x)).length), ((S.set n (k, putL s.2 x))[j]).1 = (S[j]'(by simpa using hj)).1 := fun j hj => by
        by_cases e2 : n = j
        · subst e2; simp [hs, e]
        · rw [List.getElem_set_ne e2]
      unfold KS at hks ⊢
      rw [List.pairwise_iff_getElem]
      intro i j hi hj hij
      rw [hget, hget]
      exact List.pairwise_iff_getElem.1 hks i j _ _ hij
    · rw [if_neg e]
      exact hnew fun r hr => by rw [hn] at hr; cases hr; exact e
theorem pos_unique {S : Stl} {k : ByteArray} {n m : Nat} (hks : KS S) (hp : Pos S k m) {s : ByteArray × List Ver} (hn : S[n]? = some s) (hk : s.1 = k) : m = n := by
  obtain ⟨h1, h2⟩ := List.getElem?_eq_some_iff.1 hn
  rcases Nat.lt_trichotomy m n with h | h | h
  · have a := hp.hi m (by omega) (Nat.le_refl _)
    have b := List.pairwise_iff_getElem.1 hks m n (by omega) h1 h
    rw [h2, hk, a] at b
    cases b
  · exact h
  · have a := hp.lo n h1 h
    rw [h2, hk, klt_irrefl] at a
    cases a
theorem putAt_len (S : Stl) (k : ByteArray) (x : Ver) (n : Nat) : (putAt S k x n).length ≤ S.length + 1 := by
  have hnew : (S.take n ++ (k, putL [] x) :: S.drop n).length ≤ S.length + 1 := by simp; omega
  unfold putAt
  cases S[n]? with
  | none => exact hnew
  | some s =>
    simp only
    split
    · simp
    · exact hnew
end Go.Sm
/- Concat, ContainsFunc, Clone for keys' versions. -/
set_option linter.unusedVariables false
set_option linter.unusedSimpArgs false
namespace Go.Sm
open Go Go.Proofs
set_option maxRecDepth 100000
set_option maxHeartbeats 2000000
theorem clone_75 (l : List WW) (v : Value) (σ : CSt) (hsl : Sl σ 75 4 encW v l) (hbig : l.length < 2 ^ 40) (Q : Out → CSt → Prop)
    (h : ∀ (v' : Value) (σ' : CSt), Own σ.n σ' 75 encW v' l → Grow σ σ' → Q (.ret v' false) σ') : W E1 (.fn 37 #[v] none) σ Q := by
  rw [W_fn (fn := Tryz.f37) Tryz.func37 rfl rfl rfl]
  have h0 : (0 : Nat) ≠ openCap := by simp [openCap]
  rcases hsl with ⟨rfl, rfl⟩ | ⟨i, off, cap, row, ro, rfl, hg, hin, hrow, hlen, hcap⟩
  · have := h _ σ Own.nil (Grow.refl σ)
    simpa [wops_cons] using this
  by_cases hl : l.length = 0
  · have hnil : l = [] := List.eq_nil_of_length_eq_zero hl
    subst hnil
    have := h (.slice (some ⟨σ.n, 0, none⟩) 0 0) (σ.alloc (.cells [] 75 false)) (.inr ⟨σ.n, 0, rfl, Nat.le_refl _, by simp, by simp, .inr ⟨rfl, rfl⟩⟩) ((Grow.refl σ).alloc _)
    have hin' : ¬ i = σ.n := by omega
    have hoff : off ≤ row.length := by simp at hlen; omega
    simpa [wops_cons, appendOp_K, appK, appendF, hg, h0, hin', hoff] using this
  · have hn0 : ¬ l = [] := by rintro rfl; simp at hl
    have hb : l.length * 4 ≤ 140737488355328 := by omega
    have hrl : ((l.flatMap encW).length : Nat) = l.length * 4 := enc_length encW (fun _ => rfl) l
    have hck : cokL (l.flatMap encW) = true := cokL_enc (fun _ => rfl) l
    have := h (.slice (some ⟨σ.n + 1, 0, none⟩) l.length openCap) ((σ.alloc (.cells [] 75 false)).alloc (.cells (l.flatMap encW) 75 false))
      (.inr ⟨σ.n + 1, openCap, rfl, by omega, by simp, by simp, .inl rfl⟩) (((Grow.refl σ).alloc _).alloc _)
    have hin' : ¬ i = σ.n := by omega
    simpa [wops_cons, appendOp_K, appK, appendF, hg, h0, hin', hlen, hrow, hrl, hl, hb, hck, hn0, -List.length_flatMap] using this
section
attribute [local simp] sliceOp_open3 sliceOp_cap sliceOp_open sliceOp_nil appendOp_K appendOp_N copyOp_K
theorem growW_spec (n : Nat) (h0 : 0 < n) (hn : n < 2 ^ 30) (σ : CSt) (Q : Out → CSt → Prop) (h : Q (.ret (.slice (some ⟨σ.n, 0, none⟩) 0 openCap) false) (σ.alloc (.cells (List.replicate n [.int .u8 0, .int .u8 0, .int .u8 0, .bool false]).flatten 75 false))) : W E1 (.fn 62 #[.slice none 0 0, .int .i64 n] none) σ Q := by
  rw [W_fn (fn := Tryz.f62) Tryz.func62 rfl rfl rfl]
  have hw : IntKind.i64.wrap (n : Int) = n := IntWalk.i64_in _ (by omega)
  have hw0 : IntKind.i64.wrap 0 = 0 := by decide
  have h1 : ¬ (n : Int) < 0 := by omega
  have h2 : (0 : Int) < n := by omega
  have h3 : (n : Int) * 4 ≤ 140737488355328 := by omega
  have h4 : n * 4 ≤ 140737488355328 := by omega
  have h5 : ¬ n = 0 := by omega
  simpa [wops_cons, hw, hw0, h1, h2, h0, h3, h4, h5, appNK, appendF, sliceO] using h
end
/-- slices.Concat of two. -/
theorem concatW_spec (l m : List WW) (v u : Value) (σ : CSt) (a : Nat) (ha : σ.get a = some (.cells [v, u] 50 false)) (han : a < σ.n) (hv : Sl σ 75 4 encW v l) (hu : Sl σ 75 4 encW u m) (h0 : 0 < l.length + m.length) (hbig : l.length + m.length < 2 ^ 30) (Q : Out → CSt → Prop)
    (h : ∀ (v' : Value) (σ' : CSt), Own σ.n σ' 75 encW v' (l ++ m) → Grow σ σ' → Q (.ret v' false) σ') : W E1 (.fn 40 #[.slice (some ⟨a, 0, none⟩) 2 2] none) σ Q := by
  rw [W_fn (fn := Tryz.f40) Tryz.func40 rfl rfl rfl]
  obtain ⟨p, c, rfl⟩ := hv.form
  obtain ⟨p', c', rfl⟩ := hu.form
  have hw1 : IntKind.i64.wrap (l.length : Int) = l.length := IntWalk.i64_in _ (by omega)
  have hw2 : IntKind.i64.wrap ((l.length : Int) + m.length) = ((l.length + m.length : Nat) : Int) := by rw [IntWalk.i64_in _ (by omega)]; simp
  have hn1 : ¬ (l.length : Int) < 0 := by omega
  have hn2 : ¬ (l.length : Int) + m.length < 0 := by omega
  have hwa : IntKind.i64.wrap 1 = 1 := by decide
  have hwb : IntKind.i64.wrap 2 = 2 := by decide
  have hco : (2 : Nat) ≠ openCap := by simp [openCap]
  simp [wops_cons]
  rw [W_loop]
  simp [wops_cons, ha, hw1, hn1, hwa]
  rw [W_loop]
  simp [wops_cons, ha, hw2, hn2, hwb]
  rw [W_loop]
  simp [wops_cons, ha, hw2, hn2, hwb]
  have hgs := fun Q => growW_spec (l.length + m.length) h0 hbig σ Q
  simp only [Int.natCast_add] at hgs
  refine hgs _ ?_
  have hzl : ((List.replicate (l.length + m.length) [Value.int .u8 0, Value.int .u8 0, Value.int .u8 0, Value.bool false]).flatten).length = (l.length + m.length) * 4 := by simp
  generalize (List.replicate (l.length + m.length) [Value.int .u8 0, Value.int .u8 0, Value.int .u8 0, Value.bool false]).flatten = zs at hzl ⊢
  have hG : Grow σ (σ.alloc (.cells zs 75 false)) := (Grow.refl σ).alloc _
  obtain ⟨σ1, f1, f2, f3, f4⟩ := append_fit (P := Tryz.prog) (ts := #[50, 50]) (e := 75) (sz := 4) (enc := encW) (l := []) (m := l) ef50 (by simp) lenW cokW rfl (by decide) (by decide) rfl (σ := σ.alloc (.cells zs 75 false)) (g := σ.n) (zs := zs) (by simp) (hv.grow hG) (by rw [hzl]; omega) (by simp)
  have hG1 : Grow σ σ1 := ⟨by rw [f3]; simp, fun i hi => by rw [f4 i (by omega)]; exact hG.old i hi⟩
  obtain ⟨σ2, k1, k2, k3, k4⟩ := append_fit (P := Tryz.prog) (ts := #[50, 50]) (e := 75) (sz := 4) (enc := encW) (l := l) (m := m) ef50 (by simp) lenW cokW rfl (by decide) (by decide) rfl (σ := σ1) (g := σ.n) (zs := zs.drop (l.length * 4)) (by simpa using f2) (hu.grow hG1) (by rw [List.length_drop, hzl]; omega) (by omega)
  have hG2 : Grow σ σ2 := ⟨by rw [k3]; exact hG1.n, fun i hi => by rw [k4 i (by omega)]; exact hG1.old i hi⟩
  simp only [List.nil_append, List.length_nil, List.length_append] at f1 k1
  have ha0 := hG.get ha han
  have ha1 := hG1.get ha han
  have hdr : (zs.drop (l.length * 4)).drop (m.length * 4) = [] := List.drop_of_length_le (by rw [List.length_drop, hzl]; omega)
  rw [hdr, List.append_nil] at k2
  have fin := h (.slice (some ⟨σ.n, 0, none⟩) (l ++ m).length openCap) σ2 (.inr ⟨σ.n, openCap, rfl, Nat.le_refl _, by rw [k3, f3]; simp, k2, .inl rfl⟩) hG2
  rw [List.length_append] at fin
  simp [wops_cons]
  rw [W_loop]
  simp [wops_cons, ha0, hwa, f1]
  rw [W_loop]
  simp [wops_cons, ha1, hwb, k1]
  rw [W_loop]
  simpa [wops_cons] using fin
end Go.Sm
/- ContainsFunc for keys' versions. -/
set_option linter.unusedVariables false
set_option linter.unusedSimpArgs false
namespace Go.Sm
open Go Go.Proofs
set_option maxRecDepth 100000
set_option maxHeartbeats 4000000
def sameW (x w : WW) : Prop := w.k = x.k ∧ w.v.at_ = x.v.at_
instance (x w : WW) : Decidable (sameW x w) := by unfold sameW; exact inferInstance
def sameWF (k : Nat) : Value := .func (.func 39) #[] #[.pointer (some ⟨k, 0, none⟩)]
theorem ext39 (cs args : Array Value) (σ : CSt) : extOf E1 (.func (.func 39) #[] cs) args σ = none := extOf_none rfl
theorem sameW_spec (k : Nat) (x w : WW) (hx : x.ok) (hw : w.ok) (σ : CSt) (hk : σ.get k = some (.cells (encW x) 75 false)) (hkn : k < σ.n) (Q : Out → CSt → Prop) (h : ∀ σ', Grow σ σ' → Q (.ret (.bool (decide (sameW x w))) false) σ') : W E1 (.fn 39 #[.agg (encW w).toArray, .pointer (some ⟨k, 0, none⟩)] none) σ Q := by
  rw [W_fn (fn := Tryz.f39) Tryz.func39 rfl rfl rfl]
  have hne : ¬ k = σ.n := by omega
  simp only [encW] at hk
  simp [wops_cons, encW]
  refine W_drawn (l := [0, 1, 3, 4, 2, 5, 6, 7, 8, 9, 10, 11, 12, 13, 14, 15, 16]) (b := #[0, 1, 3, 0, 8, 31, 63, 127, 255, 511, 1023, 255, 2303, 6399, 16383, 32767, 65535]) (by kernel_rfl) (by kernel_rfl) (by kernel_rfl) ?_
  simp [dopsR_cons, dopsR_if, dstOf, opAt, isEff, again, befBits, isRead, Nat.add_assoc, hk, hne]
  have hga : Grow σ (σ.alloc (.cells [.int .u8 w.key, .int .u8 w.v.at_, .int .u8 w.v.v, .bool w.v.gone] 75 false)) := (Grow.refl σ).alloc _
  refine key_spec w.key hw.1.1 hw.1.2 _ _ fun σ1 g1 => ?_
  have hk1 := (hga.trans g1).get hk hkn
  have hc1 := g1.get (i := σ.n) (o := .cells [.int .u8 w.key, .int .u8 w.v.at_, .int .u8 w.v.v, .bool w.v.gone] 75 false) (by simp) (by simp)
  simp [dopsR_cons, dopsR_if, dstOf, opAt, isEff, again, befBits, isRead, Nat.add_assoc, hk1, hc1]
  refine key_spec x.key hx.1.1 hx.1.2 _ _ fun σ2 g2 => ?_
  have hg := (hga.trans g1).trans g2
  have hk2 := hg.get hk hkn
  have hc2 := g2.get hc1 (by have := g1.n; simp at this; omega)
  have fin := h σ2 hg
  by_cases e1 : w.k = x.k
  · have e1' : (keyOf (w.key.tmod 8)).toList = (keyOf (x.key.tmod 8)).toList := congrArg ByteArray.toList e1
    by_cases e2 : w.v.at_ = x.v.at_
    · simpa [dopsR_cons, dopsR_if, dstOf, opAt, isEff, again, befBits, isRead, Nat.add_assoc, hk2, hc2, e1', e2, sameW, e1] using fin
    · simpa [dopsR_cons, dopsR_if, dstOf, opAt, isEff, again, befBits, isRead, Nat.add_assoc, hk2, hc2, e1', e2, sameW, e1] using fin
  · have e1' : ¬ (keyOf (w.key.tmod 8)).toList = (keyOf (x.key.tmod 8)).toList := fun e => e1 (ba_list_inj e)
    simpa [dopsR_cons, dopsR_if, dstOf, opAt, isEff, again, befBits, isRead, Nat.add_assoc, hk2, hc2, e1', sameW, e1] using fin
theorem indexW_spec (k : Nat) (x : WW) (hx : x.ok) (l : List WW) (hok : ∀ w ∈ l, w.ok) (v : Value) (σ : CSt) (hk : σ.get k = some (.cells (encW x) 75 false)) (hkn : k < σ.n) (hsl : Sl σ 75 4 encW v l) (hbig : l.length < 2 ^ 40) (Q : Out → CSt → Prop)
    (h : ∀ (r : Int) (σ' : CSt), (0 ≤ r ↔ ∃ w ∈ l, sameW x w) → Grow σ σ' → Q (.ret (.int .i64 r) false) σ') : W E1 (.fn 61 #[v, sameWF k] none) σ Q := by
  rw [W_fn (fn := Tryz.f61) Tryz.func61 rfl rfl rfl]
  obtain ⟨p, c, rfl⟩ := hsl.form
  simp [wops_cons, sameWF]
  refine W_loop_inv (fun n a σ' => ∃ tm j, a = ⟨tm, 19, [], false⟩ ∧ tm.get 0 = some (.slice p l.length c) ∧ tm.get 1 = some (sameWF k) ∧ tm.get 7 = some (.int .i64 l.length) ∧ tm.get 8 = some (.int .i64 (j : Nat)) ∧ j ≤ l.length ∧ n = l.length - j ∧ (∀ i (h : i < l.length), i < j → ¬ sameW x l[i]) ∧ Grow σ σ') ?_ l.length _ _ ?_
  · rintro n a σ1 ⟨tm, j, rfl, e0, e1, e7, e8, hj, hn, hno, hgr⟩
    by_cases hjl : j < l.length
    · obtain ⟨i, off, row, ro, rfl, hg, hin, hrow, hle⟩ := (hsl.grow hgr).at hjl
      have hld := row_get (enc := encW) lenW hrow j hjl
      have hl1 := row_le hle j hjl
      have hw2 := i64n1 j (by omega)
      simp [wops_cons, e0, e1, e7, e8, hjl, hg, hld, hl1, sameWF, ext39]
      refine sameW_spec k x l[j] hx (hok _ (List.getElem_mem hjl)) σ1 (hgr.get hk hkn) (Nat.lt_of_lt_of_le hkn hgr.n) _ fun σ2 g2 => ?_
      by_cases hat : sameW x l[j]
      · have := h j σ2 ⟨fun _ => ⟨l[j], List.getElem_mem hjl, hat⟩, fun _ => by omega⟩ (hgr.trans g2)
        simpa [wops_cons, hat] using this
      · simp [wops_cons, hat, e0, e1, e7, e8, hw2, sameWF]
        refine ⟨_, ?_, j + 1, rfl, by omega, rfl, fun i h hi => ?_, hgr.trans g2⟩
        · omega
        · by_cases e : i = j
          · subst e; exact hat
          · exact hno i h (by omega)
    · have := h (-1) σ1 ⟨fun h => by omega, fun ⟨w, hw, he⟩ => by
        obtain ⟨i, hi, rfl⟩ := List.mem_iff_getElem.1 hw
        exact absurd he (hno i hi (by omega))⟩ hgr
      have hj' : j = l.length := by omega
      subst hj'
      simpa [wops_cons, e0, e1, e7, e8] using this
  · refine ⟨_, 0, rfl, ?_⟩
    simp [sameWF]
    exact Grow.refl σ
theorem hasW_spec (k : Nat) (x : WW) (hx : x.ok) (l : List WW) (hok : ∀ w ∈ l, w.ok) (v : Value) (σ : CSt) (hk : σ.get k = some (.cells (encW x) 75 false)) (hkn : k < σ.n) (hsl : Sl σ 75 4 encW v l) (hbig : l.length < 2 ^ 40) (Q : Out → CSt → Prop)
    (h : ∀ (σ' : CSt), Grow σ σ' → Q (.ret (.bool (decide (∃ w ∈ l, sameW x w))) false) σ') : W E1 (.fn 38 #[v, sameWF k] none) σ Q := by
  rw [W_fn (fn := Tryz.f38) Tryz.func38 rfl rfl rfl]
  obtain ⟨p, c, rfl⟩ := hsl.form
  simp [wops_cons]
  refine indexW_spec k x hx l hok _ σ hk hkn hsl hbig _ fun r σ1 hr g1 => ?_
  have := h σ1 g1
  rw [← decide_eq_decide.2 hr] at this
  simpa [wops_cons] using this
end Go.Sm
/- slices.Concat of two, be they empty; slices cut in two. -/
set_option linter.unusedVariables false
set_option linter.unusedSimpArgs false
namespace Go.Sm
open Go Go.Proofs
set_option maxRecDepth 100000
set_option maxHeartbeats 4000000
theorem growW_zero (σ : CSt) (Q : Out → CSt → Prop) (h : Q (.ret (.slice none 0 0) false) σ) : W E1 (.fn 62 #[.slice none 0 0, .int .i64 0] none) σ Q := by
  rw [W_fn (fn := Tryz.f62) Tryz.func62 rfl rfl rfl]
  have hw0 : IntKind.i64.wrap 0 = 0 := by decide
  simpa [wops_cons, hw0] using h
theorem concatW_all (l m : List WW) (v u : Value) (σ : CSt) (a : Nat) (ha : σ.get a = some (.cells [v, u] 50 false)) (han : a < σ.n) (hv : Sl σ 75 4 encW v l) (hu : Sl σ 75 4 encW u m) (hbig : l.length + m.length < 2 ^ 30) (Q : Out → CSt → Prop)
    (h : ∀ (v' : Value) (σ' : CSt), Own σ.n σ' 75 encW v' (l ++ m) → Grow σ σ' → Q (.ret v' false) σ') : W E1 (.fn 40 #[.slice (some ⟨a, 0, none⟩) 2 2] none) σ Q := by
  by_cases h0 : 0 < l.length + m.length
  · exact concatW_spec l m v u σ a ha han hv hu h0 hbig Q h
  have hl : l = [] := List.eq_nil_of_length_eq_zero (by omega)
  have hm : m = [] := List.eq_nil_of_length_eq_zero (by omega)
  subst hl hm
  rw [W_fn (fn := Tryz.f40) Tryz.func40 rfl rfl rfl]
  obtain ⟨p, c, rfl⟩ := hv.form
  obtain ⟨p', c', rfl⟩ := hu.form
  have hwa : IntKind.i64.wrap 1 = 1 := by decide
  have hwb : IntKind.i64.wrap 2 = 2 := by decide
  have hwz : IntKind.i64.wrap 0 = 0 := by decide
  have hco : (2 : Nat) ≠ openCap := by simp [openCap]
  simp only [List.length_nil] at ha hv hu ⊢
  simp [wops_cons]
  rw [W_loop]
  simp [wops_cons, ha, hwa, hwz]
  rw [W_loop]
  simp [wops_cons, ha, hwb, hwz]
  rw [W_loop]
  simp [wops_cons, ha, hwb, hwz]
  refine growW_zero σ _ ?_
  obtain ⟨v1, σ1, f1, f2, f3, f4, _⟩ := append_only (P := Tryz.prog) (ts := #[50, 50]) (e := 75) (sz := 4) (enc := encW) (l := []) (m := []) (b := σ.n) ef50 (by simp) lenW cokW rfl (by decide) (by decide) rfl (σ := σ) (v := .slice none 0 0) Own.nil (Nat.le_refl _) hv (by simp) (by simp)
  have hG1 : Grow σ σ1 := ⟨f3.1, fun i hi => f3.2 i hi⟩
  obtain ⟨v2, σ2, k1, k2, k3, k4, _⟩ := append_only (P := Tryz.prog) (ts := #[50, 50]) (e := 75) (sz := 4) (enc := encW) (l := []) (m := []) (b := σ.n) ef50 (by simp) lenW cokW rfl (by decide) (by decide) rfl (σ := σ1) (v := v1) f2 f3.1 (hu.grow hG1) (by simp) (by simp)
  have hG2 : Grow σ σ2 := ⟨Nat.le_trans f3.1 k3.1, fun i hi => by rw [k3.2 i hi, f3.2 i hi]⟩
  have ha1 := hG1.get ha han
  have fin := h v2 σ2 k2 hG2
  obtain ⟨p1, c1, rfl⟩ := (f2.sl (sz := 4) lenW).form
  obtain ⟨p2, c2, rfl⟩ := (k2.sl (sz := 4) lenW).form
  simp only [List.nil_append, List.length_nil] at f1 k1 fin
  simp [wops_cons]
  rw [W_loop]
  simp [wops_cons, ha, hwa, f1]
  rw [W_loop]
  simp [wops_cons, ha1, hwb, k1]
  rw [W_loop]
  simpa [wops_cons] using fin
theorem bound_i64 (d n : Nat) : bound? d (some (.int .i64 n)) = some n := by simp [bound?]
theorem slice_tail {b : Nat} {σ : CSt} {v : Value} {L : List WW} (h : Own b σ 75 encW v L) (k : Nat) (hk : k ≤ L.length) : ∃ p c, sliceOp Tryz.prog σ 50 v (some (.int .i64 k)) none none = some (.slice p (L.drop k).length c) ∧ Sl σ 75 4 encW (.slice p (L.drop k).length c) (L.drop k) := by
  have he : (elemF Tryz.prog 50).isSome = true := by rw [ef50]; rfl
  have hL := enc_length encW lenW L
  have hLd := enc_length encW lenW (L.drop k)
  have hsplit : (L.flatMap encW).drop (k * 4) = (L.drop k).flatMap encW := by
    conv => lhs; rw [← List.take_append_drop k L, List.flatMap_append]
    rw [List.drop_append_of_le_length (by rw [enc_length encW lenW]; simp; omega), List.drop_of_length_le (by rw [enc_length encW lenW]; simp; omega)]
    rfl
  rcases h with ⟨rfl, rfl⟩ | ⟨i, cap, rfl, hbi, hin, hg, hcap⟩
  · have hk0 : k = 0 := by simpa using hk
    subst hk0
    exact ⟨none, 0, by rw [sliceOp_nil he, bound_i64]; simp [bound?], Sl.nil⟩
  · rw [List.length_drop] at hLd
    rcases hcap with rfl | ⟨rfl, rfl⟩
    · refine ⟨some ⟨i, k * 4, none⟩, openCap, ?_, .inr ⟨i, k * 4, openCap, _, false, rfl, hg, hin, ?_, ?_, .inl rfl⟩⟩
      · rw [sliceOp_open he, bound_i64, ef50, hg]
        simp [sliceO, bound?, hk]
      · rw [hsplit, List.take_of_length_le (by rw [hLd, List.length_drop]; omega)]
      · rw [hL, List.length_drop]; omega
    · have hk0 : k = 0 := by simpa using hk
      subst hk0
      refine ⟨some ⟨i, 0, none⟩, 0, ?_, .inr ⟨i, 0, 0, _, false, rfl, hg, hin, rfl, by simp, .inr ⟨by simp, by simp [openCap]⟩⟩⟩
      rw [sliceOp_cap he _ _ _ _ (by simp [openCap]), bound_i64, ef50]
      simp [sliceC, bound?, openCap]
theorem slice_head {b : Nat} {σ : CSt} {v : Value} {L : List WW} (h : Own b σ 75 encW v L) (k : Nat) (hk : k ≤ L.length) : ∃ p c, sliceOp Tryz.prog σ 50 v none (some (.int .i64 k)) none = some (.slice p (L.take k).length c) ∧ Sl σ 75 4 encW (.slice p (L.take k).length c) (L.take k) := by
  have he : (elemF Tryz.prog 50).isSome = true := by rw [ef50]; rfl
  have hL := enc_length encW lenW L
  have hLd := enc_length encW lenW (L.take k)
  have hsplit : (L.flatMap encW).take (k * 4) = (L.take k).flatMap encW := by
    conv => lhs; rw [← List.take_append_drop k L, List.flatMap_append]
    rw [List.take_append_of_le_length (by rw [enc_length encW lenW]; simp; omega), List.take_of_length_le (by rw [enc_length encW lenW]; simp; omega)]
  have hmin : min k L.length = k := Nat.min_eq_left hk
  rcases h with ⟨rfl, rfl⟩ | ⟨i, cap, rfl, hbi, hin, hg, hcap⟩
  · have hk0 : k = 0 := by simpa using hk
    subst hk0
    exact ⟨none, 0, by rw [sliceOp_nil he, bound_i64]; simp [bound?], Sl.nil⟩
  · rcases hcap with rfl | ⟨rfl, rfl⟩
    · refine ⟨some ⟨i, 0, none⟩, openCap, ?_, .inr ⟨i, 0, openCap, _, false, rfl, hg, hin, ?_, ?_, .inl rfl⟩⟩
      · rw [sliceOp_open he, bound_i64, ef50, hg]
        simp [sliceO, bound?, hk]
      · rw [List.drop_zero, List.length_take, hmin, hsplit]
      · rw [hL, List.length_take]; omega
    · have hk0 : k = 0 := by simpa using hk
      subst hk0
      refine ⟨some ⟨i, 0, none⟩, 0, ?_, .inr ⟨i, 0, 0, _, false, rfl, hg, hin, rfl, by simp, .inr ⟨by simp, by simp [openCap]⟩⟩⟩
      rw [sliceOp_cap he _ _ _ _ (by simp [openCap]), bound_i64, ef50]
      simp [sliceC, bound?, openCap]
end Go.Sm
/- Keys of maps by strings: gathered. -/
set_option linter.unusedVariables false
set_option linter.unusedSimpArgs false
namespace Go.Sm
open Go Go.Proofs
set_option maxRecDepth 100000
set_option maxHeartbeats 4000000
def keysF (q : Nat) : Value := .func (.func 55) #[] #[.pointer (some ⟨q, 0, none⟩)]
theorem perm_eraseIdx {α : Type} (l : List α) (j : Nat) (h : j < l.length) : (l[j] :: l.eraseIdx j).Perm l := by
  rw [List.eraseIdx_eq_take_drop_succ]
  have h1 : l = l.take j ++ l[j] :: l.drop (j + 1) := by rw [← List.drop_eq_getElem_cons h, List.take_append_drop]
  conv => rhs; rw [h1]
  exact List.perm_middle.symm
theorem keys_spec (m : Nat) (σ : CSt) (Q : Out → CSt → Prop) (h : Q (.ret (keysF σ.n) false) (σ.alloc (.cells [.map (some m)] 52 false))) : W E1 (.fn 32 #[.map (some m)] none) σ Q := by
  rw [W_fn (fn := Tryz.f32) Tryz.func32 rfl rfl rfl]
  simpa [wops_cons, keysF] using h
/-- A range over the keys. -/
theorem range_keys {x : Ctx} {a : CAct} {f : Operand} {p : Tmp} {asg body : Code} {K : Out → CSt → Prop} {q m : Nat} {qo : Bool} {M : Ml} (σ : CSt) (hf : a.eval f = keysF q) (ha : aroundOk σ x.rnd = true) (hp : p < a.sz) (hq : σ.get q = some (.cells [.map (some m)] 52 qo)) (hqn : q < σ.n) (hmn : m < σ.n) (hm : Mp σ m M)
    (Inv : List ByteArray → CSt → Prop) (h0 : ∀ o1 o2, Inv [] ((σ.alloc o1).alloc o2))
    (hput : ∀ D s o, Inv D s → Inv D (s.put (σ.n + 1) o)) (hputL : ∀ D s o, Inv D s → Inv D (s.put σ.n o))
    (hround : ∀ (D : List ByteArray) (k : ByteArray) (s : CSt) (v : Value), Inv D s → (k, v) ∈ M → D.length < M.length → σ.n + 2 ≤ s.n → s.get q = some (.cells [.map (some m)] 52 qo) → Mp s m M →
      W E1 (.code ⟨x.f, some σ.n, none⟩ asg { tm := a.tm.set p (.string k), sz := a.sz, df := [], tk := false }) s fun o s1 => ∃ a', o = .code .normal a' ∧ s1 = s ∧ ∀ ob : CObj,
        W E1 (.code ⟨x.f, some σ.n, none⟩ body a') (s.put σ.n ob) fun o2 s2 => (∃ a2, o2 = .code .normal a2) ∧ (∀ ob', Inv (D ++ [k]) (s2.put σ.n ob')) ∧ s.n ≤ s2.n ∧ s2.get σ.n = some ob ∧ s2.get (σ.n + 1) = s.get (σ.n + 1) ∧ s2.get q = s.get q ∧ s2.get m = s.get m)
    (h : ∀ (D : List ByteArray) (s : CSt), Inv D s → D.Perm (M.map (·.1)) → σ.n + 2 ≤ s.n → K (.code .normal a) s) : W E1 (.code x (.rangeFunc f #[p] asg body) a) σ K := by
  rw [W_rangeFunc hf ha, W_fn (fn := Tryz.f55) Tryz.func55 rfl rfl rfl]
  obtain ⟨hmp⟩ : Nonempty True := ⟨trivial⟩
  have hq1 : (σ.alloc (.loop .ready none x.f a.tm a.sz #[p] asg body)).get q = some (.cells [.map (some m)] 52 qo) := by rw [CSt.get_alloc, if_neg (by omega)]; exact hq
  have hm1 : Mp (σ.alloc (.loop .ready none x.f a.tm a.sz #[p] asg body)) m M := by
    obtain ⟨es, clock, h1, h2⟩ := hm
    exact ⟨es, clock, by rw [CSt.get_alloc, if_neg (by omega)]; exact h1, h2⟩
  obtain ⟨o, ho1, ho2⟩ := range_mpG (P := Tryz.prog) (t := 52) (kt := 9) (et := 22) Tryz.underlying52 hm1 (by simp; omega)
  simp at ho1
  simp [wops_cons, hq1, ho1]
  have hi0 := h0 (.loop .ready none x.f a.tm a.sz #[p] asg body) o
  have hL0 : ((σ.alloc (.loop .ready none x.f a.tm a.sz #[p] asg body)).alloc o).get σ.n = some (.loop .ready none x.f a.tm a.sz #[p] asg body) := by simp
  have hq2 : ((σ.alloc (.loop .ready none x.f a.tm a.sz #[p] asg body)).alloc o).get q = some (.cells [.map (some m)] 52 qo) := by rw [CSt.get_alloc, if_neg (by simp; omega)]; exact hq1
  have hn0 : σ.n + 2 ≤ ((σ.alloc (.loop .ready none x.f a.tm a.sz #[p] asg body)).alloc o).n := by simp
  generalize (σ.alloc (.loop .ready none x.f a.tm a.sz #[p] asg body)).alloc o = σ2 at ho2 hi0 hL0 hq2 hn0 ⊢
  refine W_loop_inv (fun n A s => ∃ tm S D, A = ⟨tm, 14, [], false⟩ ∧ tm.get 0 = some (.func (.yield σ.n) #[] #[]) ∧ tm.get 5 = some (.pointer (some ⟨σ.n + 1, 0, none⟩)) ∧ n = List.length S ∧ MIt Value.string s (σ.n + 1) m M S ∧ (D ++ S.map (·.1)).Perm (M.map (·.1)) ∧ (∀ e ∈ S, e ∈ M) ∧ Inv D s ∧ s.get σ.n = some (.loop .ready none x.f a.tm a.sz #[p] asg body) ∧ s.get q = some (.cells [.map (some m)] 52 qo) ∧ σ.n + 2 ≤ s.n) ?_ (List.length M) _ _ ?_
  · rintro n A s ⟨tm, S, D, rfl, e0, e5, hn, hit, hpm, hmem, hinv, hL, hqs, hsn⟩
    simp [wops_cons, e0, e5]
    refine wres_next hit (fun hS => ?_) (fun j hj ob hit' hent => ?_)
    · subst hS
      simp at hpm
      simp [wops_cons, e0, e5]
      unfold krange
      rw [hL]
      simp only
      rw [if_neg (by decide)]
      exact h D _ (hputL D _ _ hinv) hpm (by simpa using hsn)
    · have hSj := List.getElem_mem hj
      have hinv' := hput D s ob hinv
      have hL' : (s.put (σ.n + 1) ob).get σ.n = some (.loop .ready none x.f a.tm a.sz #[p] asg body) := by rw [CSt.get_put, if_neg (by omega)]; exact hL
      have hq' : (s.put (σ.n + 1) ob).get q = some (.cells [.map (some m)] 52 qo) := by rw [CSt.get_put, if_neg (by omega)]; exact hqs
      have hn' : σ.n + 2 ≤ (s.put (σ.n + 1) ob).n := by simpa using hsn
      generalize s.put (σ.n + 1) ob = s1 at hit' hent hinv' hL' hq' hn' ⊢
      simp [wops_cons, e0, e5, hent]
      rw [W_round hL' rfl]
      have hDl : D.length < List.length M := by
        have := hpm.length_eq
        simp at this
        omega
      have hr := hround D S[j].1 s1 S[j].2 hinv' (hmem _ hSj) hDl hn' hq' hit'.mp
      simp only [List.zip_cons_cons, List.zip_nil_left, List.foldl_cons, List.foldl_nil, hp, if_true]
      refine W.weaken hr fun o1 s2 h1 => ?_
      obtain ⟨a', rfl, rfl, h2⟩ := h1
      unfold kround1
      rw [hL']
      simp only
      refine W.weaken (h2 _) fun o2 s3 h3 => ?_
      obtain ⟨⟨a2, rfl⟩, h4, h5, h6, h7, h8, h9⟩ := h3
      simp only [jumpOf]
      rw [h6]
      simp only [Option.isNone_none, if_true]
      simp [wops_cons, e0, e5]
      have hne1 : σ.n + 1 ≠ σ.n := by omega
      refine ⟨S.length - 1, by omega, S.eraseIdx j, by rw [List.length_eraseIdx_of_lt hj], ?_, D ++ [S[j].1], ?_, fun a b he => hmem (a, b) (List.mem_of_mem_eraseIdx he), h4 _, ?_, by omega⟩
      · refine hit'.congr ?_ ?_
        · rw [CSt.get_put, if_neg hne1]; exact h7
        · rw [CSt.get_put, if_neg (by omega)]; exact h9
      · refine List.Perm.trans ?_ hpm
        rw [List.append_assoc]
        refine List.Perm.append_left D ?_
        have := (perm_eraseIdx S j hj).map (·.1)
        simpa using this
      · rw [if_neg (by omega), h8]; exact hq'
  · refine ⟨_, M, [], rfl, ?_⟩
    simp
    exact ⟨ho2, hi0, hL0, hq2, hn0⟩
theorem collect_keys (q m : Nat) (qo : Bool) (M : Ml) (σ : CSt) (hq : σ.get q = some (.cells [.map (some m)] 52 qo)) (hqn : q < σ.n) (hmn : m < σ.n) (hm : Mp σ m M) (hbig : M.length < 2 ^ 38) (Q : Out → CSt → Prop)
    (h : ∀ (v : Value) (D : List ByteArray) (σ' : CSt), D.Perm (M.map (·.1)) → Own σ.n σ' 9 encS v D → Grow σ σ' → Q (.ret v false) σ') : W E1 (.fn 53 #[keysF q] none) σ Q := by
  rw [W_fn (fn := Tryz.f53) Tryz.func53 rfl rfl rfl]
  simp [wops_cons]
  rw [W_fn (fn := Tryz.f70) Tryz.func70 rfl rfl rfl]
  simp [wops_cons]
  have hg0 : Grow σ (σ.alloc (.cells [.slice none 0 0] 57 false)) := (Grow.refl σ).alloc _
  have hb0 : (σ.alloc (.cells [.slice none 0 0] 57 false)).n = σ.n + 1 := by simp
  have hc0 : (σ.alloc (.cells [.slice none 0 0] 57 false)).get σ.n = some (.cells [.slice none 0 0] 57 false) := by simp
  have hq0 := hg0.get hq hqn
  have hm0 : Mp (σ.alloc (.cells [.slice none 0 0] 57 false)) m M := by
    obtain ⟨es, clock, h1, h2⟩ := hm
    exact ⟨es, clock, hg0.get h1 hmn, h2⟩
  generalize σ.alloc (.cells [.slice none 0 0] 57 false) = σ1 at hg0 hb0 hc0 hq0 hm0 ⊢
  have hML : ∀ (D : List ByteArray) (s : CSt) (k : ByteArray) (v : Value), (D ++ [k]).length ≤ M.length + 1 → True := fun _ _ _ _ _ => trivial
  refine range_keys (q := q) (m := m) (qo := qo) (M := M) σ1 rfl (by simp; rfl) (by simp) hq0 (by omega) (by omega) hm0
    (fun D s => ∃ v, s.get σ.n = some (.cells [v] 57 false) ∧ Own (σ1.n + 2) s 9 encS v D ∧ σ1.n + 2 ≤ s.n ∧ ∀ j, j < σ.n → s.get j = σ.get j) ?_ ?_ ?_ ?_ ?_
  · intro o1 o2
    refine ⟨_, ?_, Own.nil, by simp, fun j hj => ?_⟩
    · rw [CSt.get_alloc, if_neg (by simp; omega), CSt.get_alloc, if_neg (by omega)]; exact hc0
    · rw [CSt.get_alloc, if_neg (by simp; omega), CSt.get_alloc, if_neg (by omega)]; exact hg0.old j hj
  · rintro D s o ⟨v, h1, h2, h3, h4⟩
    exact ⟨v, by rw [CSt.get_put, if_neg (by omega)]; exact h1, h2.put (by omega) o, h3, fun j hj => by rw [CSt.get_put, if_neg (by omega)]; exact h4 j hj⟩
  · rintro D s o ⟨v, h1, h2, h3, h4⟩
    exact ⟨v, by rw [CSt.get_put, if_neg (by omega)]; exact h1, h2.put (by omega) o, h3, fun j hj => by rw [CSt.get_put, if_neg (by omega)]; exact h4 j hj⟩
  · rintro D k s vv ⟨v, h1, h2, h3, h4⟩ hk hDl hsn hqs hms
    have hne : ¬ σ.n = σ1.n := by omega
    have hcap : D.length < 2 ^ 38 := by omega
    simp [wops_cons, hne, h1]
    intro ob
    have h1' : (s.put σ1.n ob).get σ.n = some (.cells [v] 57 false) := by rw [CSt.get_put, if_neg hne]; exact h1
    have h2' := h2.put (i := σ1.n) (by omega) ob
    have hpn : (s.put σ1.n ob).n = s.n := rfl
    have hob : (s.put σ1.n ob).get σ1.n = some ob := by simp
    have hoth : ∀ j, j ≠ σ1.n → (s.put σ1.n ob).get j = s.get j := fun j hj => by rw [CSt.get_put, if_neg hj]
    generalize s.put σ1.n ob = s1 at h1' h2' hpn hob hoth ⊢
    have hga : Grow s1 (s1.alloc (.cells [.string k] 9 false)) := (Grow.refl s1).alloc _
    obtain ⟨v9, σ9, a1, a2, a3, a4, a5⟩ := append_only (P := Tryz.prog) (ts := #[57, 57]) (e := 9) (sz := 1) (enc := encS) (l := D) (m := [k]) (b := σ1.n + 2) ef57 (by simp) lenS cokS rfl (by decide) (by decide) rfl (σ := s1.alloc (.cells [.string k] 9 false))
      (h2'.grow hga) (by simp; omega) (Sl.all (l := [k]) (i := s.n) (cap := 1) (ro := false) lenS (by rw [← hpn]; simp [encS]) (by rw [← hpn]; simp) (.inr ⟨by simp, by simp [openCap]⟩)) (by simp; omega) (by omega)
    have hlt : σ.n < s1.n := by omega
    have hold : ∀ j, j < σ1.n + 2 → σ9.get j = s1.get j := fun j hj => by rw [a3.2 j hj]; exact hga.old j (by omega)
    have h19 : σ9.get σ.n = some (.cells [v] 57 false) := by rw [hold _ (by omega)]; exact h1'
    obtain ⟨p9, c9, rfl⟩ := (a2.sl (sz := 1) lenS).form
    have a1' : appendOp Tryz.prog (s1.alloc (.cells [.string k] 9 false)) #[57, 57] v (.slice (some ⟨s.n, 0, none⟩) 1 1) = some (.slice p9 (D ++ [k]).length c9, σ9) := a1
    have hn9 := a3.1
    simp at hn9 a1'
    simp [wops_cons, a1', h19]
    have e1 : ¬ σ1.n = σ.n := by omega
    have a2' : Own (σ1.n + 2) (σ9.put σ.n (.cells [.slice p9 (D.length + 1) c9] 57 false)) 9 encS (.slice p9 (D.length + 1) c9) (D ++ [k]) := by
      have := a2.put (i := σ.n) (by omega) (.cells [.slice p9 (D.length + 1) c9] 57 false)
      rwa [List.length_append] at this
    refine ⟨fun ob' => ⟨a2'.put (by omega) ob', by omega, fun j hj => ?_⟩, by omega, ?_, ?_, ?_, ?_⟩
    · rw [if_neg (by omega), if_neg (by omega), hold j (by omega), hoth j (by omega)]; exact h4 j hj
    · rw [if_neg e1, hold _ (by omega)]; exact hob
    · rw [if_neg (by omega), hold _ (by omega), hoth _ (by omega)]
    · by_cases e : q = σ.n
      · omega
      · rw [if_neg e, hold q (by omega), hoth q (by omega)]
    · by_cases e : m = σ.n
      · omega
      · rw [if_neg e, hold m (by omega), hoth m (by omega)]
  · rintro D s ⟨v, h1, h2, h3, h4⟩ hpm hsn
    have := h v D s hpm (h2.weaken (by omega)) ⟨by omega, h4⟩
    simpa [wops_cons, h1] using this
/-- slices.Sorted of a map's keys. -/
theorem sorted_keys (q m : Nat) (qo : Bool) (M : Ml) (σ : CSt) (hq : σ.get q = some (.cells [.map (some m)] 52 qo)) (hqn : q < σ.n) (hmn : m < σ.n) (hm : Mp σ m M) (hbig : M.length < 2 ^ 38) (Q : Out → CSt → Prop)
    (h : ∀ (v : Value) (D : List ByteArray) (σ' : CSt), D.Perm (M.map (·.1)) → (D.Pairwise fun x y => klt y x = false) → Own σ.n σ' 9 encS v D → Grow σ σ' → Q (.ret v false) σ') : W E1 (.fn 31 #[keysF q] none) σ Q := by
  rw [W_fn (fn := Tryz.f31) Tryz.func31 rfl rfl rfl]
  simp [wops_cons]
  refine collect_keys q m qo M σ hq hqn hmn hm hbig _ fun v D σ1 hpm hown hg => ?_
  simp [wops_cons]
  have hlen := hpm.length_eq
  simp at hlen
  refine sort_own σ.n D v σ1 hg.n hown (by omega) _ fun D' σ2 hp2 hs2 ho2 hg2 => ?_
  have := h v D' σ2 (hp2.trans hpm) hs2 ho2 (Grow.thenB hg hg2 (Nat.le_refl _))
  simpa [wops_cons] using this
end Go.Sm
/- Stores as lists: the keys in order; what a key has. -/
set_option linter.unusedSimpArgs false
namespace Go.Sm
open Go
theorem sorted_eq : ∀ {l m : List ByteArray}, (l.Pairwise fun x y => klt x y = true) → (m.Pairwise fun x y => klt y x = false) → l.Perm m → l = m
  | [], m, _, _, h => by rw [List.Perm.eq_nil h.symm]
  | a :: l, [], _, _, h => by cases List.Perm.eq_nil h
  | a :: l, b :: m, h1, h2, h => by
    rw [List.pairwise_cons] at h1 h2
    have hab : a = b := by
      have ha : a ∈ b :: m := h.subset (by simp)
      have hb : b ∈ a :: l := h.symm.subset (by simp)
      rcases List.mem_cons.1 ha with e | ha
      · exact e
      · rcases List.mem_cons.1 hb with e | hb
        · exact e.symm
        · have := h1.1 b hb
          rw [h2.1 a ha] at this
          cases this
    subst hab
    rw [sorted_eq h1.2 h2.2 (List.Perm.cons_inv h)]
theorem putF_keys (k : ByteArray) (x : VV) (q : ByteArray) : ∀ F : Fl, q ∈ (putF F k x).map (·.1) ↔ q = k ∨ q ∈ F.map (·.1)
  | [] => by simp [putF]
  | p :: F => by
    have ih := putF_keys k x q F
    unfold putF
    by_cases e : p.1 = k
    · rw [if_pos e]
      simp only [List.map_cons, List.mem_cons, e]
      constructor
      · rintro (h | h)
        · exact .inl h
        · exact .inr (.inr h)
      · rintro (h | h | h)
        · exact .inl h
        · exact .inl h
        · exact .inr h
    · rw [if_neg e, List.map_cons, List.mem_cons, ih, List.map_cons, List.mem_cons]
      exact or_left_comm
theorem putF_len (k : ByteArray) (x : VV) : ∀ F : Fl, (putF F k x).length ≤ F.length + 1
  | [] => by simp [putF]
  | p :: F => by
    have ih := putF_len k x F
    unfold putF
    split <;> simp <;> omega
theorem mapF_len (ws : List WW) : (mapF ws).length ≤ ws.length := by
  refine rev_ind (P := fun ws => (mapF ws).length ≤ ws.length) (by simp [mapF]) (fun ws w ih => ?_) ws
  rw [mapF_snoc]
  have := putF_len w.k w.v (mapF ws)
  simp; omega
theorem mapF_keys (ws : List WW) (q : ByteArray) : q ∈ (mapF ws).map (·.1) ↔ ∃ w ∈ ws, w.k = q := by
  refine rev_ind (P := fun ws => q ∈ (mapF ws).map (·.1) ↔ ∃ w ∈ ws, w.k = q) (by simp [mapF]) (fun ws w ih => ?_) ws
  rw [mapF_snoc, putF_keys, ih]
  constructor
  · rintro (rfl | ⟨u, hu, e⟩)
    · exact ⟨w, by simp, rfl⟩
    · exact ⟨u, by simp [hu], e⟩
  · rintro ⟨u, hu, e⟩
    rcases List.mem_append.1 hu with h | h
    · exact .inr ⟨u, h, e⟩
    · rw [List.mem_singleton] at h; rw [← e, h]; exact .inl rfl
theorem MRel.keys {b : Nat} {σ : CSt} : ∀ {M : Ml} {F : Fl}, MRel b σ M F → M.map (·.1) = F.map (·.1)
  | [], [], _ => rfl
  | p :: M, q :: F, h => by rw [List.map_cons, List.map_cons, h.1.1, MRel.keys h.2.2]
theorem KS.nodup {S : Stl} (h : KS S) : (S.map (·.1)).Nodup := by
  have h1 : (S.map (·.1)).Pairwise fun a c => klt a c = true := by rw [List.pairwise_map]; exact h
  refine h1.imp fun {a c} hac e => ?_
  rw [e, klt_irrefl] at hac
  cases hac
theorem keys_eq {b : Nat} {σ σ' : CSt} {S : Stl} {l : List WW} {M : Ml} {m : Nat} {D : List ByteArray} (hS : SRel S l) (hmp : Mp σ m M) (hmr : MRel b σ' M (mapF l)) (hp : D.Perm (M.map (·.1))) (hs : D.Pairwise fun x y => klt y x = false) : D = S.map (·.1) := by
  have h1 : (S.map (·.1)).Pairwise fun a c => klt a c = true := by rw [List.pairwise_map]; exact hS.ks
  have h2 : (M.map (·.1)).Nodup := by obtain ⟨_, _, _, h⟩ := hmp; exact h.keys
  refine (sorted_eq h1 hs (List.Perm.trans ?_ hp.symm)).symm
  refine (List.perm_ext_iff_of_nodup hS.ks.nodup h2).2 fun k => ?_
  rw [hmr.keys, mapF_keys]
  constructor
  · intro h
    obtain ⟨s, hs, rfl⟩ := List.mem_map.1 h
    exact hS.only s hs
  · rintro ⟨w, hw, rfl⟩
    obtain ⟨s, hs, e⟩ := hS.all w hw
    exact List.mem_map.2 ⟨s, hs, e⟩
theorem ofK_at (ws : List WW) (h : ∀ w ∈ ws, w.ok) (k : ByteArray) : ∀ v ∈ ofK ws k, 0 ≤ v.at_ ∧ v.at_ < 256 := by
  rw [← getF_ofK]
  exact at_ok _ (getF_ok ws h k)
theorem SRel.plain {S : Stl} {ws : List WW} (h : SRel S ws) (hok : ∀ w ∈ ws, w.ok) : ∀ s ∈ S, s.2 = plainL (ofK ws s.1) := fun s hs => by rw [h.val s hs, make_plain _ (ofK_at ws hok s.1)]
theorem atS_plain {S : Stl} {ws : List WW} {k : ByteArray} {n : Nat} {t : Int} (h : SRel S ws) (hok : ∀ w ∈ ws, w.ok) (hp : Pos S k n) : atS S k n t = atL (plainL (ofK ws k)) t := by
  unfold atS
  by_cases hk : ∃ s ∈ S, s.1 = k
  · obtain ⟨s, hs, e⟩ := hk
    obtain ⟨j, hj, rfl⟩ := List.mem_iff_getElem.1 hs
    have hn : n = j := pos_unique h.ks hp (List.getElem?_eq_getElem hj) e
    subst hn
    rw [List.getElem?_eq_getElem hj]
    simp only [e, if_true]
    rw [h.plain hok _ hs, e]
  · have h0 : ofK ws k = [] := by
      unfold ofK
      rw [List.map_eq_nil_iff, List.filter_eq_nil_iff]
      intro w hw
      obtain ⟨s, hs, e⟩ := h.all w hw
      simp
      intro e2
      exact hk ⟨s, hs, by rw [e, e2]⟩
    rw [h0]
    have h1 : atL (plainL []) t = none := by
      have : plainL [] = [] := by simp [plainL, lastAt]
      rw [this]; rfl
    rw [h1]
    cases hn : S[n]? with
    | none => rfl
    | some s =>
      simp only
      rw [if_neg fun e => hk ⟨s, List.mem_of_getElem? hn, e⟩]
end Go.Sm
/- Stores merged in whichever order: plain facts. -/
set_option linter.unusedSimpArgs false
namespace Go.Sm
open Go
theorem lastAt_append (a b : List Ver) (t : Int) : lastAt (a ++ b) t = (lastAt b t).or (lastAt a t) := by
  unfold lastAt
  rw [List.filter_append, List.getLast?_append]
theorem lastAt_comm {a b : List Ver} (h : ∀ u ∈ a, ∀ w ∈ b, u.at_ ≠ w.at_) (t : Int) : lastAt (a ++ b) t = lastAt (b ++ a) t := by
  rw [lastAt_append, lastAt_append]
  cases ha : lastAt a t with
  | none => simp
  | some u =>
    cases hb : lastAt b t with
    | none => simp
    | some w =>
      obtain ⟨h1, h2⟩ := lastAt_at ha
      obtain ⟨h3, h4⟩ := lastAt_at hb
      exact absurd (h2.trans h4.symm) (h u h1 w h3)
theorem makeL_comm {a b : List Ver} (h : ∀ u ∈ a, ∀ w ∈ b, u.at_ ≠ w.at_) : makeL (a ++ b) = makeL (b ++ a) :=
  Srt.ext (makeL_srt _) (makeL_srt _) fun t => by rw [lk_makeL, lk_makeL, lastAt_comm h]
theorem ofK_append (a b : List WW) (k : ByteArray) : ofK (a ++ b) k = ofK a k ++ ofK b k := by
  unfold ofK
  rw [List.filter_append, List.map_append]
theorem ofK_mem {a : List WW} {k : ByteArray} {u : Ver} (h : u ∈ ofK a k) : ∃ w ∈ a, w.k = k ∧ u.at_ = w.v.at_ := by
  unfold ofK at h
  obtain ⟨w, hw, rfl⟩ := List.mem_map.1 h
  obtain ⟨h1, h2⟩ := List.mem_filter.1 hw
  exact ⟨w, h1, by simpa using h2, verOf_at _⟩
/-- Those of m whose key and time l has not. -/
def newOf (l m : List WW) : List WW := m.filter fun x => !decide (∃ w ∈ l, sameW x w)
theorem newOf_apart {l m : List WW} : ∀ u ∈ l, ∀ w ∈ newOf l m, u.k = w.k → u.v.at_ ≠ w.v.at_ := fun u hu w hw hk ha => by
  unfold newOf at hw
  have := (List.mem_filter.1 hw).2
  have h2 : ¬ ∃ u ∈ l, sameW w u := by simpa using this
  exact h2 ⟨u, hu, hk, ha⟩
theorem merge_store {l m : List WW} {S S' : Stl} (h : SRel S (l ++ newOf l m)) (h' : SRel S' (newOf l m ++ l)) : S = S' := by
  have hks : S.map (·.1) = S'.map (·.1) := by
    have a1 : (S.map (·.1)).Pairwise fun a c => klt a c = true := by rw [List.pairwise_map]; exact h.ks
    have a2 : (S'.map (·.1)).Pairwise fun x y => klt y x = false := by
      rw [List.pairwise_map]
      exact h'.ks.imp fun {a c} hac => by
        cases h3 : klt c.1 a.1 with
        | false => rfl
        | true => have := klt_trans hac h3; rw [klt_irrefl] at this; cases this
    refine sorted_eq a1 a2 ?_
    refine (List.perm_ext_iff_of_nodup h.ks.nodup h'.ks.nodup).2 fun k => ?_
    constructor
    · intro hk
      obtain ⟨s, hs, rfl⟩ := List.mem_map.1 hk
      obtain ⟨w, hw, e⟩ := h.only s hs
      obtain ⟨s', hs', e'⟩ := h'.all w (by simpa [or_comm] using hw)
      exact List.mem_map.2 ⟨s', hs', e'.trans e⟩
    · intro hk
      obtain ⟨s, hs, rfl⟩ := List.mem_map.1 hk
      obtain ⟨w, hw, e⟩ := h'.only s hs
      obtain ⟨s', hs', e'⟩ := h.all w (by simpa [or_comm] using hw)
      exact List.mem_map.2 ⟨s', hs', e'.trans e⟩
  have hlen : S.length = S'.length := by simpa using congrArg List.length hks
  refine List.ext_getElem hlen fun i h1 h2 => ?_
  have hki : S[i].1 = S'[i].1 := by
    have := congrArg (fun L : List ByteArray => L[i]?) hks
    simpa [List.getElem?_map, List.getElem?_eq_getElem h1, List.getElem?_eq_getElem h2] using this
  refine Prod.ext hki ?_
  rw [h.val _ (List.getElem_mem h1), h'.val _ (List.getElem_mem h2), ← hki, ofK_append, ofK_append]
  refine makeL_comm fun u hu w hw => ?_
  obtain ⟨x, hx, e1, e2⟩ := ofK_mem hu
  obtain ⟨y, hy, e3, e4⟩ := ofK_mem hw
  rw [e2, e4]
  exact newOf_apart x hx y hy (e1.trans e3.symm)
theorem newOf_take {l m : List WW} {j : Nat} (h : j < m.length) : newOf l (m.take (j + 1)) = newOf l (m.take j) ++ if ∃ w ∈ l, sameW m[j] w then [] else [m[j]] := by
  unfold newOf
  rw [List.take_succ_eq_append_getElem h, List.filter_append]
  congr 1
  by_cases e : ∃ w ∈ l, sameW m[j] w <;> simp [e]
theorem newOf_len (l m : List WW) : (newOf l m).length ≤ m.length := List.length_filter_le _ _
theorem newOf_ok {l m : List WW} (h : ∀ w ∈ m, w.ok) : ∀ w ∈ newOf l m, w.ok := fun w hw => h w (List.mem_filter.1 hw).1
end Go.Sm
/- Stores as lists: the keys from one to another one. -/
set_option linter.unusedSimpArgs false
namespace Go.Sm
open Go
theorem end_pos {S : Stl} (hk : KS S) (to : ByteArray) : ∀ (m n : Nat), S.length - n = m → n ≤ S.length → ∃ e, n ≤ e ∧ e ≤ S.length ∧ (∀ i (h : i < S.length), n ≤ i → i < e → klt to S[i].1 = false) ∧ (∀ i (h : i < S.length), e ≤ i → klt to S[i].1 = true)
  | 0, n, hm, hn => ⟨n, Nat.le_refl _, hn, fun i h h1 h2 => by omega, fun i h h1 => by omega⟩
  | m + 1, n, hm, hn => by
    have hnl : n < S.length := by omega
    cases ht : klt to S[n].1 with
    | true =>
      refine ⟨n, Nat.le_refl _, hn, fun i h h1 h2 => by omega, fun i h h1 => ?_⟩
      rcases Nat.lt_or_ge n i with h2 | h2
      · exact klt_trans ht (List.pairwise_iff_getElem.1 hk n i hnl h h2)
      · have : i = n := by omega
        subst this; exact ht
    | false =>
      obtain ⟨e, h1, h2, h3, h4⟩ := end_pos hk to m (n + 1) (by omega) (by omega)
      refine ⟨e, by omega, h2, fun i h h5 h6 => ?_, h4⟩
      by_cases e2 : i = n
      · subst e2; exact ht
      · exact h3 i h (by omega) h6
theorem keys_range {S : Stl} (hk : KS S) {fr to : ByteArray} {n : Nat} (hp : Pos S fr n) : ∃ e, n ≤ e ∧ e ≤ S.length ∧ (∀ i (h : i < S.length), n ≤ i → i < e → klt to S[i].1 = false) ∧ (∀ i (h : i < S.length), e ≤ i → klt to S[i].1 = true) ∧
    (S.map (·.1)).filter (fun k => !klt k fr && !klt to k) = ((S.map (·.1)).drop n).take (e - n) := by
  obtain ⟨e, h1, h2, h3, h4⟩ := end_pos hk to _ n rfl hp.le
  refine ⟨e, h1, h2, h3, h4, ?_⟩
  have hsplit : S.map (·.1) = (S.map (·.1)).take n ++ (((S.map (·.1)).drop n).take (e - n) ++ (S.map (·.1)).drop e) := by
    have : (S.map (·.1)).drop e = ((S.map (·.1)).drop n).drop (e - n) := by rw [List.drop_drop]; congr 1; omega
    rw [this, List.take_append_drop, List.take_append_drop]
  conv => lhs; rw [hsplit]
  rw [List.filter_append, List.filter_append]
  have a1 : ((S.map (·.1)).take n).filter (fun k => !klt k fr && !klt to k) = [] := by
    rw [List.filter_eq_nil_iff]
    intro k hmem
    obtain ⟨i, hi, rfl⟩ := List.mem_iff_getElem.1 hmem
    simp at hi
    have := hp.lo i (by omega) (by omega)
    simp [this]
  have a3 : ((S.map (·.1)).drop e).filter (fun k => !klt k fr && !klt to k) = [] := by
    rw [List.filter_eq_nil_iff]
    intro k hmem
    obtain ⟨i, hi, rfl⟩ := List.mem_iff_getElem.1 hmem
    simp at hi
    have := h4 (e + i) (by omega) (by omega)
    simp [this]
  have a2 : (((S.map (·.1)).drop n).take (e - n)).filter (fun k => !klt k fr && !klt to k) = ((S.map (·.1)).drop n).take (e - n) := by
    rw [List.filter_eq_self]
    intro k hmem
    obtain ⟨i, hi, rfl⟩ := List.mem_iff_getElem.1 hmem
    simp at hi
    have b1 := hp.hi (n + i) (by omega) (by omega)
    have b2 := h3 (n + i) (by omega) (by omega) (by omega)
    simp [b1, b2]
  rw [a1, a2, a3]
  simp
theorem keys_range_get {S : Stl} {n e r : Nat} (he : e ≤ S.length) (hr : n + r < e) : (((S.map (·.1)).drop n).take (e - n))[r]? = some (S[n + r]'(by omega)).1 := by
  rw [List.getElem?_take, if_pos (by omega), List.getElem?_drop, List.getElem?_map, List.getElem?_eq_getElem (by omega)]
  rfl
theorem keys_range_len {S : Stl} {n e : Nat} (he : e ≤ S.length) (hn : n ≤ e) : (((S.map (·.1)).drop n).take (e - n)).length = e - n := by
  simp; omega
end Go.Sm
/- Stores as lists: purged. -/
set_option linter.unusedSimpArgs false
namespace Go.Sm
open Go
theorem cut_idem {c : List Ver} (hs : Srt c) (t : Int) : cutL (cutL c t) t = cutL c t := by
  obtain ⟨s, h1, h2⟩ := cut_start hs t
  have hsd : Srt (c.drop s) := List.Pairwise.sublist (List.drop_sublist s c) hs
  obtain ⟨s', h3, h4⟩ := cut_start hsd t
  rw [h1, h3]
  by_cases hl : s < c.length
  · have hl' : 0 < (c.drop s).length := by simp; omega
    have hk := (h2 s hl).2 (Nat.le_refl _)
    have h0 := (h4 0 hl').1 (by
      simp only [List.getElem_drop, Nat.add_zero]
      rcases hk with hk | ⟨hk1, hk2⟩
      · exact .inl hk
      · refine .inr ⟨fun ⟨hx, hy⟩ => hk1 ⟨by simp at hx; omega, by simpa [Nat.add_comm] using hy⟩, hk2⟩)
    have : s' = 0 := by omega
    rw [this, List.drop_zero]
  · have : c.drop s = [] := List.drop_of_length_le (by omega)
    rw [this]; simp
theorem cut_srt {c : List Ver} (hs : Srt c) (t : Int) : Srt (cutL c t) := by
  obtain ⟨s, h1, _⟩ := cut_start hs t
  rw [h1]
  exact List.Pairwise.sublist (List.drop_sublist s c) hs
theorem purge_mem {S : Stl} {t : Int} {s : ByteArray × List Ver} : s ∈ purgeS t S ↔ (∃ u ∈ S, cutS t u = s) ∧ s.2 ≠ [] := by
  unfold purgeS
  rw [List.mem_filter, List.mem_map]
  simp
theorem purge_srt {S : Stl} (h : ∀ s ∈ S, Srt s.2) (t : Int) : ∀ s ∈ purgeS t S, Srt s.2 := fun s hs => by
  obtain ⟨⟨u, hu, rfl⟩, _⟩ := purge_mem.1 hs
  exact cut_srt (h u hu) t
theorem purge_short {S : Stl} {N : Nat} (h : ∀ s ∈ S, s.2.length ≤ N) (t : Int) : ∀ s ∈ purgeS t S, s.2.length ≤ N := fun s hs => by
  obtain ⟨⟨u, hu, rfl⟩, _⟩ := purge_mem.1 hs
  exact Nat.le_trans (cut_len u.2 t) (h u hu)
theorem purge_llen (S : Stl) (t : Int) : (purgeS t S).length ≤ S.length := by
  unfold purgeS
  refine Nat.le_trans (List.length_filter_le _ _) ?_
  simp
theorem purge_ks {S : Stl} (h : KS S) (t : Int) : KS (purgeS t S) := by
  unfold purgeS KS
  refine List.Pairwise.filter _ ?_
  rw [List.pairwise_map]
  exact h
theorem purge_idem {S : Stl} (h : ∀ s ∈ S, Srt s.2) (t : Int) : purgeS t (purgeS t S) = purgeS t S := by
  have h1 : (purgeS t S).map (cutS t) = purgeS t S := by
    conv => rhs; rw [← List.map_id (purgeS t S)]
    refine List.map_congr_left fun s hs => ?_
    obtain ⟨⟨u, hu, rfl⟩, _⟩ := purge_mem.1 hs
    show (u.1, cutL (cutL u.2 t) t) = (u.1, cutL u.2 t)
    rw [cut_idem (h u hu)]
  unfold purgeS at h1 ⊢
  rw [h1, List.filter_filter]
  simp
theorem went_zero {S : Stl} (h : ∀ s ∈ S, Srt s.2) (t : Int) : wentS t (purgeS t S) = 0 := by
  have : ∀ T : Stl, (∀ s ∈ T, cutL s.2 t = s.2) → wentS t T = 0 := by
    intro T
    induction T with
    | nil => intro _; rfl
    | cons a T ih =>
      intro hT
      have h1 := ih fun s hs => hT s (by simp [hs])
      unfold wentS at h1 ⊢
      rw [List.map_cons, List.sum_cons, h1, hT a (by simp)]
      omega
  refine this _ fun s hs => ?_
  obtain ⟨⟨u, hu, rfl⟩, _⟩ := purge_mem.1 hs
  exact cut_idem (h u hu) t
theorem lens_le {S : Stl} {N : Nat} (h : ∀ s ∈ S, s.2.length ≤ N) : lensS S ≤ S.length * N := by
  induction S with
  | nil => simp [lensS]
  | cons a S ih =>
    have h1 := ih fun s hs => h s (by simp [hs])
    have h2 := h a (by simp)
    unfold lensS at h1 ⊢
    rw [List.map_cons, List.sum_cons, List.length_cons, Nat.succ_mul]
    omega
theorem sum_perm {l m : List Nat} (h : l.Perm m) : l.sum = m.sum := by
  induction h with
  | nil => rfl
  | cons a _ ih => rw [List.sum_cons, List.sum_cons, ih]
  | swap a b l => simp [List.sum_cons]; omega
  | trans _ _ ih1 ih2 => rw [ih1, ih2]
theorem setM_new {κ : Type} [DecidableEq κ] {k : κ} {v : Value} : ∀ {W : MlG κ}, (∀ p ∈ W, p.1 ≠ k) → setM W k v = W ++ [(k, v)]
  | [], _ => rfl
  | p :: W, h => by
    unfold setM
    rw [if_neg (h p (by simp)), setM_new fun q hq => h q (by simp [hq])]
    rfl
end Go.Sm
/- StoreMerge: the walk. -/
set_option linter.unusedVariables false
set_option linter.unusedSimpArgs false
namespace Go.Sm
open Go Go.Proofs
set_option maxRecDepth 100000
set_option maxHeartbeats 4000000
theorem law_StoreMerge (l m : List WW) (hok : ∀ x ∈ l, x.ok) (hokm : ∀ x ∈ m, x.ok) (v u : Value) (σ : CSt) (hn : gnone σ) (hz : 0 < σ.n) (hsl : Sl σ 75 4 encW v l) (hsm : Sl σ 75 4 encW u m) : W E1 (.fn 13 #[v, u] none) σ isTrueP := by
  rw [W_fn (fn := Tryz.f13) Tryz.func13 rfl rfl rfl]
  obtain ⟨p, c, rfl⟩ := hsl.form
  obtain ⟨p', c', rfl⟩ := hsm.form
  simp [wops_cons]
  rw [awake_spec rfl hn]
  simp [wops_cons]
  by_cases hl : 25 < l.length
  · have hl' : (25 : Int) < l.length := by omega
    simp [wops_cons, wops_if', dstOf, hl', isTrueP]
  have hl' : ¬ (25 : Int) < l.length := by omega
  by_cases hm : 25 < m.length
  · have hm' : (25 : Int) < m.length := by omega
    simp [wops_cons, wops_if', dstOf, hl', hm', isTrueP]
  have hm' : ¬ (25 : Int) < m.length := by omega
  simp [wops_cons, wops_if', dstOf, hl', hm']
  refine clone_75 l _ σ hsl (by omega) _ fun v5 σ1 ho1 g1 => ?_
  simp [wops_cons]
  have hhead : ∀ s, Grow σ s → Sl s 75 4 encW (.slice p' m.length c') m := fun s hs => hsm.grow hs
  refine W_loop_J (fun n a s => ∃ tm j vx, a = ⟨tm, 84, [], false⟩ ∧ tm.get 0 = some (.slice p l.length c) ∧ tm.get 5 = some vx ∧ tm.get 30 = some (.slice p' m.length c') ∧ tm.get 31 = some (.int .i64 m.length) ∧ tm.get 32 = some (.int .i64 (j : Nat)) ∧ j ≤ m.length ∧ n = m.length - j ∧ Own σ.n s 75 encW vx (l ++ newOf l (m.take j)) ∧ Grow σ s)
    (fun o s => ∃ tm vx, o = .code (.exit 0) ⟨tm, 84, [], false⟩ ∧ tm.get 0 = some (.slice p l.length c) ∧ tm.get 5 = some vx ∧ Own σ.n s 75 encW vx (l ++ newOf l m) ∧ Grow σ s) ?_ m.length _ _ ?_ ?_
  · rintro n a s ⟨tm, j, vx, rfl, e0, e5, e30, e31, e32, hj, hnn, hov, gs⟩
    by_cases hjl : j < m.length
    · obtain ⟨px, cx, rfl⟩ := (hov.sl (sz := 4) lenW).form
      obtain ⟨i, off, row, ro, rfl, hg, hin, hrow, hle⟩ := (hsm.grow gs).at hjl
      have hld := row_get (enc := encW) lenW hrow j hjl
      have hl1 := row_le hle j hjl
      have hw2 := i64n1 j (by omega)
      have hjl' : (j : Int) < m.length := by omega
      have htk := newOf_take (l := l) hjl
      have hnl := newOf_len l (m.take j)
      have hmj := hokm _ (List.getElem_mem hjl)
      have hg7 : Grow s ((s.alloc (.cells [.int .u8 0, .int .u8 0, .int .u8 0, .bool false] 75 false)).put s.n (.cells (encW m[j]) 75 false)) := ((Grow.refl s).alloc _).put (Nat.le_refl _) _
      have hc7 : ((s.alloc (.cells [.int .u8 0, .int .u8 0, .int .u8 0, .bool false] 75 false)).put s.n (.cells (encW m[j]) 75 false)).get s.n = some (.cells (encW m[j]) 75 false) := by simp
      have hn7 : ((s.alloc (.cells [.int .u8 0, .int .u8 0, .int .u8 0, .bool false] 75 false)).put s.n (.cells (encW m[j]) 75 false)).n = s.n + 1 := by simp
      simp [wops_cons, e0, e5, e30, e31, e32, hjl, hjl', hg, hld, hl1]
      simp only [encW] at hg7 hc7 hn7
      simp [wops_cons, encW, e0, e5, e30, e31, e32]
      generalize (s.alloc (.cells [.int .u8 0, .int .u8 0, .int .u8 0, .bool false] 75 false)).put s.n (.cells [.int .u8 m[j].key, .int .u8 m[j].v.at_, .int .u8 m[j].v.v, .bool m[j].v.gone] 75 false) = s1 at hg7 hc7 hn7 ⊢
      have gs1 := gs.trans hg7
      refine hasW_spec s.n m[j] hmj l hok _ s1 hc7 (by omega) (hsl.grow gs1) (by omega) _ fun s2 g2 => ?_
      have gs2 := gs1.trans g2
      have hc72 := g2.get hc7 (by omega)
      have hn2 := g2.n
      have hov2 := hov.grow (hg7.trans g2)
      have hlen : (l ++ newOf l (m.take j)).length ≤ 50 := by
        rw [List.length_append]
        rw [List.length_take] at hnl
        omega
      by_cases hh : ∃ w ∈ l, sameW m[j] w
      · rw [if_pos hh, List.append_nil] at htk
        simp [wops_cons, hh, e0, e5, e30, e31, e32, hw2]
        rw [List.length_append] at hov2
        exact ⟨n - 1, by omega, j + 1, rfl, by omega, by omega, by rw [htk]; exact hov2, gs2⟩
      · rw [if_neg hh] at htk
        have hga : Grow s2 (s2.alloc (.cells (encW m[j]) 75 false)) := (Grow.refl s2).alloc _
        obtain ⟨v9, s3, a1, a2, a3, a4, a5⟩ := append_only (P := Tryz.prog) (ts := #[50, 50]) (e := 75) (sz := 4) (enc := encW) (l := l ++ newOf l (m.take j)) (m := [m[j]]) (b := σ.n) ef50 (by simp) lenW cokW rfl (by decide) (by decide) rfl (σ := s2.alloc (.cells (encW m[j]) 75 false))
          (hov2.grow hga) (by have := gs2.n; simp; omega) (Sl.all (l := [m[j]]) (i := s2.n) (cap := 1) (ro := false) lenW (by simp) (by simp) (.inr ⟨by simp, by simp [openCap]⟩)) (by show (_ + 1) * 4 ≤ _; omega) (by omega)
        rw [List.append_assoc, ← htk] at a2
        have gs3 : Grow σ s3 := ⟨by have := a3.1; simp at this; have := gs2.n; omega, fun i hi => by rw [a3.2 i hi, hga.old i (by have := gs2.n; omega), gs2.old i hi]⟩
        obtain ⟨p9, c9, rfl⟩ := (a2.sl (sz := 4) lenW).form
        have a1' : appendOp Tryz.prog (s2.alloc (.cells (encW m[j]) 75 false)) #[50, 50] (.slice px (l ++ newOf l (m.take j)).length cx) (.slice (some ⟨s2.n, 0, none⟩) 1 1) = some (.slice p9 (l ++ newOf l (m.take (j + 1))).length c9, s3) := a1
        generalize (l ++ newOf l (m.take j)).length = n0 at a1' e5
        generalize hL1 : (l ++ newOf l (m.take (j + 1))).length = n1 at a1' a2
        simp only [encW] at a1'
        have hne : ¬ s.n = s2.n := by omega
        simp [wops_cons, hh, e0, e5, e30, e31, e32, hw2, hc72, a1']
        exact ⟨n - 1, by omega, j + 1, rfl, by omega, by omega, a2, gs3⟩
    · have hjl' : j = m.length := by omega
      subst hjl'
      rw [List.take_of_length_le (Nat.le_refl _)] at hov
      simp [wops_cons, e0, e5, e30, e31, e32]
      exact ⟨hov, gs⟩
  · refine ⟨_, 0, v5, rfl, ?_⟩
    simp [newOf]
    exact ⟨ho1, g1⟩
  · rintro o s ⟨tm, vx, rfl, e0, e5, hov, gs⟩
    simp [wops_cons, e0, e5]
    have hnl := newOf_len l m
    have hlen : (l ++ newOf l m).length ≤ 50 := by rw [List.length_append]; omega
    have hokx : ∀ w ∈ l ++ newOf l m, w.ok := fun w hw => (List.mem_append.1 hw).elim (hok w) (newOf_ok hokm w)
    refine make_store _ hokx vx s (hov.sl lenW) (by omega) _ fun i1 m1 S1 M1 σ2 hS1 hst1 hmp1 hmr1 hm1 hm1n g2 => ?_
    simp [wops_cons, e0, e5]
    have hov2 := hov.grow g2
    obtain ⟨pt, ct, t1, t2⟩ := slice_tail hov2 l.length (by simp)
    obtain ⟨ph, ch, h1, h2⟩ := slice_head hov2 l.length (by simp)
    rw [List.drop_left] at t1 t2
    rw [List.take_left] at h1 h2
    refine W_calm (by kernel_rfl) ?_
    simp [dops_cons, e0, e5, t1, h1]
    have ga : Grow σ2 (σ2.alloc (.cells [.slice pt (newOf l m).length ct, .slice ph l.length ch] 50 false)) := (Grow.refl σ2).alloc _
    refine concatW_all (newOf l m) l _ _ _ σ2.n (by simp) (by simp) (t2.grow ga) (h2.grow ga) (by omega) _ fun v3 σ3 ho3 g3 => ?_
    simp [dops_cons]
    have hlen2 : (newOf l m ++ l).length ≤ 50 := by rw [List.length_append] at hlen ⊢; omega
    have hokx2 : ∀ w ∈ newOf l m ++ l, w.ok := fun w hw => (List.mem_append.1 hw).elim (newOf_ok hokm w) (hok w)
    refine make_store _ hokx2 v3 σ3 (ho3.sl lenW) (by omega) _ fun i2 m2 S2 M2 σ4 hS2 hst2 hmp2 hmr2 hm2 hm2n g4 => ?_
    obtain rfl : S1 = S2 := merge_store hS1 hS2
    have hS1l := hS1.len
    have hsh : ∀ u ∈ S1, u.2.length ≤ 50 := fun u hu => by have := hS1.short u hu; omega
    have hlens := lens_le hsh
    have hlens2 : lensS S1 ≤ 50 * 50 := Nat.le_trans hlens (Nat.mul_le_mul (by omega) (Nat.le_refl _))
    have g24 := (ga.trans g3).trans g4
    have hst1' := hst1.grow g24
    simp [dops_cons, wops_cons]
    refine flat41 _ i1 S1 σ4 hst1' (by omega) (by omega) (fun u hu => by have := hsh u hu; omega) _ fun v6 v7 σ5 hk1 hv1 g5 => ?_
    simp [wops_cons]
    refine flat41 _ i2 S1 σ5 (hst2.grow g5) (by omega) (by omega) (fun u hu => by have := hsh u hu; omega) _ fun v8 v9 σ6 hk2 hv2 g6 => ?_
    simp [wops_cons]
    refine equal_keys _ _ v6 v8 σ6 (hk1.grow g6) hk2 (by rw [List.length_map]; omega) _ fun σ7 g7 => ?_
    simp [wops_cons, wops_if', dstOf]
    refine equal_chv _ _ v7 v9 σ7 ((hv1.grow g6).grow g7) (hv2.grow g7) (by rw [lensS_flat]; omega) _ fun σ8 g8 => ?_
    simp [wops_cons, wops_if', dstOf, isTrueP]
end Go.Sm
/- Rows of keys' versions among the arguments. -/
set_option linter.unusedVariables false
namespace Go.Sm
open Go Go.Proofs
theorem okW_of (r : List Value) (h : OkL [.int .u8, .int .u8, .int .u8, .bool] r) : ∃ x : WW, x.ok ∧ r = encW x := by
  match r, h with
  | [d, a, b, c], ⟨⟨k, hd, hk⟩, ⟨n, ha, hn⟩, ⟨m, hb, hm⟩, ⟨g, hc⟩, _⟩ =>
    subst ha; subst hb; subst hc; subst hd
    simp only [Lit.wf, Bool.and_eq_true, decide_eq_true_eq] at hn hm hk
    have e1 : IntKind.u8.min = 0 := rfl
    have e2 : IntKind.u8.max = 255 := rfl
    rw [e1, e2] at hn hm hk
    exact ⟨⟨k, ⟨n, m, g⟩⟩, by simp only [WW.ok, VV.ok]; omega, rfl⟩
end Go.Sm
