/- Part B of the proof. -/
import Derived.Orders
import Derived.Test.YtkcljmaklingoaaGreatDoorPartA
/- One operation: all kinds together. -/
set_option linter.unusedVariables false
set_option linter.unusedSimpArgs false
namespace Go.Sm
open Go

theorem capOp_cases {P : Program} {σ : CSt} {ts : Array TypeId} {i off n : Nat} : capOp P σ ts i off n = .fail ∨ ∃ p k, capOp P σ ts i off n = .every p k := by
  unfold capOp
  repeat' split
  all_goals first | exact .inl rfl | exact .inr ⟨_, _, rfl⟩

theorem capOp_not {P : Program} {σ σ' : CSt} {ts : Array TypeId} {i off n : Nat} {v : Value} : capOp P σ ts i off n ≠ .val v σ' := by
  rcases capOp_cases (P := P) (σ := σ) (ts := ts) (i := i) (off := off) (n := n) with h1 | ⟨p1, kk, h1⟩ <;> rw [h1] <;> simp

section
variable {P : Program} {ρ : Rho} {σ : CSt} {w : World}

theorem VR.funcF {f : FuncId} {as0 cs : Array Value} {v : Value} (h : VR ρ (.func (.func f) as0 cs) v) : ∃ bs ds, v = .func (.func f) bs ds ∧ AsR ρ as0 bs ∧ AsR ρ cs ds := by
  cases h with
  | plain v hf => simp [flat0] at hf
  | func _ g _ bs _ ds hf h1 h2 h3 h4 => cases hf; exact ⟨bs, ds, rfl, ⟨h1, h2⟩, ⟨h3, h4⟩⟩
theorem VR.funcY {l : Nat} {as0 cs : Array Value} {v : Value} (h : VR ρ (.func (.yield l) as0 cs) v) : ∃ p bs ds, ρ l = some p ∧ v = .func (.yield p.b) bs ds ∧ AsR ρ as0 bs ∧ AsR ρ cs ds := by
  cases h with
  | plain v hf => simp [flat0] at hf
  | func _ g _ bs _ ds hf h1 h2 h3 h4 =>
    cases hf with
    | same _ hn => exact absurd rfl (hn _)
    | yield _ p hp => exact ⟨p, bs, ds, hp, rfl, ⟨h1, h2⟩, ⟨h3, h4⟩⟩
theorem VR.tupleS {vs : Array Value} {v : Value} (h : VR ρ (.tuple vs) v) : vs = #[] ∨ ∃ ws, v = .tuple ws ∧ AsR ρ vs ws := by
  cases h with
  | junk => exact .inl rfl
  | plain v hf => simp [flat0] at hf
  | tuple _ ws h1 h2 => exact .inr ⟨ws, rfl, h1, h2⟩

theorem OpOk.of_v {s : Sem Value} {v : Value} {σ' : CSt} (h : VOk P ρ σ w s v σ') : OpOk P ρ σ w ((do pure (Next.value (← s)) : Sem Next).run P w) v σ' := by
  obtain ⟨v', ρ', w', h1, h2, h3, h4⟩ := h
  exact ⟨_, v', ρ', w', by simp only [Sem.run_bind, h1, Result.andThen_ok, Sem.run_pure], .inl rfl, h2, h3, h4⟩
theorem OpOk.of_r (h : R P ρ σ w) {s : Sem Value} {v : Value} (hs : ∃ v', s.run P w = .ok v' w ∧ VR ρ v v') : OpOk P ρ σ w ((do pure (Next.value (← s)) : Sem Next).run P w) v σ := by
  obtain ⟨v', h1, h2⟩ := hs
  exact .of_v ⟨v', ρ, w, h1, h, h2, Frm.refl ..⟩
theorem OpOk.of_u {s : Sem Unit} {σ' : CSt} (hs : ∃ w', s.run P w = .ok () w' ∧ R P ρ σ' w' ∧ Frm ρ σ w ρ σ' w') : OpOk P ρ σ w ((do s; pure Next.skip : Sem Next).run P w) undef σ' := by
  obtain ⟨w', h1, h2, h3⟩ := hs
  exact ⟨_, undef, ρ, w', by simp only [Sem.run_bind, h1, Result.andThen_ok, Sem.run_pure], .inr ⟨rfl, rfl⟩, h2, .junk _, h3⟩

theorem ofV_val {x : Option Value} {σ σ' : CSt} {v : Value} (h : OpR.ofV σ x = .val v σ') : x = some v ∧ σ' = σ := by
  cases x <;> simp [OpR.ofV] at h; exact ⟨by rw [h.1], h.2.symm⟩
theorem ofP_val {x : Option (Value × CSt)} {σ' : CSt} {v : Value} (h : OpR.ofP x = .val v σ') : x = some (v, σ') := by
  cases x <;> simp [OpR.ofP] at h; rw [← h.1, ← h.2]
theorem ofS_val {x : Option CSt} {σ' : CSt} {v : Value} (h : OpR.ofS x = .val v σ') : x = some σ' ∧ v = undef := by
  cases x <;> simp [OpR.ofS] at h; exact ⟨by rw [h.2], h.1.symm⟩
theorem or_val {a b : OpR} {σ' : CSt} {v : Value} (h : a.or b = .val v σ') : a = .val v σ' ∨ (a = .fail ∧ b = .val v σ') := by
  cases a <;> simp [OpR.or] at h ⊢ <;> exact h

theorem OptR.of_map {ev ev' : Operand → Value} (o : Option Operand) (h : ∀ x, o = some x → VR ρ (ev x) (ev' x)) : OptR ρ (o.map ev) (o.map ev') := by
  cases o with
  | none => trivial
  | some x => exact h x rfl
theorem AsR.of_map {ev ev' : Operand → Value} (as0 : Array Operand) (h : ∀ x ∈ as0, VR ρ (ev x) (ev' x)) : AsR ρ (as0.map ev) (as0.map ev') :=
  ⟨by simp, fun i u v => by simp only [Array.getElem_map]; exact h _ (by simp)⟩

theorem callOp_val (h : R P ρ σ w) {ev ev' : Operand → Value} {o : Oper} {c : Call} (hop : o.op = .call c) (he : ∀ x ∈ o.op.operands, VR ρ (ev x) (ev' x)) {v : Value} {σ' : CSt}
    (ha : callOp P σ ev o c = .val v σ') : OpOk P ρ σ w ((execOp ev' o).run P w) v σ' := by
  have hflat : ∀ {v σ'}, flatOp P σ ev o = .val v σ' → OpOk P ρ σ w ((execOp ev' o).run P w) v σ' := fun hf => flatOp_sound h (by rw [hop]; intros; simp) he hf
  unfold callOp at ha
  split at ha
  · cases ha
  · cases ha
  · rename_i b hb
    have hargs : ∀ (n : Nat) (l : List Value), (c.args.map ev).toList = l → AsR ρ (c.args.map ev) (c.args.map ev') := fun _ _ _ => AsR.of_map _ fun x hx => he x (by rw [hop]; simp [Op.operands, Call.operands, hb, hx])
    have hrel := (hargs 0 _ rfl).toList
    -- the model's call
    have hex : execOp ev' o = Go.builtin b c.argTypes o.type (c.args.map fun | .const _ => true | _ => false) (c.args.map ev') := by
      simp only [execOp, hop, resolve, hb]
      rfl
    have one : ∀ {x}, (c.args.map ev).toList = [x] → ∃ x', (c.args.map ev') = #[x'] ∧ VR ρ x x' := by
      intro x hx
      rw [hx] at hrel
      have hl := hrel.1
      match hy : (c.args.map ev').toList, hl with
      | [x'], _ =>
        rw [hy] at hrel
        exact ⟨x', by rw [← Array.toArray_toList (xs := c.args.map ev'), hy], hrel.head⟩
    have two : ∀ {x y}, (c.args.map ev).toList = [x, y] → ∃ x' y', (c.args.map ev') = #[x', y'] ∧ VR ρ x x' ∧ VR ρ y y' := by
      intro x y hx
      rw [hx] at hrel
      have hl := hrel.1
      match hy : (c.args.map ev').toList, hl with
      | [x', y'], _ =>
        rw [hy] at hrel
        exact ⟨x', y', by rw [← Array.toArray_toList (xs := c.args.map ev'), hy], hrel.head, hrel.tail.head⟩
    split at ha
    · rename_i x hx
      obtain ⟨x', hx', hxr⟩ := one hx
      obtain ⟨ha2, rfl⟩ := ofV_val ha
      rw [hex, hx']
      exact OpOk.of_r h ⟨v, (lenOp_sound h hxr ha2)⟩
    · rename_i s x hx
      obtain ⟨s', x', hx', hsr, hxr⟩ := two hx
      rw [hex, hx']
      exact OpOk.of_v (appendOp_sound h hsr hxr (ofP_val ha))
    · rename_i d s hx
      obtain ⟨d', s', hx', hdr, hsr⟩ := two hx
      rw [hex, hx']
      exact OpOk.of_v (copyOp_sound h hdr hsr (ofP_val ha))
    · rename_i x hx
      obtain ⟨x', hx', hxr⟩ := one hx
      rw [hex, hx']
      exact OpOk.of_v (clearOp_sound h hxr (ofP_val ha))
    · rename_i m k hx
      obtain ⟨m', k', hx', hmr, hkr⟩ := two hx
      rw [hex, hx']
      obtain ⟨ha2, rfl⟩ := ofS_val ha
      obtain ⟨w', h1, h2, h3⟩ := deleteOp_sound h hmr hkr ha2 (ty := o.type)
      exact OpOk.of_v ⟨undef, ρ, w', h1, h2, .junk _, h3⟩
    · exact hflat ha
    · rename_i i off n k hx
      split at ha
      · rcases capOp_cases (P := P) (σ := σ) (ts := c.argTypes) (i := i) (off := off) (n := n) with h1 | ⟨p1, kk, h1⟩
        · rw [h1] at ha; cases ha
        · rw [h1] at ha; cases ha
      · rename_i hk
        split at ha
        · rename_i t h0
          split at ha
          · rename_i e hu
            cases ha
            obtain ⟨x', hx', hxr⟩ := one hx
            rw [hex, hx']
            have : ∃ b, x' = .slice b n k := by
              cases hxr with
              | plain v hf => exact ⟨_, rfl⟩
              | slc => exact ⟨_, rfl⟩
              | slo => exact absurd rfl hk
              | sle => exact absurd rfl hk
              | slz => exact ⟨_, rfl⟩
            obtain ⟨b, rfl⟩ := this
            exact OpOk.of_r h ⟨.int .i64 k, by simp [Builtin.cap_, h0, run_underlying hu, goInt], .plain _ rfl⟩
          · cases ha
        · cases ha
    · cases ha
    · exact hflat ha
    · exact hflat ha
    · exact hflat ha
    · exact hflat ha
    · exact hflat ha
    · cases ha

theorem cop_val (h : R P ρ σ w) {ev ev' : Operand → Value} {o : Oper} (he : ∀ x ∈ o.op.operands, VR ρ (ev x) (ev' x)) {v : Value} {σ' : CSt}
    (ha : cop P σ ev o = .val v σ') : OpOk P ρ σ w ((execOp ev' o).run P w) v σ' := by
  have hflat : (∀ cs b, o.op ≠ .select cs b) → ∀ {v σ'}, flatOp P σ ev o = .val v σ' → OpOk P ρ σ w ((execOp ev' o).run P w) v σ' := fun hs _ _ hf => flatOp_sound h hs he hf
  unfold cop at ha
  split at ha
  all_goals try (rename_i hop; rw [hop] at he)
  · cases ha
    refine .same h ?_ (he _ (by simp [Op.operands]))
    simp only [execOp, hop]; rfl
  · cases ha
    refine .same h ?_ (he _ (by simp [Op.operands]))
    simp only [execOp, hop]; rfl
  · rename_i c a b
    split at ha
    · rename_i t ht
      cases ha
      have hc := he c (by simp [Op.operands])
      rw [ht] at hc
      refine .same h (v' := if t then ev' a else ev' b) ?_ ?_
      · simp only [execOp, hop, hc.bool, asBool]; rfl
      · cases t
        · exact he _ (by simp [Op.operands])
        · exact he _ (by simp [Op.operands])
    · cases ha
  · simp only [execOp, hop]
    exact OpOk.of_v (allocOp_sound h (ofP_val ha))
  · rename_i e x
    split at ha
    · rename_i hc
      cases ha
      simp only [execOp, hop]
      exact OpOk.of_v (box_sound h e (he _ (by simp [Op.operands])) hc)
    · cases ha
  · rename_i t parts
    obtain ⟨ha2, rfl⟩ := ofV_val ha
    simp only [execOp, hop]
    exact OpOk.of_r h (buildOp_sound (PsR.of_map parts fun p hp => he p.2 (by simp [Op.operands]; exact ⟨p.1, hp⟩)) ha2 w)
  · rename_i t len parts
    simp only [execOp, hop]
    exact OpOk.of_v (buildSliceOp_sound h (PsR.of_map parts fun p hp => he p.2 (by simp [Op.operands]; exact ⟨p.1, hp⟩)) (ofP_val ha))
  · rename_i t a
    obtain ⟨ha2, rfl⟩ := ofV_val ha
    simp only [execOp, hop]
    exact OpOk.of_r h (load_sound h (he _ (by simp [Op.operands])) ha2)
  · rename_i t a x
    obtain ⟨ha2, rfl⟩ := ofS_val ha
    simp only [execOp, hop]
    exact OpOk.of_u (store_sound h (he _ (by simp [Op.operands])) (he _ (by simp [Op.operands])) ha2)
  · rename_i x
    have hx := he x (by simp [Op.operands])
    split at ha
    · rename_i a hxa
      cases ha
      rw [hxa] at hx
      obtain ⟨a', ha'⟩ := hx.ptrS
      refine .same h (v' := ev' x) ?_ hx
      simp only [execOp, hop, ha']; rfl
    · rename_i f fs cs hxa
      cases ha
      rw [hxa] at hx
      obtain ⟨bs, ds, hx', _⟩ := hx.funcF
      refine .same h (v' := ev' x) ?_ hx
      simp only [execOp, hop, hx']; rfl
    · rename_i f fs cs hxa
      cases ha
      rw [hxa] at hx
      obtain ⟨p, bs, ds, _, hx', _⟩ := hx.funcY
      refine .same h (v' := ev' x) ?_ hx
      simp only [execOp, hop, hx']; rfl
    · rename_i t u hxa
      cases ha
      rw [hxa] at hx
      obtain ⟨u', hx', _⟩ := hx.ifaceS
      refine .same h (v' := ev' x) ?_ hx
      simp only [execOp, hop, hx']; rfl
    · cases ha
  · rename_i op t x y u
    split at ha
    · rename_i v0 hn
      cases ha
      obtain ⟨h1, h2⟩ := isNilCmp_sound (ox := x) (oy := y) (he x (by simp [Op.operands])) (he y (by simp [Op.operands])) hn w
      simp only [execOp, hop]
      exact OpOk.of_r h ⟨_, h1, h2⟩
    · exact hflat (by rw [hop]; simp) ha
  · exact hflat (by rw [hop]; simp) ha
  · rename_i src dst x
    rcases or_val ha with ha | ⟨_, ha⟩
    · simp only [execOp, hop]
      exact OpOk.of_v (convertOp_sound h (he _ (by simp [Op.operands])) ha)
    · exact hflat (by rw [hop]; simp) ha
  · rename_i t x
    have hx := he x (by simp [Op.operands])
    split at ha
    · cases ha
    · cases ha
    · rename_i d hni hd
      cases ha
      simp only [execOp, hop]
      refine OpOk.of_r h ⟨.iface t (ev' x), ?_, .iface _ _ _ hx⟩
      cases d <;> first | exact absurd rfl (hni _) | simp [Instr.makeInterface, run_underlying hd]
  · rename_i fn first captured
    split at ha
    · cases ha
    · rename_i hy
      cases ha
      simp only [execOp, hop]
      have h1 := AsR.of_map first fun x hx => he x (by simp [Op.operands, hx])
      have h2 := AsR.of_map captured fun x hx => he x (by simp [Op.operands, hx])
      refine OpOk.of_r h ⟨.func fn (first.map ev') (captured.map ev'), rfl, .func _ _ _ _ _ _ (.same _ fun l e => ?_) h1.1 h1.2 h2.1 h2.2⟩
      subst e
      exact hy l rfl
  · rename_i t
    split at ha
    · rename_i kt et hu
      cases ha
      simp only [execOp, hop]
      obtain ⟨r1, r2⟩ := h.newObj (o := .map #[] 0) (o' := .map #[] 0) (fun ρ' _ w' hw => ⟨#[], hw, rfl, fun i u => by simp at u⟩)
      exact OpOk.of_v ⟨_, _, _, by simp [Instr.makeMap], r1, .map σ.n ⟨w.heap.size, 0, 0, 0⟩ (Rho.set_self ..), r2⟩
    · cases ha
  · rename_i t r
    split at ha
    · rename_i kt et k n hu hr
      cases ha
      have hx := he r (by simp [Op.operands])
      rw [hr] at hx
      simp only [execOp, hop, Option.map_some, hx.int]
      obtain ⟨r1, r2⟩ := h.newObj (o := .map #[] 0) (o' := .map #[] 0) (fun ρ' _ w' hw => ⟨#[], hw, rfl, fun i u => by simp at u⟩)
      exact OpOk.of_v ⟨_, _, _, by simp [Instr.makeMap, run_underlying hu, asInt, asIntOf], r1, .map σ.n ⟨w.heap.size, 0, 0, 0⟩ (Rho.set_self ..), r2⟩
    · cases ha
  · rename_i t l c
    simp only [execOp, hop]
    exact OpOk.of_v (makeSliceOp_sound h (he _ (by simp [Op.operands])) (he _ (by simp [Op.operands])) (ofP_val ha))
  · rename_i t x lo hi mx
    rcases or_val ha with ha | ⟨_, ha⟩
    · obtain ⟨ha2, rfl⟩ := ofV_val ha
      simp only [execOp, hop]
      refine OpOk.of_r h (sliceOp_sound h (he _ (by simp [Op.operands])) (OptR.of_map lo fun y hy => he y (by simp [Op.operands, hy])) (OptR.of_map hi fun y hy => he y (by simp [Op.operands, hy])) (OptR.of_map mx fun y hy => he y (by simp [Op.operands, hy])) ha2)
    · exact hflat (by rw [hop]; simp) ha
  · obtain ⟨ha2, rfl⟩ := ofV_val ha
    simp only [execOp, hop]
    exact OpOk.of_r h (fieldAt_sound (he _ (by simp [Op.operands])) ha2)
  · obtain ⟨ha2, rfl⟩ := ofV_val ha
    simp only [execOp, hop]
    exact OpOk.of_r h (fieldOf_sound (he _ (by simp [Op.operands])) ha2)
  · obtain ⟨ha2, rfl⟩ := ofV_val ha
    simp only [execOp, hop]
    exact OpOk.of_r h (indexAt_sound (he _ (by simp [Op.operands])) (he _ (by simp [Op.operands])) ha2)
  · exact hflat (by rw [hop]; simp) ha
  · obtain ⟨ha2, rfl⟩ := ofV_val ha
    simp only [execOp, hop]
    exact OpOk.of_r h (lookupOp_sound h (he _ (by simp [Op.operands])) (he _ (by simp [Op.operands])) ha2)
  · obtain ⟨ha2, rfl⟩ := ofS_val ha
    simp only [execOp, hop]
    exact OpOk.of_u (updateOp_sound h (he _ (by simp [Op.operands])) (he _ (by simp [Op.operands])) (he _ (by simp [Op.operands])) ha2)
  · obtain ⟨ha2, rfl⟩ := ofS_val ha
    simp only [execOp, hop]
    exact OpOk.of_u (updateOp_sound h (he _ (by simp [Op.operands])) (he _ (by simp [Op.operands])) (he _ (by simp [Op.operands])) ha2)
  · simp only [execOp, hop]
    exact OpOk.of_v (rangeOp_sound h (he _ (by simp [Op.operands])) (ofP_val ha))
  · simp only [execOp, hop]
    exact OpOk.of_v (nextOp_val h (he _ (by simp [Op.operands])) ha)
  · obtain ⟨ha2, rfl⟩ := ofV_val ha
    simp only [execOp, hop]
    exact OpOk.of_r h (entryOp_sound h (he _ (by simp [Op.operands])) ha2)
  · obtain ⟨ha2, rfl⟩ := ofV_val ha
    simp only [execOp, hop]
    exact OpOk.of_r h (assertOp_sound (he _ (by simp [Op.operands])) ha2 w)
  · rename_i t i
    split at ha
    · rename_i vs hvs
      obtain ⟨ha2, rfl⟩ := ofV_val ha
      have hx := he t (by simp [Op.operands])
      rw [hvs] at hx
      simp only [execOp, hop]
      rcases hx.tupleS with rfl | ⟨ws, hw, hr⟩
      · simp at ha2
      · obtain ⟨v', e1, e2⟩ := hr.getElem? ha2
        refine OpOk.of_r h ⟨v', ?_, e2⟩
        rw [hw]
        simp [Instr.extract, e1]
    · cases ha
  · exact callOp_val h hop (by rw [hop]; exact he) ha
  · split at ha
    · split at ha <;> cases ha
    · cases ha
  · split at ha <;> cases ha
  · cases ha
end
end Go.Sm
/- One operation: calls, panics, deferred calls, picks, recover. -/
set_option linter.unusedVariables false
set_option linter.unusedSimpArgs false
namespace Go.Sm
open Go

def OpR.vf : OpR → Prop
  | .val _ _ | .fail => True
  | _ => False
theorem vf_ofV {σ : CSt} {x : Option Value} : (OpR.ofV σ x).vf := by cases x <;> trivial
theorem vf_ofP {x : Option (Value × CSt)} : (OpR.ofP x).vf := by cases x <;> trivial
theorem vf_ofS {x : Option CSt} : (OpR.ofS x).vf := by cases x <;> trivial
theorem vf_flat {P : Program} {σ : CSt} {ev : Operand → Value} {o : Oper} : (flatOp P σ ev o).vf := by
  unfold flatOp
  split
  · split
    · split <;> trivial
    · trivial
  · trivial
theorem vf_or {a b : OpR} (h : a.vf) (k : b.vf) : (a.or b).vf := by cases a <;> simp_all [OpR.or, OpR.vf]
theorem vf_convert {P : Program} {σ : CSt} {s d : TypeId} {x : Value} : (convertOp P σ s d x).vf := by
  unfold convertOp
  repeat' split
  all_goals trivial

def OpR.inv (P : Program) (σ : CSt) (ev : Operand → Value) (o : Oper) : OpR → Prop
  | .val _ _ | .fail => True
  | .pick n k => ∃ it s, o.op = .next it s ∧ nextOp σ (ev it) s = .pick n k
  | .every p k => ∃ c i off n, o.op = .call c ∧ c.callee = .builtin .cap ∧ (c.args.map ev).toList = [.slice (some ⟨i, off, none⟩) n openCap] ∧ capOp P σ c.argTypes i off n = .every p k
  | .call fv args => ∃ c f, o.op = .call c ∧ c.callee = .value f ∧ fv = ev f ∧ args = c.args.map ev
  | .panic v => ∃ x t u, o.op = .panic x ∧ ev x = .iface t u ∧ v = .iface t u
  | .defer d => ∃ c f g fs cs, o.op = .defer c ∧ c.callee = .value f ∧ ev f = .func (.func g) fs cs ∧ d = ⟨.func (.func g) fs cs, c.args.map ev⟩
  | .recover => ∃ c, o.op = .call c ∧ c.callee = .builtin .recover ∧ c.args = #[]
theorem inv_of_vf {P : Program} {σ : CSt} {ev : Operand → Value} {o : Oper} {r : OpR} (h : r.vf) : r.inv P σ ev o := by cases r <;> simp_all [OpR.vf, OpR.inv]

theorem callOp_inv {P : Program} {σ : CSt} {ev : Operand → Value} {o : Oper} {c : Call} (hop : o.op = .call c) : (callOp P σ ev o c).inv P σ ev o := by
  unfold callOp
  split
  · rename_i f hf
    exact ⟨c, f, hop, hf, rfl, rfl⟩
  · trivial
  · rename_i b hb
    split
    all_goals first | exact inv_of_vf vf_ofV | exact inv_of_vf vf_ofP | exact inv_of_vf vf_ofS | exact inv_of_vf vf_flat | trivial | skip
    · rename_i i off n k hx
      split
      · rename_i hk
        rcases capOp_cases (P := P) (σ := σ) (ts := c.argTypes) (i := i) (off := off) (n := n) with h | ⟨p, kk, h⟩
        · rw [h]; trivial
        · rw [h]; exact ⟨c, i, off, n, hop, hb, by rw [hx, hk], h⟩
      · split
        · split <;> trivial
        · trivial
    · rename_i hx
      refine ⟨c, hop, hb, ?_⟩
      have : (c.args.map ev).size = 0 := by rw [← Array.length_toList, hx]; rfl
      apply Array.eq_empty_of_size_eq_zero
      simpa using this

theorem cop_inv (P : Program) (σ : CSt) (ev : Operand → Value) (o : Oper) : (cop P σ ev o).inv P σ ev o := by
  unfold cop
  split
  all_goals first | exact inv_of_vf vf_ofV | exact inv_of_vf vf_ofP | exact inv_of_vf vf_ofS | exact inv_of_vf vf_flat | exact inv_of_vf (vf_or vf_convert vf_flat) | exact inv_of_vf (vf_or vf_ofV vf_flat) | trivial | skip
  all_goals try (split <;> first | exact inv_of_vf vf_ofV | exact inv_of_vf vf_flat | trivial)
  · rename_i it s hop
    generalize hn : nextOp σ (ev it) s = r
    cases r with
    | pick n k => exact ⟨it, s, hop, hn⟩
    | val v σ' => trivial
    | fail => trivial
    | _ =>
      exfalso
      unfold nextOp at hn
      split at hn
      · split at hn
        · split at hn <;> cases hn
        · cases hn
        · split at hn
          · split at hn <;> cases hn
          · cases hn
        · cases hn
      · cases hn
  · rename_i c hop
    exact callOp_inv hop
  · rename_i c hop
    split
    · rename_i f hf
      split
      · rename_i g fs cs hg
        exact ⟨c, f, g, fs, cs, hop, hf, hg, rfl⟩
      · trivial
    · trivial
  · rename_i x hop
    split
    · rename_i t u hx
      exact ⟨x, t, u, hop, hx, rfl⟩
    · trivial

section
variable {P : Program} {ρ : Rho} {σ : CSt} {w : World}

theorem cop_pick (h : R P ρ σ w) {ev ev' : Operand → Value} {o : Oper} (he : ∀ x ∈ o.op.operands, VR ρ (ev x) (ev' x)) {n : Nat} {k : Nat → Value × CSt}
    (ha : cop P σ ev o = .pick n k) : ∃ j, (n ≤ 1 → j = 0) ∧ (1 < n → j < n) ∧ OpOk P ρ σ w ((execOp ev' o).run P w) (k j).1 (k j).2 := by
  have := cop_inv P σ ev o
  rw [ha] at this
  obtain ⟨it, s, hop, hn⟩ := this
  obtain ⟨j, h1, h2, h3⟩ := nextOp_pick h (ty := o.type) (he it (by rw [hop]; simp [Op.operands])) hn
  refine ⟨j, h1, h2, ?_⟩
  simp only [execOp, hop]
  exact OpOk.of_v h3

/-- A row is laid bare to its end. -/
theorem R.bare (h : R P ρ σ w) {i off cc : Nat} {c0 : List Value} {e : TypeId} (hg : σ.get i = some (.cells c0 e false)) {pl : Place} (hp : ρ i = some pl) (hcc : cc = 0 ∨ off + cc * pl.z = pl.e) :
    R P ρ (σ.put i (.cells (bareRow c0 off (P.cellsOf e) cc) e false)) w ∧ Frm ρ σ w ρ (σ.put i (.cells (bareRow c0 off (P.cellsOf e) cc) e false)) w := by
  have hrw : rw_ σ i := ⟨_, hg, rfl, by simp⟩
  obtain ⟨hz', ca, fz, h1, h2, h3, h4, h5⟩ := h.obj i _ pl hg hp
  have hlen : (bareRow c0 off (P.cellsOf e) cc).length ≤ pl.e := by
    unfold bareRow
    by_cases h0 : cc = 0
    · rw [if_pos h0]; exact h3
    · rw [if_neg h0]
      have := hcc.resolve_left h0
      rw [hz'] at this
      simp only [List.length_append, List.length_replicate]
      omega
  refine h.write hp hrw (Wr.id h1) rfl (by simp) ⟨hz', ca, fz, h1, h2, hlen, fun j u => ?_, h5⟩
  by_cases hj : j < c0.length
  · obtain ⟨v', g1, g2⟩ := h4 j hj
    refine ⟨v', g1, ?_⟩
    have : (bareRow c0 off (P.cellsOf e) cc)[j] = c0[j] := by
      simp only [bareRow]
      split
      · rfl
      · rw [List.getElem_append_left hj]
    rw [this]; exact g2
  · have hjs : pl.o + j < ca.size := by omega
    refine ⟨ca[pl.o + j], Array.getElem?_eq_getElem hjs, ?_⟩
    have : (bareRow c0 off (P.cellsOf e) cc)[j] = undef := by
      simp only [bareRow] at u ⊢
      split
      · rename_i h0; rw [if_pos h0] at u; exact absurd u hj
      · rw [List.getElem_append_right (by omega), List.getElem_replicate]
    rw [this]; exact .junk _

theorem cop_every (h : R P ρ σ w) {ev ev' : Operand → Value} {o : Oper} (he : ∀ x ∈ o.op.operands, VR ρ (ev x) (ev' x)) {p : Nat → Bool} {k : Nat → Value × CSt}
    (ha : cop P σ ev o = .every p k) : ∃ j, p j = true ∧ OpOk P ρ σ w ((execOp ev' o).run P w) (k j).1 (k j).2 := by
  have := cop_inv P σ ev o
  rw [ha] at this
  obtain ⟨c, i, off, n, hop, hb, hx, hcap⟩ := this
  have hrel := (AsR.of_map (ev := ev) (ev' := ev') c.args fun x hx => he x (by rw [hop]; simp [Op.operands, Call.operands, hb, hx])).toList
  obtain ⟨x', hx', hxr⟩ : ∃ x', (c.args.map ev') = #[x'] ∧ VR ρ (.slice (some ⟨i, off, none⟩) n openCap) x' := by
    rw [hx] at hrel
    have hl := hrel.1
    match hy : (c.args.map ev').toList, hl with
    | [x'], _ =>
      rw [hy] at hrel
      exact ⟨x', by rw [← Array.toArray_toList (xs := c.args.map ev'), hy], hrel.head⟩
  have hex : execOp ev' o = Go.builtin .cap c.argTypes o.type (c.args.map fun | .const _ => true | _ => false) (c.args.map ev') := by
    simp only [execOp, hop, resolve, hb]
    rfl
  rw [hex, hx']
  unfold capOp at hcap
  split at hcap
  · rename_i t h0
    split at hcap
    · rename_i e inf c0 e' hel hg
      split at hcap
      · rename_i hc
        obtain ⟨rfl, hz⟩ := hc
        injection hcap with hp1 hk1
        subst hp1; subst hk1
        obtain ⟨e1, hu⟩ : ∃ e1, P.underlying t = some (.slice e1) := by
          unfold elemOf? at hel
          split at hel
          · rename_i e1 hu; exact ⟨e1, hu⟩
          · cases hel
        obtain ⟨pl, hp, hor⟩ := h.live_of_get hg (by simp)
        have key : ∀ cc, (cc = 0 ∨ off + cc * pl.z = pl.e) → ∀ b, OpOk P ρ σ w ((Go.builtin .cap c.argTypes o.type (c.args.map fun | .const _ => true | _ => false) #[.slice b n cc]).run P w) (.int .i64 cc) (σ.put i (.cells (bareRow c0 off inf.size cc) e' false)) := by
          intro cc hcc b
          obtain ⟨r1, r2⟩ := h.bare hg hp hcc
          rw [hz] at r1 r2
          exact OpOk.of_v ⟨.int .i64 cc, ρ, w, by simp [Builtin.cap_, h0, run_underlying hu, goInt], r1, .plain _ rfl, r2⟩
        cases hxr with
        | plain v hf => simp [flat0] at hf
        | slc _ _ _ _ q hq hcc => exact absurd rfl hcc
        | slo _ _ _ cc q hq hn hcc hbb =>
          rw [hp] at hq
          cases hq
          exact ⟨cc, by simp [hn, hbb], key cc (.inr hcc) _⟩
        | sle _ _ a q hq hee => exact ⟨0, by simp [openCap], key 0 (.inl rfl) _⟩
      · cases hcap
    · cases hcap
  · cases hcap

theorem cop_call {ev ev' : Operand → Value} {o : Oper} (he : ∀ x ∈ o.op.operands, VR ρ (ev x) (ev' x)) {fv : Value} {args : Array Value}
    (ha : cop P σ ev o = .call fv args) : ∃ fv' args', VR ρ fv fv' ∧ AsR ρ args args' ∧ execOp ev' o = (do let d ← Deferred.ofValue fv' args'; invoke d.target d.args) := by
  have := cop_inv P σ ev o
  rw [ha] at this
  obtain ⟨c, f, hop, hf, rfl, rfl⟩ := this
  refine ⟨ev' f, c.args.map ev', he f (by rw [hop]; simp [Op.operands, Call.operands, hf]), AsR.of_map _ fun x hx => he x (by rw [hop]; simp [Op.operands, Call.operands, hx]), ?_⟩
  simp only [execOp, hop, resolve, hf]

theorem cop_panic {ev ev' : Operand → Value} {o : Oper} (he : ∀ x ∈ o.op.operands, VR ρ (ev x) (ev' x)) {v : Value}
    (ha : cop P σ ev o = .panic v) (w : World) : ∃ v', VR ρ v v' ∧ (execOp ev' o).run P w = .halt (.panic v') w := by
  have := cop_inv P σ ev o
  rw [ha] at this
  obtain ⟨x, t, u, hop, hx, rfl⟩ := this
  have hr := he x (by rw [hop]; simp [Op.operands])
  rw [hx] at hr
  obtain ⟨u', hx', _⟩ := hr.ifaceS
  refine ⟨ev' x, hr, ?_⟩
  simp only [execOp, hop]
  rw [hx']
  simp [Instr.panic]

theorem cop_defer {ev ev' : Operand → Value} {o : Oper} (he : ∀ x ∈ o.op.operands, VR ρ (ev x) (ev' x)) {d : CDef}
    (ha : cop P σ ev o = .defer d) (w : World) : ∃ g fs cs bs ds args', d.f = .func (.func g) fs cs ∧ AsR ρ fs bs ∧ AsR ρ cs ds ∧ AsR ρ d.args args' ∧
      (execOp ev' o).run P w = .ok (.defer { target := .fn (.func g) ds, args := bs ++ args' }) w := by
  have := cop_inv P σ ev o
  rw [ha] at this
  obtain ⟨c, f, g, fs, cs, hop, hf, hx, rfl⟩ := this
  have hr := he f (by rw [hop]; simp [Op.operands, Call.operands, hf])
  rw [hx] at hr
  obtain ⟨bs, ds, hx', h1, h2⟩ := hr.funcF
  refine ⟨g, fs, cs, bs, ds, c.args.map ev', rfl, h1, h2, AsR.of_map _ fun x hx => he x (by rw [hop]; simp [Op.operands, Call.operands, hx]), ?_⟩
  simp only [execOp, hop, resolve, hf, hx', Deferred.ofValue, Sem.run_bind, Sem.run_pure, Result.andThen_ok]

theorem cop_recover {ev ev' : Operand → Value} {o : Oper} (ha : cop P σ ev o = .recover) (w : World) : (execOp ev' o).run P w = .ok .recover w := by
  have := cop_inv P σ ev o
  rw [ha] at this
  obtain ⟨c, hop, hc, h0⟩ := this
  simp only [execOp, hop, resolve, hc, h0, Sem.run_bind, Sem.run_pure, Result.andThen_ok]
  rfl
end
end Go.Sm
/- The machine's steps, for a frame of whatever round; how an act stands for the model's. -/
set_option linter.unusedVariables false
set_option linter.unusedSimpArgs false
namespace Go.Sm
open Go

def atR (b : Frame) (a : Act) (todo : List Item) : Frame := { b with tmps := a.tmps, todo := todo, defers := a.defers, mode := .run }

theorem atR_eval (b : Frame) (a : Act) (todo : List Item) : (atR b a todo).eval = a.eval := by funext x; cases x <;> rfl

section moves
variable {P : Program} {b : Frame} {a : Act} {k : List Item} {cs : List Frame} {w : World}

theorem st_skip : step P (lone (atR b a (.code .skip :: k)) cs w) = .next (lone (atR b a k) cs w) := step_lone_go (by simp [stepG, stepG.exec, atR])
theorem st_label {l : Nat} : step P (lone (atR b a (.code (.label l) :: k)) cs w) = .next (lone (atR b a k) cs w) := step_lone_go (by simp [stepG, stepG.exec, atR])
theorem st_inBlock {id : Nat} : step P (lone (atR b a (.inBlock id :: k)) cs w) = .next (lone (atR b a k) cs w) := step_lone_go (by simp [stepG, stepG.exec, atR])
theorem st_inScope {c : Code} : step P (lone (atR b a (.inScope c :: k)) cs w) = .next (lone (atR b a k) cs w) := step_lone_go (by simp [stepG, stepG.exec, atR])
theorem st_seq {x y : Code} : step P (lone (atR b a (.code (.seq x y) :: k)) cs w) = .next (lone (atR b a (.code x :: .code y :: k)) cs w) := step_lone_go (by simp [stepG, stepG.exec, atR])
theorem st_cond {c : Operand} {x y : Code} {t : Bool} (h : a.eval c = .bool t) : step P (lone (atR b a (.code (.cond c x y) :: k)) cs w) = .next (lone (atR b a (.code (if t then x else y) :: k)) cs w) :=
  step_lone_go (by
    have := congrFun (atR_eval b a (.code (.cond c x y) :: k)) c
    simp only [atR] at this
    simp [stepG, stepG.exec, atR, this, h])
theorem st_block {id : Nat} {c : Code} : step P (lone (atR b a (.code (.block id c) :: k)) cs w) = .next (lone (atR b a (.code c :: .inBlock id :: k)) cs w) := step_lone_go (by simp [stepG, stepG.exec, atR])
theorem st_loop {c : Code} : step P (lone (atR b a (.code (.loop c) :: k)) cs w) = .next (lone (atR b a (.code c :: .inLoop c :: k)) cs w) := step_lone_go (by simp [stepG, stepG.exec, atR])
theorem st_inLoop {c : Code} : step P (lone (atR b a (.inLoop c :: k)) cs w) = .next (lone (atR b a (.code c :: .inLoop c :: k)) cs w) := step_lone_go (by simp [stepG, stepG.exec, atR])
theorem st_scope {c : Code} : step P (lone (atR b a (.code (.scope c) :: k)) cs w) = .next (lone (atR b a (.code c :: .inScope c :: k)) cs w) := step_lone_go (by simp [stepG, stepG.exec, atR])
theorem st_exit {id : Nat} {k' : List Item} (h : exitTo id k = some k') : step P (lone (atR b a (.code (.exit id) :: k)) cs w) = .next (lone (atR b a k') cs w) := step_lone_go (by simp [stepG, stepG.exec, atR, h])
theorem st_goto {l : Nat} {k' : List Item} (h : gotoIn l k = some k') : step P (lone (atR b a (.code (.goto l) :: k)) cs w) = .next (lone (atR b a k') cs w) := step_lone_go (by simp [stepG, stepG.exec, atR, h])
theorem st_region {ops : Array Oper} {id : Nat} : step P (lone (atR b a (.code (.region id ops false) :: k)) cs w) = .next (lone (atR b a (.inRegion ops (List.range ops.size) :: k)) cs w) := step_lone_go (by simp [stepG, stepG.exec, atR])
theorem st_region_draw {ops : Array Oper} {id : Nat} : step P (lone (atR b a (.code (.region id ops true) :: k)) cs w) =
    .next (lone (atR b a (.inRegion ops (Region.schedule (P.follows .mixedOrders) ops (w.tape w.drawn (.order b.fn id))) :: k)) cs { w with drawn := w.drawn + 1 }) :=
  step_lone_go (by simp [stepG, stepG.exec, atR, choose, Sem.run, Question.forced, Question.cut])
theorem st_region_end {ops : Array Oper} : step P (lone (atR b a (.inRegion ops [] :: k)) cs w) = .next (lone (atR b a k) cs w) := step_lone_go (by simp [stepG, stepG.exec, atR])

theorem finish_atR (b : Frame) (a : Act) (ops : Array Oper) (i : Nat) (rest : List Nat) (k : List Item) (v : Value) :
    (atR b a (.inRegion ops (i :: rest) :: k)).finish v = atR b (a.put ((ops[i]?).bind (·.dst)) v) (.inRegion ops rest :: k) := by
  cases h : (ops[i]?).bind (·.dst) <;> simp [Frame.finish, atR, Act.put, h]

theorem st_op_skip {ops : Array Oper} {i : Nat} {rest : List Nat} (h : ((ops[i]?).map (Region.wanted · (yielded ops a.tmps))).getD false = false) :
    step P (lone (atR b a (.inRegion ops (i :: rest) :: k)) cs w) = .next (lone (atR b (a.put ((ops[i]?).bind (·.dst)) undef) (.inRegion ops rest :: k)) cs w) := by
  rw [← finish_atR]
  exact step_lone_go (by
    have h' := h
    simp only [atR] at *
    simp [stepG, stepG.exec, h'])

theorem stepG_opG {fr : Frame} {ops : Array Oper} {i : Nat} {rest : List Nat} {o : Oper} (hm : fr.mode = .run) (ht : fr.todo = .inRegion ops (i :: rest) :: k) (ho : ops[i]? = some o) (hw : Region.wanted o (yielded ops fr.tmps) = true)
    (hd : fr.roundOf = none ∨ ∀ c, o.op ≠ .defer c) :
    stepG P true { frame := fr, callers := cs, status := .running, dying := none } w = stepG.apply P true fr cs none (execOp fr.eval o) w := by
  obtain ⟨fn, tmps, todo, defers, mode, kind, rnd⟩ := fr
  simp only at hm ht hw hd
  subst hm ht
  cases rnd with
  | none => simp [stepG, stepG.exec, stepG.oper, Frame.oper?, ho, hw]
  | some l =>
    have hd' : ∀ c, o.op ≠ .defer c := by
      rcases hd with hd | hd
      · cases hd
      · exact hd
    simp only [stepG, stepG.exec, ho, Option.map_some, hw, Option.getD_some, if_true, stepG.oper, Frame.oper?]
    split
    · rename_i h1; exact absurd h1 (hd' _)
    · rfl
theorem stepG_opR {ops : Array Oper} {i : Nat} {rest : List Nat} {o : Oper} (ho : ops[i]? = some o) (hw : Region.wanted o (yielded ops a.tmps) = true) (hd : b.roundOf = none ∨ ∀ c, o.op ≠ .defer c) :
    stepG P true { frame := atR b a (.inRegion ops (i :: rest) :: k), callers := cs, status := .running, dying := none } w =
      stepG.apply P true (atR b a (.inRegion ops (i :: rest) :: k)) cs none (execOp a.eval o) w := by
  rw [stepG_opG (fr := atR b a (.inRegion ops (i :: rest) :: k)) rfl rfl ho hw hd, atR_eval]

variable {ops : Array Oper} {i : Nat} {rest : List Nat} {o : Oper}
theorem st_op_value (ho : ops[i]? = some o) (hw : Region.wanted o (yielded ops a.tmps) = true) (hd : b.roundOf = none ∨ ∀ c, o.op ≠ .defer c) {n : Next} {v : Value} {w' : World}
    (hr : (execOp a.eval o).run P w = .ok n w') (hn : n = .value v ∨ (n = .skip ∧ v = undef)) :
    step P (lone (atR b a (.inRegion ops (i :: rest) :: k)) cs w) = .next (lone (atR b (a.put o.dst v) (.inRegion ops rest :: k)) cs w') := by
  have hf := finish_atR b a ops i rest k v
  rw [ho] at hf
  refine step_lone_go ?_
  rw [stepG_opR ho hw hd]
  change (atR b a (.inRegion ops (i :: rest) :: k)).finish v = atR b (a.put o.dst v) (.inRegion ops rest :: k) at hf
  rcases hn with rfl | ⟨rfl, rfl⟩
  · simp [stepG.apply, hr, hf]
  · simp [stepG.apply, hr, hf]
theorem st_op_enter (ho : ops[i]? = some o) (hw : Region.wanted o (yielded ops a.tmps) = true) (hd : b.roundOf = none ∨ ∀ c, o.op ≠ .defer c) {f : FuncId} {args : Array Value} {w' : World}
    (hr : (execOp a.eval o).run P w = .ok (.enter f args) w') :
    step P (lone (atR b a (.inRegion ops (i :: rest) :: k)) cs w) = .next (lone (Frame.enter P f args .normal) (atR b a (.inRegion ops (i :: rest) :: k) :: cs) w') := by
  refine step_lone_go ?_
  rw [stepG_opR ho hw hd]
  simp [stepG.apply, hr, atR]
theorem st_op_round (ho : ops[i]? = some o) (hw : Region.wanted o (yielded ops a.tmps) = true) (hd : b.roundOf = none ∨ ∀ c, o.op ≠ .defer c) {l : Nat} {f : FuncId} {tmps : Array Value} {asg body : Code} {w' : World}
    (hr : (execOp a.eval o).run P w = .ok (.round l f tmps asg body) w') :
    step P (lone (atR b a (.inRegion ops (i :: rest) :: k)) cs w) = .next (lone (Frame.round l f tmps asg body .normal) (atR b a (.inRegion ops (i :: rest) :: k) :: cs) w') := by
  refine step_lone_go ?_
  rw [stepG_opR ho hw hd]
  simp [stepG.apply, hr, atR]
theorem st_op_panic (ho : ops[i]? = some o) (hw : Region.wanted o (yielded ops a.tmps) = true) (hd : b.roundOf = none ∨ ∀ c, o.op ≠ .defer c) {v : Value} {w' : World}
    (hr : (execOp a.eval o).run P w = .halt (.panic v) w') :
    step P (lone (atR b a (.inRegion ops (i :: rest) :: k)) cs w) = .next (lone { atR b a (.inRegion ops (i :: rest) :: k) with mode := .panicking [{ v, recovered := false }] } cs w') := by
  refine step_lone_go ?_
  rw [stepG_opR ho hw hd]
  simp [stepG.apply, hr, atR, Frame.raise]
theorem st_op_defer (ho : ops[i]? = some o) (hw : Region.wanted o (yielded ops a.tmps) = true) (hd : b.roundOf = none) {d : Deferred} {w' : World}
    (hr : (execOp a.eval o).run P w = .ok (.defer d) w') :
    step P (lone (atR b a (.inRegion ops (i :: rest) :: k)) cs w) = .next (lone (atR b ({ a with defers := d :: a.defers }.put o.dst undef) (.inRegion ops rest :: k)) cs w') := by
  have hf := finish_atR b { a with defers := d :: a.defers } ops i rest k undef
  rw [ho] at hf
  change (atR b { a with defers := d :: a.defers } (.inRegion ops (i :: rest) :: k)).finish undef = atR b ({ a with defers := d :: a.defers }.put o.dst undef) (.inRegion ops rest :: k) at hf
  refine step_lone_go ?_
  rw [stepG_opR ho hw (.inl hd), ← hf]
  simp [stepG.apply, hr, atR]
theorem st_op_recover (ho : ops[i]? = some o) (hw : Region.wanted o (yielded ops a.tmps) = true) (hd : b.roundOf = none) {w' : World} (hr : (execOp a.eval o).run P w = .ok .recover w') {v : Value} {cs' : List Frame}
    (ht : (b.kind = .normal ∧ v = .nilIface ∧ cs' = cs) ∨ (b.kind = .deferred ∧ ∃ c r, cs = c :: r ∧
      ((v = .nilIface ∧ cs' = cs ∧ (c.mode = .returning ∨ ∃ u l, c.mode = .panicking ({ v := u, recovered := true } :: l))) ∨ (∃ l, c.mode = .panicking ({ v := v, recovered := false } :: l) ∧ cs' = { c with mode := .panicking ({ v := v, recovered := true } :: l) } :: r)))) :
    step P (lone (atR b a (.inRegion ops (i :: rest) :: k)) cs w) = .next (lone (atR b (a.put o.dst v) (.inRegion ops rest :: k)) cs' w') := by
  have hf := finish_atR b a ops i rest k v
  rw [ho] at hf
  change (atR b a (.inRegion ops (i :: rest) :: k)).finish v = atR b (a.put o.dst v) (.inRegion ops rest :: k) at hf
  refine step_lone_go ?_
  rw [stepG_opR ho hw (.inl hd), ← hf]
  have hro : (atR b a (.inRegion ops (i :: rest) :: k)).roundOf = none := hd
  have hk : (atR b a (.inRegion ops (i :: rest) :: k)).kind = b.kind := rfl
  rcases ht with ⟨h1, rfl, rfl⟩ | ⟨h1, c, r, rfl, ⟨rfl, rfl, h2⟩ | ⟨l, h2, rfl⟩⟩
  · have : tryRecover (atR b a (.inRegion ops (i :: rest) :: k)) cs' = none := by unfold tryRecover; rw [hk, h1]
    simp [stepG.apply, hr, hro, this]
  · have : tryRecover (atR b a (.inRegion ops (i :: rest) :: k)) (c :: r) = none := by
      unfold tryRecover; rw [hk, h1]
      rcases h2 with h2 | ⟨u, l, h2⟩ <;> simp [h2]
    simp [stepG.apply, hr, hro, this]
  · have : tryRecover (atR b a (.inRegion ops (i :: rest) :: k)) (c :: r) = some (v, { c with mode := .panicking ({ v := v, recovered := true } :: l) } :: r) := by
      unfold tryRecover; rw [hk, h1]; simp [h2]
    simp [stepG.apply, hr, hro, this]
end moves

/-! ### Acts -/
def CdR (ρ : Rho) (d : CDef) (d' : Deferred) : Prop := ∃ g fs cs bs ds args', d.f = .func (.func g) fs cs ∧ AsR ρ fs bs ∧ AsR ρ cs ds ∧ AsR ρ d.args args' ∧ d' = { target := .fn (.func g) ds, args := bs ++ args' }
theorem CdR.mono {ρ ρ' : Rho} (hr : ρ.le ρ') {d : CDef} {d' : Deferred} (h : CdR ρ d d') : CdR ρ' d d' := by
  obtain ⟨g, fs, cs, bs, ds, as0, h1, h2, h3, h4, h5⟩ := h
  exact ⟨g, fs, cs, bs, ds, as0, h1, h2.mono hr, h3.mono hr, h4.mono hr, h5⟩

/-- The block for a loop's deferred calls: it is empty, none of the objects', and younger than B. -/
def MarkOk (B : Nat) (ρ : Rho) (σ : CSt) (w : World) (r : Nat) : Prop := w.heap[r]? = some (.deferred (some [])) ∧ B ≤ r ∧ ∀ i p, ρ i = some p → rw_ σ i → p.b ≠ r
theorem MarkOk.frm {B : Nat} {ρ ρ' : Rho} {σ σ' : CSt} {w w' : World} {r : Nat} (h : MarkOk B ρ σ w r) (f : Frm ρ σ w ρ' σ' w') : MarkOk B ρ' σ' w' r := by
  have hlt := (Array.getElem?_eq_some_iff.1 h.1).1
  refine ⟨by rw [f.keep r hlt h.2.2]; exact h.1, h.2.1, fun i p hp hr => ?_⟩
  rcases f.fresh i p hp hr with h1 | ⟨j, q, h1, h2, h3⟩
  · omega
  · rw [← h3]; exact h.2.2 j q h1 h2

inductive DfR (B : Nat) (ρ : Rho) (σ : CSt) (w : World) : List CDef → List Deferred → Prop
  | nil : DfR B ρ σ w [] []
  | cons (d : CDef) (d' : Deferred) (l : List CDef) (l' : List Deferred) (h : CdR ρ d d') (t : DfR B ρ σ w l l') : DfR B ρ σ w (d :: l) (d' :: l')
  | mark (r : Nat) (l : List CDef) (l' : List Deferred) (h : MarkOk B ρ σ w r) (hn : ∀ d ∈ l', ∀ q, d.target = .collected q → q ≠ r) (t : DfR B ρ σ w l l') : DfR B ρ σ w l ({ target := .collected r, args := #[] } :: l')
theorem DfR.frm {B : Nat} {ρ ρ' : Rho} {σ σ' : CSt} {w w' : World} (f : Frm ρ σ w ρ' σ' w') {l : List CDef} {l' : List Deferred} (h : DfR B ρ σ w l l') : DfR B ρ' σ' w' l l' := by
  induction h with
  | nil => exact .nil
  | cons d d' l l' h _ ih => exact .cons d d' l l' (h.mono f.le) ih
  | mark r l l' h hn _ ih => exact .mark r l l' (h.frm f) hn ih

structure AR (B : Nat) (ρ : Rho) (σ : CSt) (w : World) (a : CAct) (ac : Act) : Prop where
  sz : ac.tmps.size = a.sz
  tm : ∀ i, VR ρ (a.get i) (ac.tmps.getD i undef)
  df : DfR B ρ σ w a.df ac.defers

theorem AR.frm {B : Nat} {ρ ρ' : Rho} {σ σ' : CSt} {w w' : World} (f : Frm ρ σ w ρ' σ' w') {a : CAct} {ac : Act} (h : AR B ρ σ w a ac) : AR B ρ' σ' w' a ac := ⟨h.sz, fun i => (h.tm i).mono f.le, h.df.frm f⟩

theorem AR.eval {B : Nat} {P : Program} {ρ : Rho} {σ : CSt} {w : World} {a : CAct} {ac : Act} (hR : R P ρ σ w) (h : AR B ρ σ w a ac) (x : Operand) : VR ρ (a.eval x) (ac.eval x) := by
  cases x with
  | tmp t => exact h.tm t
  | const v =>
    simp only [CAct.eval, Act.eval]
    split
    · rename_i hf; exact .of_flat hf
    · exact .junk _
  | global g =>
    simp only [CAct.eval, Act.eval]
    split
    · rename_i hg
      obtain ⟨p, h1, h2, h3⟩ := hR.glob g hg
      have := VR.ptr (ρ := ρ) g 0 p h1
      rw [h2, h3] at this
      simpa using this
    · exact .junk _
  | func f => exact .func _ _ _ _ _ _ (.same _ fun l e => by cases e) rfl (fun i u => by simp at u) rfl (fun i u => by simp at u)

theorem getD_set (tmps : Array Value) (d i : Nat) (v : Value) : (tmps.setIfInBounds d v).getD i undef = if i = d ∧ d < tmps.size then v else tmps.getD i undef := by
  rw [Array.getD_eq_getD_getElem?, Array.getD_eq_getD_getElem?, Array.getElem?_setIfInBounds]
  by_cases h : d = i
  · subst h
    by_cases k : d < tmps.size
    · simp [k]
    · simp [k]
  · rw [if_neg h, if_neg (fun e => h e.1.symm)]

theorem CAct.get_put (a : CAct) (d i : Nat) (v : Value) : (a.put (some d) v).get i = if i = d ∧ d < a.sz then v else a.get i := by
  unfold CAct.put CAct.get
  by_cases h : d < a.sz
  · simp only [h, if_true, Tr.get_set, and_true]
    by_cases e : i = d <;> simp [e]
  · simp [h]
theorem CAct.sz_put (a : CAct) (d : Option Tmp) (v : Value) : (a.put d v).sz = a.sz := by
  unfold CAct.put; split
  · split <;> rfl
  · rfl
theorem CAct.df_put (a : CAct) (d : Option Tmp) (v : Value) : (a.put d v).df = a.df := by
  unfold CAct.put; split
  · split <;> rfl
  · rfl
theorem CAct.tk_put (a : CAct) (d : Option Tmp) (v : Value) : (a.put d v).tk = a.tk := by
  unfold CAct.put; split
  · split <;> rfl
  · rfl

theorem AR.put {B : Nat} {ρ : Rho} {σ : CSt} {w : World} {a : CAct} {ac : Act} (h : AR B ρ σ w a ac) (d : Option Tmp) {v v' : Value} (hv : VR ρ v v') : AR B ρ σ w (a.put d v) (ac.put d v') := by
  cases d with
  | none => exact h
  | some d =>
    refine ⟨by rw [CAct.sz_put]; simp [Act.put, h.sz], fun i => ?_, by rw [CAct.df_put]; exact h.df⟩
    simp only [Act.put]
    rw [CAct.get_put, getD_set, h.sz]
    split
    · exact hv
    · exact h.tm i

theorem VR.nope_eq {ρ : Rho} {v : Value} (h : VR ρ (.chan none) v) : v = .tuple #[] := by
  cases h with
  | plain v hf => simp [flat0] at hf
  | nope => rfl

theorem wantedC_sound {B : Nat} {ρ : Rho} {σ : CSt} {w : World} {a : CAct} {ac : Act} (h : AR B ρ σ w a ac) {ops : Array Oper} {o : Oper} {b : Bool} (hw : wantedC ops a o = some b) : Region.wanted o (yielded ops ac.tmps) = b := by
  unfold wantedC at hw
  unfold Region.wanted
  split at hw
  · rename_i hg; cases hw; rw [hg]
  · rename_i j want hg
    rw [hg]
    simp only
    split at hw
    · rename_i d hd
      split at hw
      · rename_i hlt
        have hr := h.tm d
        have hlt' : d < ac.tmps.size := by rw [h.sz]; exact hlt
        rw [Array.getD_eq_getD_getElem?, Array.getElem?_eq_getElem hlt'] at hr
        simp only [Option.getD_some] at hr
        split at hw
        · rename_i t ht
          cases hw
          rw [ht] at hr
          have := hr.bool
          simp only [yielded, hd, Option.bind_some, Array.getElem?_eq_getElem hlt', this]
          cases t <;> cases want <;> rfl
        · rename_i ht
          cases hw
          rw [ht] at hr
          have hx := hr.nope_eq
          simp only [yielded, hd, Option.bind_some, Array.getElem?_eq_getElem hlt', hx]
          rfl
        · cases hw
      · cases hw
    · cases hw
end Go.Sm
/- Soundness of the rules, but for regions that draw their order. -/
set_option linter.unusedVariables false
set_option linter.unusedSimpArgs false
namespace Go.Sm
open Go

def markRec (c : Frame) : Frame := { c with mode := match c.mode with | .panicking (p :: l) => .panicking ({ p with recovered := true } :: l) | m => m }
/-- The callers, behind a recover. -/
def csOf (cs : List Frame) (tk : Bool) : List Frame := if tk then (match cs with | c :: r => markRec c :: r | [] => []) else cs

def RndOk (ρ : Rho) : Option Nat → Option Nat → Prop
  | none, none => True
  | some l, some r => ∃ p, ρ l = some p ∧ p.b = r
  | _, _ => False
def DkOk (ρ : Rho) (kind : CallKind) (cs : List Frame) : Option (Option Value) → Prop
  | none => kind = .normal
  | some none => kind = .deferred ∧ ∃ c r, cs = c :: r ∧ c.mode = .returning
  | some (some v) => kind = .deferred ∧ ∃ c r v', cs = c :: r ∧ c.mode = .panicking [{ v := v', recovered := false }] ∧ VR ρ v v'
structure FrOk (ρ : Rho) (x : Ctx) (b : Frame) (cs : List Frame) : Prop where
  fn : b.fn = x.f
  rnd : RndOk ρ x.rnd b.roundOf
  dk : DkOk ρ b.kind cs x.dk
theorem RndOk.mono {ρ ρ' : Rho} (hr : ρ.le ρ') {a b : Option Nat} (h : RndOk ρ a b) : RndOk ρ' a b := by
  cases a <;> cases b <;> simp only [RndOk] at h ⊢
  obtain ⟨p, h1, h2⟩ := h
  exact ⟨p, hr _ _ h1, h2⟩
theorem DkOk.mono {ρ ρ' : Rho} (hr : ρ.le ρ') {kind : CallKind} {cs : List Frame} {d : Option (Option Value)} (h : DkOk ρ kind cs d) : DkOk ρ' kind cs d := by
  cases d with
  | none => exact h
  | some d => cases d with
    | none => exact h
    | some v => obtain ⟨h1, c, r, v', h2, h3, h4⟩ := h; exact ⟨h1, c, r, v', h2, h3, h4.mono hr⟩
theorem FrOk.mono {ρ ρ' : Rho} (hr : ρ.le ρ') {x : Ctx} {b : Frame} {cs : List Frame} (h : FrOk ρ x b cs) : FrOk ρ' x b cs := ⟨h.fn, h.rnd.mono hr, h.dk.mono hr⟩

def panicOf (v : Value) : FrameMode := .panicking [{ v := v, recovered := false }]

def ArrC (P : Program) (m : Machine) (b : Frame) (k : List Item) (cs : List Frame) (ρ : Rho) (ac : Act) (w : World) : CEx → Prop
  | .normal => Steps P m (lone (atR b ac k) cs w)
  | .exit i => ∃ t, exitTo i t = exitTo i k ∧ Steps P m (lone (atR b ac (.code (.exit i) :: t)) cs w)
  | .goto l => ∃ t, gotoIn l t = gotoIn l k ∧ Steps P m (lone (atR b ac (.code (.goto l) :: t)) cs w)
  | .ret => ∃ t, Steps P m (lone (atR b ac (.code .ret :: t)) cs w)
  | .panic v => ∃ t v', VR ρ v v' ∧ Steps P m (lone { atR b ac t with mode := panicOf v' } cs w)

theorem ArrC.of_steps {P : Program} {m m₁ : Machine} {b : Frame} {k : List Item} {cs : List Frame} {ρ : Rho} {ac : Act} {w : World} {e : CEx} (h : Steps P m m₁) (h' : ArrC P m₁ b k cs ρ ac w e) : ArrC P m b k cs ρ ac w e := by
  cases e with
  | normal => exact h.trans h'
  | exit i => obtain ⟨t, h1, h2⟩ := h'; exact ⟨t, h1, h.trans h2⟩
  | goto l => obtain ⟨t, h1, h2⟩ := h'; exact ⟨t, h1, h.trans h2⟩
  | ret => obtain ⟨t, h2⟩ := h'; exact ⟨t, h.trans h2⟩
  | panic v => obtain ⟨t, v', h1, h2⟩ := h'; exact ⟨t, v', h1, h.trans h2⟩

/-- What stands ahead of the rest hinders no way out. -/
def passes (x : Item) : Prop := match x with | .inBlock _ | .inScope _ => False | _ => True
theorem ArrC.pass {P : Program} {m : Machine} {b : Frame} {x : Item} {k : List Item} {cs : List Frame} {ρ : Rho} {ac : Act} {w : World} {e : CEx} (hx : passes x) (hn : e ≠ .normal) (h : ArrC P m b (x :: k) cs ρ ac w e) : ArrC P m b k cs ρ ac w e := by
  have h1 : ∀ i, exitTo i (x :: k) = exitTo i k := fun i => by cases x <;> simp_all [exitTo, passes]
  have h2 : ∀ l, gotoIn l (x :: k) = gotoIn l k := fun l => by cases x <;> simp_all [gotoIn, passes]
  cases e with
  | normal => exact absurd rfl hn
  | exit i => obtain ⟨t, h3, h4⟩ := h; exact ⟨t, h3.trans (h1 i), h4⟩
  | goto l => obtain ⟨t, h3, h4⟩ := h; exact ⟨t, h3.trans (h2 l), h4⟩
  | ret => exact h
  | panic v => exact h

def SimC (P : Program) (x : Ctx) (a : CAct) (σ : CSt) (todo : List Item → List Item) (Q : Out → CSt → Prop) : Prop :=
  ∀ (B : Nat) (ρ : Rho) (w : World) (ac : Act) (b : Frame) (k : List Item) (cs : List Frame), B ≤ w.heap.size → R P ρ σ w → AR B ρ σ w a ac → FrOk ρ x b cs → (x.dk = none → a.tk = false) →
    ∃ (e : CEx) (a' : CAct) (σ' : CSt) (ρ' : Rho) (w' : World) (ac' : Act), Q (.code e a') σ' ∧ R P ρ' σ' w' ∧ AR B ρ' σ' w' a' ac' ∧ Frm ρ σ w ρ' σ' w' ∧ (x.dk = none → a'.tk = false) ∧
      ArrC P (lone (atR b ac (todo k)) (csOf cs a.tk) w) b k (csOf cs a'.tk) ρ' ac' w' e

def kindOf (dk : Option (Option Value)) : CallKind := if dk.isSome then .deferred else .normal

/-- What a stretch leaves alone below B. -/
structure FrmB (B : Nat) (ρ : Rho) (σ : CSt) (w : World) (ρ' : Rho) (σ' : CSt) (w' : World) : Prop where
  le : ρ.le ρ'
  os : w'.os = w.os
  tape : w'.tape = w.tape
  output : w'.output = w.output
  size : w.heap.size ≤ w'.heap.size
  keep : ∀ k, k < B → (∀ i p, ρ i = some p → rw_ σ i → p.b ≠ k) → w'.heap[k]? = w.heap[k]?
  fresh : ∀ i p, ρ' i = some p → rw_ σ' i → B ≤ p.b ∨ ∃ j q, ρ j = some q ∧ rw_ σ j ∧ q.b = p.b
theorem Frm.toB {B : Nat} {ρ ρ' : Rho} {σ σ' : CSt} {w w' : World} (h : Frm ρ σ w ρ' σ' w') (hB : B ≤ w.heap.size) : FrmB B ρ σ w ρ' σ' w' :=
  ⟨h.le, h.os, h.tape, h.output, h.size, fun k hk => h.keep k (Nat.lt_of_lt_of_le hk hB), fun i p a b => (h.fresh i p a b).imp (Nat.le_trans hB) id⟩
theorem FrmB.toFrm {ρ ρ' : Rho} {σ σ' : CSt} {w w' : World} (h : FrmB w.heap.size ρ σ w ρ' σ' w') : Frm ρ σ w ρ' σ' w' := ⟨h.le, h.os, h.tape, h.output, h.size, h.keep, h.fresh⟩
theorem FrmB.trans {B : Nat} {ρ₁ ρ₂ ρ₃ : Rho} {σ₁ σ₂ σ₃ : CSt} {w₁ w₂ w₃ : World} (h : FrmB B ρ₁ σ₁ w₁ ρ₂ σ₂ w₂) (k : FrmB B ρ₂ σ₂ w₂ ρ₃ σ₃ w₃) : FrmB B ρ₁ σ₁ w₁ ρ₃ σ₃ w₃ where
  le := Rho.le_trans h.le k.le
  os := k.os.trans h.os
  tape := k.tape.trans h.tape
  output := k.output.trans h.output
  size := Nat.le_trans h.size k.size
  keep := fun b hb hn => by
    rw [k.keep b hb fun i p hp hr e => ?_, h.keep b hb hn]
    rcases h.fresh i p hp hr with h1 | ⟨j, q, h1, h2, h3⟩
    · omega
    · exact hn j q h1 h2 (h3.trans e)
  fresh := fun i p hp hr => by
    rcases k.fresh i p hp hr with h1 | ⟨j, q, h1, h2, h3⟩
    · exact .inl h1
    · rcases h.fresh j q h1 h2 with h4 | ⟨j', q', h4, h5, h6⟩
      · exact .inl (h3 ▸ h4)
      · exact .inr ⟨j', q', h4, h5, h6.trans h3⟩

/-- A function's frame that is about to hand its result to whoever called it. -/
def FnOk (B : Nat) (P : Program) (m : Machine) (f : FuncId) (cs : List Frame) (dk : Option (Option Value)) (ρ : Rho) (σ : CSt) (w : World) (Q : Out → CSt → Prop) : Prop :=
  (∃ (v : Value) (tk : Bool) (σ' : CSt) (ρ' : Rho) (w' : World) (v' : Value) (fr : Frame), Q (.ret v tk) σ' ∧ R P ρ' σ' w' ∧ FrmB B ρ σ w ρ' σ' w' ∧ VR ρ' v v' ∧ Steps P m (lone fr (csOf cs tk) w') ∧ (dk = none → tk = false) ∧
    fr.fn = f ∧ fr.kind = kindOf dk ∧ fr.mode = .returning ∧ fr.defers = [] ∧ ∃ fn, P.funcs[f]? = some fn ∧ (results fn fr.tmps).run P w' = .ok v' w') ∨
  (∃ (v : Value) (σ' : CSt) (ρ' : Rho) (w' : World) (v' : Value) (fr : Frame), Q (.pan v) σ' ∧ R P ρ' σ' w' ∧ FrmB B ρ σ w ρ' σ' w' ∧ VR ρ' v v' ∧ Steps P m (lone fr cs w') ∧ dk = none ∧
    fr.fn = f ∧ fr.mode = panicOf v' ∧ fr.defers = [] ∧ ∃ fn, P.funcs[f]? = some fn)

def SimFn (P : Program) (f : FuncId) (args : Array Value) (dk : Option (Option Value)) (σ : CSt) (Q : Out → CSt → Prop) : Prop :=
  (∃ fn, P.funcs[f]? = some fn ∧ fn.body.isSome = true) ∧
  ∀ (ρ : Rho) (w : World) (args' : Array Value) (cs : List Frame), R P ρ σ w → AsR ρ args args' → DkOk ρ (kindOf dk) cs dk → FnOk w.heap.size P (lone (Frame.enter P f args' (kindOf dk)) cs w) f cs dk ρ σ w Q

def modeOf : Option Value → FrameMode
  | none => .returning
  | some v => panicOf v

def SimUnw (P : Program) (x : Ctx) (a : CAct) (m : Option Value) (σ : CSt) (Q : Out → CSt → Prop) : Prop :=
  ∀ (B : Nat) (ρ : Rho) (w : World) (ac : Act) (b : Frame) (t : List Item) (cs : List Frame) (m' : Option Value), B ≤ w.heap.size → R P ρ σ w → AR B ρ σ w a ac → b.fn = x.f → b.roundOf = none → b.kind = kindOf x.dk → DkOk ρ b.kind cs x.dk → OptR ρ m m' → (x.dk = none → a.tk = false) →
    FnOk B P (lone { atR b ac t with mode := modeOf m' } (csOf cs a.tk) w) x.f cs x.dk ρ σ w Q

/-- Behind a call: the caller goes on with the answer, or panics. -/
def PopOk (P : Program) (m : Machine) (c : Frame) (cs : List Frame) (ρ : Rho) (σ : CSt) (w : World) (Q : Out → CSt → Prop) : Prop :=
  (∃ (v : Value) (tk : Bool) (σ' : CSt) (ρ' : Rho) (w' : World) (v' : Value), Q (.ret v tk) σ' ∧ R P ρ' σ' w' ∧ Frm ρ σ w ρ' σ' w' ∧ VR ρ' v v' ∧ Steps P m (lone (c.finish v') cs w')) ∨
  (∃ (v : Value) (σ' : CSt) (ρ' : Rho) (w' : World) (v' : Value), Q (.pan v) σ' ∧ R P ρ' σ' w' ∧ Frm ρ σ w ρ' σ' w' ∧ VR ρ' v v' ∧ Steps P m (lone (c.raise [{ v := v', recovered := false }]) cs w'))

def SimRound (P : Program) (l : Nat) (args : Array Value) (σ : CSt) (Q : Out → CSt → Prop) : Prop :=
  ∀ (ρ : Rho) (w : World) (args' : Array Value) (p : Place) (r : Loop) (c : Frame) (cs : List Frame), R P ρ σ w → AsR ρ args args' → ρ l = some p → w.heap[p.b]? = some (.loop r) →
    args'.size = r.params.size ∧ PopOk P (lone (Frame.round p.b r.fn ((r.params.zip args').foldl (fun tmps (t, a) => tmps.setIfInBounds t a) r.tmps) r.assign r.body .normal) (c :: cs) w) c cs ρ σ w Q

def SimT (P : Program) (t : Task) (σ : CSt) (Q : Out → CSt → Prop) : Prop :=
  match t with
  | .code x c a => SimC P x a σ (fun k => .code c :: k) Q
  | .scope x body c a => SimC P x a σ (fun k => .code c :: .inScope body :: k) Q
  | .ops x ops todo a => SimC P x a σ (fun k => .inRegion ops todo :: k) Q
  | .fn f args dk => SimFn P f args dk σ Q
  | .unw x a m => SimUnw P x a m σ Q
  | .round l args => (∃ st pend fn tm sz ps asg body, σ.get l = some (.loop st pend fn tm sz ps asg body)) ∧ SimRound P l args σ Q

structure Good (P : Program) : Prop where
  ng : ∀ (f : FuncId) (fn : Func), P.funcs[f]? = some fn → fn.body.isSome = true → (fn.name == "runtime.NumGoroutine") = false
  mixed : P.follows .mixedOrders = true

theorem AsR.append {ρ : Rho} {as0 bs cs ds : Array Value} (h : AsR ρ as0 bs) (k : AsR ρ cs ds) : AsR ρ (as0 ++ cs) (bs ++ ds) := by
  have := (h.toList.append k.toList).toArray
  rw [← Array.toList_append, ← Array.toList_append, Array.toArray_toList, Array.toArray_toList] at this
  exact this

section
variable {P : Program}

theorem st_leave_returned {fr c : Frame} {cs : List Frame} {w : World} {v : Value} {fn : Func} (hm : fr.mode = .returning) (hd : fr.defers = []) (hk : fr.kind = .normal) (hf : P.funcs[fr.fn]? = some fn) (hr : (results fn fr.tmps).run P w = .ok v w) :
    step P (lone fr (c :: cs) w) = .next (lone (c.finish v) cs w) := step_lone_go (by simp [stepG, unwind, doReturn, hm, hd, hk, hf, hr])
theorem st_leave_panicked {fr c : Frame} {cs : List Frame} {w : World} {chain : List PanicEntry} {fn : Func} (hm : fr.mode = .panicking chain) (hd : fr.defers = []) (hf : P.funcs[fr.fn]? = some fn) :
    step P (lone fr (c :: cs) w) = .next (lone (c.raise chain) cs w) := step_lone_go (by simp [stepG, unwind, Frame.catches, hm, hd, hf])

theorem FnOk.pop {m : Machine} {f : FuncId} {c : Frame} {cs : List Frame} {ρ : Rho} {σ : CSt} {w : World} {Q : Out → CSt → Prop} (h : FnOk w.heap.size P m f (c :: cs) none ρ σ w Q) : PopOk P m c cs ρ σ w Q := by
  rcases h with ⟨v, tk, σ', ρ', w', v', fr, h1, h2, h3, h4, h5, h0, h6, h7, h8, h9, fn, h10, h11⟩ | ⟨v, σ', ρ', w', v', fr, h1, h2, h3, h4, h5, _, h6, h8, h9, fn, h10⟩
  · obtain rfl := h0 rfl
    exact .inl ⟨v, false, σ', ρ', w', v', h1, h2, h3.toFrm, h4, h5.trans (.one (st_leave_returned h8 h9 h7 (by rw [h6]; exact h10) h11))⟩
  · exact .inr ⟨v, σ', ρ', w', v', h1, h2, h3.toFrm, h4, h5.trans (.one (st_leave_panicked h8 h9 (by rw [h6]; exact h10)))⟩

/-- A call through a function value, in whatever frame. -/
theorem callv_sim (G : Good P) {fv fv' : Value} {args args' : Array Value} {ρ : Rho} {σ : CSt} {w : World} {Q : Out → CSt → Prop} (h : callv latP (SimT P) fv args none σ Q) (hR : R P ρ σ w) (hv : VR ρ fv fv') (ha : AsR ρ args args') :
    (∃ f as0, (do let d ← Deferred.ofValue fv' args'; invoke d.target d.args).run P w = .ok (.enter f as0) w ∧ ∀ c cs, PopOk P (lone (Frame.enter P f as0 .normal) (c :: cs) w) c cs ρ σ w Q) ∨
    (∃ l f tmps asg body, (do let d ← Deferred.ofValue fv' args'; invoke d.target d.args).run P w = .ok (.round l f tmps asg body) w ∧ ∀ c cs, PopOk P (lone (Frame.round l f tmps asg body .normal) (c :: cs) w) c cs ρ σ w Q) := by
  unfold callv at h
  split at h
  · rename_i g first captured
    obtain ⟨bs, ds, rfl, h1, h2⟩ := hv.funcF
    obtain ⟨⟨fn, hf, hb⟩, hs⟩ := h
    have hng := G.ng g fn hf hb
    refine .inl ⟨g, bs ++ args' ++ ds, ?_, fun c cs => ?_⟩
    · have hb' : fn.body.isNone = false := by cases hbb : fn.body <;> simp_all
      simp only [Deferred.ofValue, Sem.run_bind, Sem.run_pure, Result.andThen_ok, invoke, callFunc, run_program, hf]
      rw [hng, hb']
      rfl
    · have := hs ρ w (bs ++ args' ++ ds) (c :: cs) hR ((h1.append ha).append h2) rfl
      exact this.pop
  · rename_i l first captured
    simp only [Option.isSome_none, Bool.false_eq_true, if_false] at h
    obtain ⟨p, bs, ds, hp, rfl, h1, h2⟩ := hv.funcY
    obtain ⟨⟨st, pend, fn, tm, sz, ps, asg, body, hg⟩, hs⟩ := h
    obtain ⟨r, g1, _⟩ := hR.obj l _ p hg hp
    have hargs : AsR ρ (first ++ args) (bs ++ args') := h1.append ha
    have hsz : (bs ++ args').size = r.params.size := (hs ρ w (bs ++ args') p r default [] hR hargs hp g1).1
    refine .inr ⟨p.b, r.fn, _, r.assign, r.body, ?_, fun c cs => (hs ρ w (bs ++ args') p r c cs hR hargs hp g1).2⟩
    have hgo : (Instr.getLoop p.b).run P w = .ok r w := by simp [Instr.getLoop, getObj, Sem.run, g1]
    simp only [Deferred.ofValue, Sem.run_bind, Sem.run_pure, Result.andThen_ok, invoke, Instr.yield, hgo, hsz]
    simp
  · exact h.elim
end
end Go.Sm
/- Soundness of the rules: code, operations. -/
set_option linter.unusedVariables false
set_option linter.unusedSimpArgs false
namespace Go.Sm
open Go

section
variable {P : Program}

theorem FrmB.of {B : Nat} {ρ ρ' : Rho} {σ σ' : CSt} {w w' : World} (h : Frm ρ σ w ρ' σ' w') (hB : B ≤ w.heap.size) : FrmB B ρ σ w ρ' σ' w' := h.toB hB

/-- Something in a row: the first one's way out is the whole's, unless it is the plain one. -/
theorem SimC.then {x : Ctx} {a : CAct} {σ : CSt} {todo₁ todo₂ : List Item → List Item} {Q : Out → CSt → Prop} {it : Item} (hp : passes it)
    (h : SimC P x a σ todo₁ (fun o σ' => match o with | .code .normal a' => SimC P x a' σ' (fun k => it :: k) Q | o => Q o σ'))
    (hs : ∀ (b : Frame) (ac : Act) (k : List Item) (cs : List Frame) (w : World), Steps P (lone (atR b ac (todo₂ k)) cs w) (lone (atR b ac (todo₁ (it :: k))) cs w)) : SimC P x a σ todo₂ Q := by
  intro B ρ w ac b k cs hB hR hA hF ht
  obtain ⟨e, a₁, σ₁, ρ₁, w₁, ac₁, hq, hR₁, hA₁, hf₁, ht₁, harr⟩ := h B ρ w ac b (it :: k) cs hB hR hA hF ht
  have harr := ArrC.of_steps (hs b ac k (csOf cs a.tk) w) harr
  cases e with
  | normal =>
    obtain ⟨e₂, a₂, σ₂, ρ₂, w₂, ac₂, hq₂, hR₂, hA₂, hf₂, ht₂, harr₂⟩ := hq B ρ₁ w₁ ac₁ b k cs (Nat.le_trans hB hf₁.size) hR₁ hA₁ (hF.mono hf₁.le) ht₁
    exact ⟨e₂, a₂, σ₂, ρ₂, w₂, ac₂, hq₂, hR₂, hA₂, hf₁.trans hf₂, ht₂, .of_steps harr harr₂⟩
  | exit i => exact ⟨_, a₁, σ₁, ρ₁, w₁, ac₁, hq, hR₁, hA₁, hf₁, ht₁, harr.pass hp (by simp)⟩
  | goto l => exact ⟨_, a₁, σ₁, ρ₁, w₁, ac₁, hq, hR₁, hA₁, hf₁, ht₁, harr.pass hp (by simp)⟩
  | ret => exact ⟨_, a₁, σ₁, ρ₁, w₁, ac₁, hq, hR₁, hA₁, hf₁, ht₁, harr.pass hp (by simp)⟩
  | panic v => exact ⟨_, a₁, σ₁, ρ₁, w₁, ac₁, hq, hR₁, hA₁, hf₁, ht₁, harr.pass hp (by simp)⟩

theorem SimC.steps {x : Ctx} {a : CAct} {σ : CSt} {todo₁ todo₂ : List Item → List Item} {Q : Out → CSt → Prop} (h : SimC P x a σ todo₁ Q)
    (hs : ∀ (b : Frame) (ac : Act) (k : List Item) (cs : List Frame) (w : World), Steps P (lone (atR b ac (todo₂ k)) cs w) (lone (atR b ac (todo₁ k)) cs w)) : SimC P x a σ todo₂ Q := by
  intro B ρ w ac b k cs hB hR hA hF ht
  obtain ⟨e, a₁, σ₁, ρ₁, w₁, ac₁, hq, hR₁, hA₁, hf₁, ht₁, harr⟩ := h B ρ w ac b k cs hB hR hA hF ht
  exact ⟨e, a₁, σ₁, ρ₁, w₁, ac₁, hq, hR₁, hA₁, hf₁, ht₁, .of_steps (hs b ac k (csOf cs a.tk) w) harr⟩

/-- A way out at once. -/
theorem SimC.now {x : Ctx} {a : CAct} {σ : CSt} {todo : List Item → List Item} {Q : Out → CSt → Prop} {e : CEx} (hq : Q (.code e a) σ)
    (hs : ∀ (ρ : Rho) (b : Frame) (ac : Act) (k : List Item) (cs : List Frame) (w : World), ArrC P (lone (atR b ac (todo k)) cs w) b k cs ρ ac w e) : SimC P x a σ todo Q :=
  fun B ρ w ac b k cs hB hR hA hF ht => ⟨e, a, σ, ρ, w, ac, hq, hR, hA, Frm.refl .., ht, hs _ _ _ _ _ _⟩

theorem sim_skip {x : Ctx} {a : CAct} {σ : CSt} {Q : Out → CSt → Prop} (hq : Q (.code .normal a) σ) : SimC P x a σ (fun k => .code .skip :: k) Q := .now hq fun _ _ _ _ _ _ => .one st_skip
theorem sim_label {x : Ctx} {a : CAct} {σ : CSt} {l : Nat} {Q : Out → CSt → Prop} (hq : Q (.code .normal a) σ) : SimC P x a σ (fun k => .code (.label l) :: k) Q := .now hq fun _ _ _ _ _ _ => .one st_label

theorem sim_block {x : Ctx} {a : CAct} {σ : CSt} {id : Nat} {c : Code} {Q : Out → CSt → Prop}
    (h : SimC P x a σ (fun k => .code c :: k) (fun o σ' => match o with | .code (.exit i) a' => if i = id then Q (.code .normal a') σ' else Q o σ' | o => Q o σ')) : SimC P x a σ (fun k => .code (.block id c) :: k) Q := by
  intro B ρ w ac b k cs hB hR hA hF ht
  obtain ⟨e, a₁, σ₁, ρ₁, w₁, ac₁, hq, hR₁, hA₁, hf₁, ht₁, harr⟩ := h B ρ w ac b (.inBlock id :: k) cs hB hR hA hF ht
  have hs := fun cs => Steps.one (st_block (P := P) (b := b) (a := ac) (k := k) (cs := cs) (w := w) (id := id) (c := c))
  cases e with
  | normal => exact ⟨.normal, a₁, σ₁, ρ₁, w₁, ac₁, hq, hR₁, hA₁, hf₁, ht₁, (hs _).trans (Steps.trans harr (.one st_inBlock))⟩
  | exit i =>
    obtain ⟨t, h1, h2⟩ := harr
    simp only at hq
    by_cases hi : i = id
    · rw [if_pos hi] at hq
      have : exitTo i t = some k := by rw [h1, hi]; simp [exitTo]
      exact ⟨.normal, a₁, σ₁, ρ₁, w₁, ac₁, hq, hR₁, hA₁, hf₁, ht₁, (hs _).trans (h2.trans (.one (st_exit this)))⟩
    · rw [if_neg hi] at hq
      have hb : (id == i) = false := by simp; exact fun e => hi e.symm
      exact ⟨.exit i, a₁, σ₁, ρ₁, w₁, ac₁, hq, hR₁, hA₁, hf₁, ht₁, t, by rw [h1]; simp [exitTo, hb], (hs _).trans h2⟩
  | goto l => obtain ⟨t, h1, h2⟩ := harr; exact ⟨_, a₁, σ₁, ρ₁, w₁, ac₁, hq, hR₁, hA₁, hf₁, ht₁, t, by rw [h1]; simp [gotoIn], (hs _).trans h2⟩
  | ret => obtain ⟨t, h2⟩ := harr; exact ⟨_, a₁, σ₁, ρ₁, w₁, ac₁, hq, hR₁, hA₁, hf₁, ht₁, t, (hs _).trans h2⟩
  | panic v => obtain ⟨t, v', h1, h2⟩ := harr; exact ⟨_, a₁, σ₁, ρ₁, w₁, ac₁, hq, hR₁, hA₁, hf₁, ht₁, t, v', h1, (hs _).trans h2⟩

theorem sim_scope {x : Ctx} {a : CAct} {σ : CSt} {body c : Code} {Q : Out → CSt → Prop}
    (h : SimC P x a σ (fun k => .code c :: k) (fun o σ' => match o with
      | .code (.goto l) a' => match findLabel body l with | some rest => SimC P x a' σ' (fun k => .code rest :: .inScope body :: k) Q | none => Q o σ'
      | o => Q o σ')) : SimC P x a σ (fun k => .code c :: .inScope body :: k) Q := by
  intro B ρ w ac b k cs hB hR hA hF ht
  obtain ⟨e, a₁, σ₁, ρ₁, w₁, ac₁, hq, hR₁, hA₁, hf₁, ht₁, harr⟩ := h B ρ w ac b (.inScope body :: k) cs hB hR hA hF ht
  cases e with
  | normal => exact ⟨.normal, a₁, σ₁, ρ₁, w₁, ac₁, hq, hR₁, hA₁, hf₁, ht₁, Steps.trans harr (.one st_inScope)⟩
  | goto l =>
    obtain ⟨t, h1, h2⟩ := harr
    simp only at hq
    cases hfl : findLabel body l with
    | none =>
      rw [hfl] at hq
      exact ⟨_, a₁, σ₁, ρ₁, w₁, ac₁, hq, hR₁, hA₁, hf₁, ht₁, t, by rw [h1]; simp [gotoIn, hfl], h2⟩
    | some rest =>
      rw [hfl] at hq
      have : gotoIn l t = some (.code rest :: .inScope body :: k) := by rw [h1]; simp [gotoIn, hfl]
      obtain ⟨e₂, a₂, σ₂, ρ₂, w₂, ac₂, hq₂, hR₂, hA₂, hf₂, ht₂, harr₂⟩ := hq B ρ₁ w₁ ac₁ b k cs (Nat.le_trans hB hf₁.size) hR₁ hA₁ (hF.mono hf₁.le) ht₁
      exact ⟨e₂, a₂, σ₂, ρ₂, w₂, ac₂, hq₂, hR₂, hA₂, hf₁.trans hf₂, ht₂, .of_steps (h2.trans (.one (st_goto this))) harr₂⟩
  | exit i => obtain ⟨t, h1, h2⟩ := harr; exact ⟨_, a₁, σ₁, ρ₁, w₁, ac₁, hq, hR₁, hA₁, hf₁, ht₁, t, by rw [h1]; simp [exitTo], h2⟩
  | ret => exact ⟨_, a₁, σ₁, ρ₁, w₁, ac₁, hq, hR₁, hA₁, hf₁, ht₁, harr⟩
  | panic v => exact ⟨_, a₁, σ₁, ρ₁, w₁, ac₁, hq, hR₁, hA₁, hf₁, ht₁, harr⟩

/-! ### Operations in their order -/
theorem evOk {B : Nat} {ρ : Rho} {σ : CSt} {w : World} {a : CAct} {ac : Act} (hR : R P ρ σ w) (hA : AR B ρ σ w a ac) (o : Oper) : ∀ x ∈ o.op.operands, VR ρ (a.eval x) (ac.eval x) := fun x _ => hA.eval hR x

theorem defer_rnd {ρ : Rho} {x : Ctx} {b : Frame} {cs : List Frame} (hF : FrOk ρ x b cs) {o : Oper} (h : x.rnd = none ∨ ∀ c, o.op ≠ .defer c) : b.roundOf = none ∨ ∀ c, o.op ≠ .defer c := by
  rcases h with h | h
  · left
    have := hF.rnd
    rw [h] at this
    cases hb : b.roundOf with
    | none => rfl
    | some r => rw [hb] at this; exact this.elim
  · exact .inr h

theorem not_defer {σ : CSt} {ev : Operand → Value} {o : Oper} (h : ∀ d, cop P σ ev o ≠ .defer d) (h2 : cop P σ ev o ≠ .fail) : ∀ c, o.op ≠ .defer c := by
  intro c hop
  unfold cop at h h2
  rw [hop] at h h2
  simp only at h h2
  split at h2
  · rename_i f hf
    split at h2
    · rename_i g fs cs hg
      simp only [hf, hg] at h
      exact h _ rfl
    · exact h2 rfl
  · exact h2 rfl

theorem atR_finish_region (b : Frame) (ac : Act) (ops : Array Oper) (i : Nat) (rest : List Nat) (k : List Item) (o : Oper) (ho : ops[i]? = some o) (v : Value) :
    (atR b ac (.inRegion ops (i :: rest) :: k)).finish v = atR b (ac.put o.dst v) (.inRegion ops rest :: k) := by
  rw [finish_atR, ho]; rfl

/-- What a function without a body answers is so. -/
def ExtOk (E : Env) : Prop := ∀ g (args : Array Value) (σ : CSt) (v : Value), E.ext g args σ = some v → ∀ (ρ : Rho) (w : World) (args' : Array Value), R E.P ρ σ w → AsR ρ args args' →
  ∃ v' w', Sw w w' ∧ (callFunc g args').run E.P w = .ok (.value v') w' ∧ VR ρ v v'

theorem AsR.nil_eq {ρ : Rho} {a : Array Value} (h : AsR ρ ⟨[]⟩ a) : a = #[] := by
  have := h.1
  exact Array.eq_empty_of_size_eq_zero (by simpa using this.symm)

theorem ext_op {E : Env} (HE : ExtOk E) {fv : Value} {args : Array Value} {σ : CSt} {v : Value} (h : extOf E fv args σ = some v) {ρ : Rho} {w : World} (hR : R E.P ρ σ w) {fv' : Value} {args' : Array Value} (hfv : VR ρ fv fv') (ha : AsR ρ args args') :
    OpOk E.P ρ σ w ((do let d ← Deferred.ofValue fv' args'; invoke d.target d.args : Sem Next).run E.P w) v σ := by
  unfold extOf at h
  split at h
  · rename_i g
    obtain ⟨bs, ds, rfl, h1, h2⟩ := hfv.funcF
    obtain rfl := h1.nil_eq
    obtain rfl := h2.nil_eq
    obtain ⟨v', w', hsw, hr, hv⟩ := HE g args σ v h ρ w args' hR ha
    obtain ⟨r1, r2⟩ := hR.same hsw
    refine ⟨.value v', v', ρ, w', ?_, .inl rfl, r1, hv, r2⟩
    simp [Deferred.ofValue, Sem.run_bind, Sem.run_pure, Result.andThen_ok, invoke, hr]
  · cases h

theorem sim_ops {E : Env} (G : Good E.P) (HE : ExtOk E) {x : Ctx} {ops : Array Oper} {todo : List Nat} {a : CAct} {σ : CSt} {Q : Out → CSt → Prop} (h : F latP E (SimT E.P) (.ops x ops todo a) σ Q) : SimC E.P x a σ (fun k => .inRegion ops todo :: k) Q := by
  simp only [F] at h
  cases todo with
  | nil => exact .now h fun _ _ _ _ _ _ => .one st_region_end
  | cons i rest =>
    simp only at h
    cases ho : ops[i]? with
    | none =>
      rw [ho] at h
      refine SimC.steps h fun b ac k cs w => .one ?_
      have := st_op_skip (P := E.P) (b := b) (a := ac) (k := k) (cs := cs) (w := w) (ops := ops) (i := i) (rest := rest) (by simp [ho])
      simpa [ho, Act.put] using this
    | some o =>
      rw [ho] at h
      simp only at h
      cases hw : wantedC ops a o with
      | none => rw [hw] at h; exact h.elim
      | some wb =>
        rw [hw] at h
        cases wb with
        | false =>
          intro B ρ w ac b k cs hB hR hA hF ht
          have hwf := wantedC_sound hA hw
          have hst := st_op_skip (P := E.P) (b := b) (a := ac) (k := k) (cs := csOf cs a.tk) (w := w) (ops := ops) (i := i) (rest := rest) (by simp [ho, hwf])
          rw [ho] at hst
          obtain ⟨e, a₁, σ₁, ρ₁, w₁, ac₁, hq, hR₁, hA₁, hf₁, ht₁, harr⟩ := h B ρ w (ac.put o.dst undef) b k cs hB hR (hA.put o.dst .nope) hF (by rw [CAct.tk_put]; exact ht)
          rw [CAct.tk_put] at harr
          exact ⟨e, a₁, σ₁, ρ₁, w₁, ac₁, hq, hR₁, hA₁, hf₁, ht₁, .of_steps (.one hst) harr⟩
        | true =>
          simp only at h
          intro B ρ w ac b k cs hB hR hA hF ht
          have hwt := wantedC_sound hA hw
          have hev := evOk hR hA o
          -- an operation that answers
          have value : ∀ {v : Value} {σ' : CSt}, OpOk E.P ρ σ w ((execOp ac.eval o).run E.P w) v σ' → (b.roundOf = none ∨ ∀ c, o.op ≠ .defer c) → SimC E.P x (a.put o.dst v) σ' (fun k => .inRegion ops rest :: k) Q →
              ∃ (e : CEx) (a' : CAct) (σ' : CSt) (ρ' : Rho) (w' : World) (ac' : Act), Q (.code e a') σ' ∧ R E.P ρ' σ' w' ∧ AR B ρ' σ' w' a' ac' ∧ Frm ρ σ w ρ' σ' w' ∧ (x.dk = none → a'.tk = false) ∧
                ArrC E.P (lone (atR b ac (.inRegion ops (i :: rest) :: k)) (csOf cs a.tk) w) b k (csOf cs a'.tk) ρ' ac' w' e := by
            intro v σ' hok hnd hs
            obtain ⟨n, v', ρ', w', hr, hn, hR', hv, hf⟩ := hok
            have hst := st_op_value (P := E.P) (b := b) (a := ac) (k := k) (cs := csOf cs a.tk) (rest := rest) ho hwt hnd hr hn
            obtain ⟨e, a₁, σ₁, ρ₁, w₁, ac₁, hq, hR₁, hA₁, hf₁, ht₁, harr⟩ := hs B ρ' w' (ac.put o.dst v') b k cs (Nat.le_trans hB hf.size) hR' ((hA.frm hf).put o.dst hv) (hF.mono hf.le) (by rw [CAct.tk_put]; exact ht)
            rw [CAct.tk_put] at harr
            exact ⟨e, a₁, σ₁, ρ₁, w₁, ac₁, hq, hR₁, hA₁, hf.trans hf₁, ht₁, .of_steps (.one hst) harr⟩
          cases hc : cop E.P σ a.eval o with
          | val v σ' =>
            rw [hc] at h
            exact value (cop_val hR hev hc) (.inr (not_defer (by rw [hc]; intro d; simp) (by rw [hc]; simp))) h
          | pick n kk =>
            rw [hc] at h
            obtain ⟨j, h1, h2, hok⟩ := cop_pick hR hev hc
            refine value hok (.inr (not_defer (by rw [hc]; intro d; simp) (by rw [hc]; simp))) ?_
            simp only [picks] at h
            by_cases hn : n ≤ 1
            · rw [if_pos hn] at h; rw [h1 hn]; exact h
            · rw [if_neg hn] at h; exact h j (h2 (by omega))
          | every p kk =>
            rw [hc] at h
            obtain ⟨j, h1, hok⟩ := cop_every hR hev hc
            exact value hok (.inr (not_defer (by rw [hc]; intro d; simp) (by rw [hc]; simp))) (h j h1)
          | call fv args =>
            rw [hc] at h
            obtain ⟨fv', args', hfv, hargs, hex⟩ := cop_call hev hc
            have hnd : b.roundOf = none ∨ ∀ c, o.op ≠ .defer c := .inr (not_defer (by rw [hc]; intro d; simp) (by rw [hc]; simp))
            simp only at h
            cases hx : extOf E fv args σ with
            | some v =>
              rw [hx] at h
              exact value (by rw [hex]; exact ext_op HE hx hR hfv hargs) hnd h
            | none =>
            rw [hx] at h
            -- behind the call
            have fin : ∀ m, Steps E.P (lone (atR b ac (.inRegion ops (i :: rest) :: k)) (csOf cs a.tk) w) m → PopOk E.P m (atR b ac (.inRegion ops (i :: rest) :: k)) (csOf cs a.tk) ρ σ w (fun out σ' => match out with
                | .ret v _ => SimT E.P (.ops x ops rest (a.put o.dst v)) σ' Q | .pan v => Q (.code (.panic v) a) σ' | _ => False) →
                ∃ (e : CEx) (a' : CAct) (σ' : CSt) (ρ' : Rho) (w' : World) (ac' : Act), Q (.code e a') σ' ∧ R E.P ρ' σ' w' ∧ AR B ρ' σ' w' a' ac' ∧ Frm ρ σ w ρ' σ' w' ∧ (x.dk = none → a'.tk = false) ∧
                  ArrC E.P (lone (atR b ac (.inRegion ops (i :: rest) :: k)) (csOf cs a.tk) w) b k (csOf cs a'.tk) ρ' ac' w' e := by
              intro m hm hp
              rcases hp with ⟨v, tk, σ', ρ', w', v', hq, hR', hf, hv, hs⟩ | ⟨v, σ', ρ', w', v', hq, hR', hf, hv, hs⟩
              · rw [atR_finish_region b ac ops i rest k o ho] at hs
                obtain ⟨e, a₁, σ₁, ρ₁, w₁, ac₁, hq₁, hR₁, hA₁, hf₁, ht₁, harr⟩ := hq B ρ' w' (ac.put o.dst v') b k cs (Nat.le_trans hB hf.size) hR' ((hA.frm hf).put o.dst hv) (hF.mono hf.le) (by rw [CAct.tk_put]; exact ht)
                rw [CAct.tk_put] at harr
                exact ⟨e, a₁, σ₁, ρ₁, w₁, ac₁, hq₁, hR₁, hA₁, hf.trans hf₁, ht₁, .of_steps (hm.trans hs) harr⟩
              · exact ⟨.panic v, a, σ', ρ', w', ac, hq, hR', hA.frm hf, hf, ht, _, v', hv, hm.trans hs⟩
            rcases callv_sim G h hR hfv hargs with ⟨f, as0, hr, hp⟩ | ⟨l, f, tmps, asg, body, hr, hp⟩
            · rw [← hex] at hr
              exact fin _ (.one (st_op_enter ho hwt hnd hr)) (hp _ _)
            · rw [← hex] at hr
              exact fin _ (.one (st_op_round ho hwt hnd hr)) (hp _ _)
          | panic v =>
            rw [hc] at h
            obtain ⟨v', hv, hr⟩ := cop_panic hev hc w
            exact ⟨.panic v, a, σ, ρ, w, ac, h, hR, hA, Frm.refl .., ht, _, v', hv, .one (st_op_panic ho hwt (.inr (not_defer (by rw [hc]; intro d; simp) (by rw [hc]; simp))) hr)⟩
          | defer d =>
            rw [hc] at h
            simp only at h
            cases hrn : x.rnd with
            | some l => rw [hrn] at h; exact h.elim
            | none =>
              rw [hrn] at h
              simp only [Option.isSome_none, Bool.false_eq_true, if_false] at h
              obtain ⟨g, fs, cs', bs, ds, args', hd1, hd2, hd3, hd4, hr⟩ := cop_defer hev hc w
              have hb := defer_rnd hF (o := o) (.inl hrn)
              have hb' : b.roundOf = none := by
                have := hF.rnd
                rw [hrn] at this
                cases hbb : b.roundOf with
                | none => rfl
                | some r => rw [hbb] at this; exact this.elim
              have hst := st_op_defer (P := E.P) (b := b) (a := ac) (k := k) (cs := csOf cs a.tk) (rest := rest) ho hwt hb' hr
              have hA' : AR B ρ σ w ({ a with df := d :: a.df }.put o.dst undef) ({ ac with defers := { target := .fn (.func g) ds, args := bs ++ args' } :: ac.defers }.put o.dst undef) :=
                AR.put (a := { a with df := d :: a.df }) (ac := { ac with defers := { target := .fn (.func g) ds, args := bs ++ args' } :: ac.defers }) ⟨hA.sz, hA.tm, .cons _ _ _ _ ⟨g, fs, cs', bs, ds, args', hd1, hd2, hd3, hd4, rfl⟩ hA.df⟩ o.dst (.junk _)
              obtain ⟨e, a₁, σ₁, ρ₁, w₁, ac₁, hq, hR₁, hA₁, hf₁, ht₁, harr⟩ := h B ρ w _ b k cs hB hR hA' hF (by rw [CAct.tk_put]; exact ht)
              rw [CAct.tk_put] at harr
              exact ⟨e, a₁, σ₁, ρ₁, w₁, ac₁, hq, hR₁, hA₁, hf₁, ht₁, .of_steps (.one hst) harr⟩
          | recover =>
            rw [hc] at h
            simp only at h
            cases hrn : x.rnd with
            | some l => rw [hrn] at h; exact h.elim
            | none =>
              rw [hrn] at h
              simp only [Option.isSome_none, Bool.false_eq_true, if_false] at h
              have hr := cop_recover (ev' := ac.eval) hc w
              have hb' : b.roundOf = none := by
                have := hF.rnd
                rw [hrn] at this
                cases hbb : b.roundOf with
                | none => rfl
                | some r => rw [hbb] at this; exact this.elim
              have hdk := hF.dk
              -- nothing to recover
              have nil : (b.kind = .normal ∨ (b.kind = .deferred ∧ ∃ c r, csOf cs a.tk = c :: r ∧ (c.mode = .returning ∨ ∃ u l, c.mode = .panicking ({ v := u, recovered := true } :: l)))) →
                  SimC E.P x (a.put o.dst .nilIface) σ (fun k => .inRegion ops rest :: k) Q →
                  ∃ (e : CEx) (a' : CAct) (σ' : CSt) (ρ' : Rho) (w' : World) (ac' : Act), Q (.code e a') σ' ∧ R E.P ρ' σ' w' ∧ AR B ρ' σ' w' a' ac' ∧ Frm ρ σ w ρ' σ' w' ∧ (x.dk = none → a'.tk = false) ∧
                    ArrC E.P (lone (atR b ac (.inRegion ops (i :: rest) :: k)) (csOf cs a.tk) w) b k (csOf cs a'.tk) ρ' ac' w' e := by
                intro hk hs
                have hst := st_op_recover (P := E.P) (b := b) (a := ac) (k := k) (cs := csOf cs a.tk) (rest := rest) ho hwt hb' hr (v := .nilIface) (cs' := csOf cs a.tk) (by
                  rcases hk with hk | ⟨hk, c, r, h1, h2⟩
                  · exact .inl ⟨hk, rfl, rfl⟩
                  · exact .inr ⟨hk, c, r, h1, .inl ⟨rfl, rfl, h2⟩⟩)
                obtain ⟨e, a₁, σ₁, ρ₁, w₁, ac₁, hq, hR₁, hA₁, hf₁, ht₁, harr⟩ := hs B ρ w (ac.put o.dst .nilIface) b k cs hB hR (hA.put o.dst (.plain _ rfl)) hF (by rw [CAct.tk_put]; exact ht)
                rw [CAct.tk_put] at harr
                exact ⟨e, a₁, σ₁, ρ₁, w₁, ac₁, hq, hR₁, hA₁, hf₁, ht₁, .of_steps (.one hst) harr⟩
              cases hxd : x.dk with
              | none =>
                rw [hxd] at h hdk
                rw [hxd] at nil
                exact nil (.inl hdk) (by cases hat : a.tk <;> (rw [hat] at h; exact h))
              | some m =>
                rw [hxd] at h hdk nil
                cases m with
                | none =>
                  obtain ⟨hk, c, r, rfl, hm⟩ := hdk
                  refine nil (.inr ⟨hk, ?_⟩) (by cases hat : a.tk <;> (rw [hat] at h; exact h))
                  cases a.tk with
                  | false => exact ⟨c, r, rfl, .inl hm⟩
                  | true => exact ⟨markRec c, r, rfl, .inl (by simp [markRec, hm])⟩
                | some v =>
                  obtain ⟨hk, c, r, v', rfl, hm, hv⟩ := hdk
                  cases hat : a.tk with
                  | true =>
                    rw [hat] at h nil
                    refine nil (.inr ⟨hk, markRec c, r, rfl, .inr ⟨v', [], by simp [markRec, hm]⟩⟩) h
                  | false =>
                    rw [hat] at h
                    simp only at h
                    have hst := st_op_recover (P := E.P) (b := b) (a := ac) (k := k) (cs := c :: r) (rest := rest) ho hwt hb' hr (v := v') (cs' := csOf (c :: r) true) (.inr ⟨hk, c, r, rfl, .inr ⟨[], hm, by simp [csOf, markRec, hm]⟩⟩)
                    have hA' : AR B ρ σ w ({ a with tk := true }.put o.dst v) (ac.put o.dst v') := AR.put (a := { a with tk := true }) ⟨hA.sz, hA.tm, hA.df⟩ o.dst hv
                    obtain ⟨e, a₁, σ₁, ρ₁, w₁, ac₁, hq, hR₁, hA₁, hf₁, ht₁, harr⟩ := h B ρ w (ac.put o.dst v') b k (c :: r) hB hR hA' hF (by rw [hxd]; intro e; cases e)
                    rw [CAct.tk_put] at harr
                    exact ⟨e, a₁, σ₁, ρ₁, w₁, ac₁, hq, hR₁, hA₁, hf₁, (by intro e; cases e), .of_steps (.one hst) harr⟩
          | fail => rw [hc] at h; exact h.elim
end
end Go.Sm
/- Soundness of the rules: functions, deferred calls, rounds, ranges over functions. -/
set_option linter.unusedVariables false
set_option linter.unusedSimpArgs false
namespace Go.Sm
open Go

section
variable {P : Program}

/-! ### A block that is none of the objects' -/
theorem OR.other {ρ : Rho} {p : Place} {w w' : World} {o : CObj} {r : Nat} {x : Option (List Deferred)} {o' : Obj} (h : OR P ρ p w o) (hr : w.heap[r]? = some (.deferred x)) (wr : Wr w w' r o') : OR P ρ p w' o := by
  have key : ∀ {y : Obj}, w.heap[p.b]? = some y → (∀ z, y ≠ .deferred z) → w'.heap[p.b]? = w.heap[p.b]? := by
    intro y hy hn
    rw [wr.at_, if_neg]
    intro e
    rw [e, hr] at hy
    cases hy
    exact hn _ rfl
  cases o with
  | cells c e ro =>
    cases ro with
    | true =>
      refine ⟨h.1, fun k u => ?_⟩
      obtain ⟨v', h1, h2⟩ := h.2 k u
      refine ⟨v', ?_, h2⟩
      rw [← h1]
      simp only [World.cell?] at h1 ⊢
      cases hy : w.heap[p.b]? with
      | none => rw [hy] at h1; cases h1
      | some y => rw [key hy (by intro z e; subst e; rw [hy] at h1; cases h1), hy]
    | false => obtain ⟨_, cc, fz, h1, _⟩ := id h; exact h.congr (key h1 (by simp))
  | map es n => obtain ⟨es', h1, _⟩ := id h; exact h.congr (key h1 (by simp))
  | siter s n => exact h.congr (key h.1 (by simp))
  | miter m a b c => obtain ⟨_, m', h1, _⟩ := id h; exact h.congr (key h1 (by simp))
  | loop st pend fn tm sz ps asg body => obtain ⟨r', h1, _⟩ := id h; exact h.congr (key h1 (by simp))
  | dead => trivial

theorem R.other {ρ : Rho} {σ : CSt} {w w' : World} {r : Nat} {x : Option (List Deferred)} {o' : Obj} (h : R P ρ σ w) (hr : w.heap[r]? = some (.deferred x)) (wr : Wr w w' r o') : R P ρ σ w' :=
  ⟨h.dom, h.tot, fun i p a b => Nat.lt_of_lt_of_le (h.lt i p a b) wr.size, fun i o p a b => (h.obj i o p a b).other hr wr, h.inj, h.glob, h.gn⟩

theorem R.beyond {ρ : Rho} {σ : CSt} {w w' : World} {o' : Obj} (h : R P ρ σ w) (wr : Wr w w' w.heap.size o') : R P ρ σ w' ∧ Frm ρ σ w ρ σ w' := by
  refine ⟨⟨h.dom, h.tot, fun i p a b => Nat.lt_of_lt_of_le (h.lt i p a b) wr.size, fun i o p a b => ?_, h.inj, h.glob, h.gn⟩, ρ.le_refl, wr.os, wr.tape, wr.output, wr.size, fun k hk _ => ?_, fun i p a b => .inr ⟨i, p, a, b, rfl⟩⟩
  · by_cases hd : o = .dead
    · subst hd; trivial
    · refine (h.obj i o p a b).congr ?_
      rw [wr.at_, if_neg]
      have := h.lt i p b ⟨o, a, hd⟩
      omega
  · rw [wr.at_, if_neg (by omega)]

/-! ### Results -/
theorem results_sound {B : Nat} {ρ : Rho} {σ : CSt} {w : World} {a : CAct} {ac : Act} (hR : R P ρ σ w) (hA : AR B ρ σ w a ac) (f : ResultVar → Sem Value) (hf1 : ∀ t, f (.tmp t) = pure (ac.tmps.getD t undef))
    (hf2 : ∀ t ty, f (.cell t ty) = (do loadVar ty (← asAddr (ac.tmps.getD t undef)))) : ∀ (l : List ResultVar) (vs : List Value), resultsL P σ a l = some vs → ∃ vs', (l.mapM f).run P w = .ok vs' w ∧ LR ρ vs vs'
  | [], vs, h => by simp only [resultsL, Option.some.injEq] at h; subst h; exact ⟨[], by simp, .nil ρ⟩
  | .tmp t :: l, vs, h => by
    simp only [resultsL, Option.map_eq_some_iff] at h
    obtain ⟨r, hr, rfl⟩ := h
    obtain ⟨r', h1, h2⟩ := results_sound hR hA f hf1 hf2 l r hr
    exact ⟨_, by simp only [List.mapM_cons, hf1, Sem.run_bind, Sem.run_pure, Result.andThen_ok, h1], .cons (hA.tm t) h2⟩
  | .cell t ty :: l, vs, h => by
    simp only [resultsL] at h
    split at h
    · rename_i v hv
      simp only [Option.map_eq_some_iff] at h
      obtain ⟨r, hr, rfl⟩ := h
      obtain ⟨r', h1, h2⟩ := results_sound hR hA f hf1 hf2 l r hr
      obtain ⟨v', h3, h4⟩ := load_sound hR (hA.tm t) hv
      have h5 : (f (.cell t ty)).run P w = .ok v' w := by
        have hp : ∃ x, ac.tmps.getD t undef = .pointer (some x) := by
          unfold loadAt at hv
          split at hv
          · rename_i hx
            have := hA.tm t
            rw [hx] at this
            exact this.ptrS
          · cases hv
        obtain ⟨x, hx⟩ := hp
        rw [hf2]
        rw [hx] at h3 ⊢
        simpa [Instr.loadAt, Instr.sureAddr, asAddr] using h3
      exact ⟨_, by simp only [List.mapM_cons]; rw [Sem.run_bind, h5]; simp only [Result.andThen_ok, Sem.run_bind, h1, Sem.run_pure], .cons h4 h2⟩
    · cases h

theorem resultsOf_sound {B : Nat} {ρ : Rho} {σ : CSt} {w : World} {a : CAct} {ac : Act} (hR : R P ρ σ w) (hA : AR B ρ σ w a ac) {fn : Func} {v : Value} (h : resultsOf P σ fn a = some v) : ∃ v', (results fn ac.tmps).run P w = .ok v' w ∧ VR ρ v v' := by
  unfold resultsOf at h
  have key : ∀ vs, resultsL P σ a fn.results.toList = some vs → ∃ vs' : List Value, LR ρ vs vs' ∧ (results fn ac.tmps).run P w = .ok (if h : vs'.toArray.size = 1 then vs'.toArray[0] else .tuple vs'.toArray) w := by
    intro vs hvs
    unfold results
    rw [Array.mapM_eq_mapM_toList, Sem.run_bind, Sem.run_map]
    generalize hfn : (fun x : ResultVar => (_ : Sem Value)) = f
    obtain ⟨vs', h1, h2⟩ := results_sound hR hA f (fun t => by rw [← hfn]) (fun t ty => by rw [← hfn]) _ _ hvs
    refine ⟨vs', h2, ?_⟩
    rw [h1]
    simp only [Result.andThen_ok, Sem.run_pure]
  split at h
  · rename_i v0 hv
    cases h
    obtain ⟨vs', h1, h2⟩ := key _ hv
    match vs', h1 with
    | [v'], h1 => exact ⟨v', by simpa using h2, h1.head⟩
    | [], h1 => exact absurd h1.1 (by simp)
    | _ :: _ :: _, h1 => exact absurd h1.1 (by simp)
  · rename_i l hne hl
    cases h
    obtain ⟨vs', h1, h2⟩ := key _ hl
    refine ⟨.tuple vs'.toArray, ?_, .tuple _ _ h1.toArray.1 h1.toArray.2⟩
    rw [h2, dif_neg]
    have := h1.1
    intro e
    simp at e
    rw [e] at this
    match l, this, hne with
    | [x], _, hne => exact hne x rfl
  · cases h

/-! ### The end of a function: its deferred calls -/
theorem st_unw_mark {fr : Frame} {cs : List Frame} {w w' : World} {r : Nat} {as0 : Array Value} {ds : List Deferred} (hm : fr.mode ≠ .run) (hd : fr.defers = { target := .collected r, args := as0 } :: ds)
    (hr : (Instr.takeDeferred r).run P w = .ok [] w') : step P (lone fr cs w) = .next (lone { fr with defers := ds } cs w') := by
  refine step_lone_go ?_
  obtain ⟨fn, tmps, todo, defers, mode, kind, rnd⟩ := fr
  simp only at hm hd
  subst hd
  cases mode with
  | run => exact absurd rfl hm
  | returning => simp [stepG, unwind, hr]
  | panicking c => simp [stepG, unwind, hr]

theorem st_unw_call {fr : Frame} {cs : List Frame} {w : World} {g : FuncId} {cap as0 : Array Value} {ds : List Deferred} {fn : Func} (G : Good P) (hm : fr.mode ≠ .run) (hd : fr.defers = { target := .fn (.func g) cap, args := as0 } :: ds)
    (hf : P.funcs[g]? = some fn) (hb : fn.body.isSome = true) :
    step P (lone fr cs w) = .next (lone (Frame.enter P g (as0 ++ cap) .deferred) ({ fr with defers := ds } :: cs) w) := by
  have hng := G.ng g fn hf hb
  have hb' : fn.body.isNone = false := by cases hbb : fn.body <;> simp_all
  have hi : (invoke (.fn (.func g) cap) as0).run P w = .ok (.enter g (as0 ++ cap)) w := by
    simp only [invoke, callFunc, Sem.run_bind, run_program, Result.andThen_ok, hf]
    rw [hng, hb']
    rfl
  refine step_lone_go ?_
  obtain ⟨fn', tmps, todo, defers, mode, kind, rnd⟩ := fr
  simp only at hm hd
  subst hd
  cases mode with
  | run => exact absurd rfl hm
  | returning => simp [stepG, unwind, callDeferred, hi]
  | panicking c => simp [stepG, unwind, callDeferred, hi]

theorem st_back_plain {fr c : Frame} {cs : List Frame} {w : World} {v : Value} {fn : Func} (hm : fr.mode = .returning) (hd : fr.defers = []) (hk : fr.kind = .deferred) (hf : P.funcs[fr.fn]? = some fn) (hr : (results fn fr.tmps).run P w = .ok v w)
    (hc : c.mode = .returning ∨ ∃ u, c.mode = .panicking [{ v := u, recovered := false }]) : step P (lone fr (c :: cs) w) = .next (lone c cs w) := by
  rcases hc with hc | ⟨u, hc⟩
  · exact step_lone_go (by simp [stepG, unwind, doReturn, hm, hd, hk, hf, hr, hc])
  · exact step_lone_go (by simp [stepG, unwind, doReturn, hm, hd, hk, hf, hr, hc])
theorem st_back_recovered {fr c : Frame} {cs : List Frame} {w : World} {v u : Value} {fn : Func} (hm : fr.mode = .returning) (hd : fr.defers = []) (hk : fr.kind = .deferred) (hf : P.funcs[fr.fn]? = some fn) (hr : (results fn fr.tmps).run P w = .ok v w)
    (hc : c.mode = .panicking [{ v := u, recovered := true }]) : step P (lone fr (c :: cs) w) = .next (lone { c with mode := .returning } cs w) :=
  step_lone_go (by simp [stepG, unwind, doReturn, hm, hd, hk, hf, hr, hc])

theorem DfR.keep {B : Nat} {ρ : Rho} {σ : CSt} {w w' : World} {r : Nat} {o : Obj} {l : List CDef} {l' : List Deferred} (wr : Wr w w' r o) (hn : ∀ d ∈ l', ∀ q, d.target = .collected q → q ≠ r) (h : DfR B ρ σ w l l') : DfR B ρ σ w' l l' := by
  induction h with
  | nil => exact .nil
  | cons d d' l l' h _ ih => exact .cons d d' l l' h (ih fun e he => hn e (by simp [he]))
  | mark q l l' h hn' _ ih =>
    refine .mark q l l' ⟨?_, h.2.1, h.2.2⟩ hn' (ih fun e he => hn e (by simp [he]))
    rw [wr.at_, if_neg (hn { target := .collected q, args := #[] } (by simp) q rfl)]
    exact h.1

theorem FrmB.refl (B : Nat) (ρ : Rho) (σ : CSt) (w : World) : FrmB B ρ σ w ρ σ w := ⟨ρ.le_refl, rfl, rfl, rfl, Nat.le_refl _, fun _ _ _ => rfl, fun i p a b => .inr ⟨i, p, a, b, rfl⟩⟩

/-- The marks ahead of the first call are taken. -/
theorem marks_gone {B : Nat} {ρ : Rho} {σ : CSt} : ∀ (l' : List Deferred) {l : List CDef} {w : World}, DfR B ρ σ w l l' → ∀ (fr : Frame) (cs : List Frame), fr.mode ≠ .run → fr.defers = l' → R P ρ σ w →
    ∃ (w' : World) (l'' : List Deferred), Steps P (lone fr cs w) (lone { fr with defers := l'' } cs w') ∧ R P ρ σ w' ∧ FrmB B ρ σ w ρ σ w' ∧ DfR B ρ σ w' l l'' ∧ (∀ q as0 ds, l'' ≠ { target := .collected q, args := as0 } :: ds)
  | [], l, w, h, fr, cs, hm, hd, hR => ⟨w, [], by rw [← hd]; exact Steps.refl .., hR, .refl .., h, by simp⟩
  | d0 :: l', l, w, h, fr, cs, hm, hd, hR => by
    cases h with
    | cons d d' l l' h t =>
      refine ⟨w, d0 :: l', by rw [← hd]; exact Steps.refl .., hR, .refl .., .cons _ _ _ _ h t, ?_⟩
      intro q as0 ds e
      obtain ⟨g, fs, cs', bs, ds', as0', h1, h2, h3, h4, h5⟩ := h
      rw [h5] at e
      cases e
    | mark r l l' h hn t =>
      have hlt := (Array.getElem?_eq_some_iff.1 h.1).1
      have wr := Wr.set w (.deferred none) hlt
      have hrun : (Instr.takeDeferred r).run P w = .ok [] { w with heap := w.heap.setIfInBounds r (.deferred none) } := by
        simp [Instr.takeDeferred, getObj, setObj, Sem.run, h.1]
      have hst := st_unw_mark (P := P) (cs := cs) hm hd hrun
      obtain ⟨w', l'', h1, h2, h3, h4, h5⟩ := marks_gone l' (t.keep wr hn) { fr with defers := l' } cs hm rfl (hR.other h.1 wr)
      refine ⟨w', l'', .head hst h1, h2, ?_, h4, h5⟩
      refine FrmB.trans ⟨ρ.le_refl, wr.os, wr.tape, wr.output, wr.size, fun k hk _ => ?_, fun i p a b => .inr ⟨i, p, a, b, rfl⟩⟩ h3
      rw [wr.at_, if_neg]
      have := h.2.1
      omega

theorem FnOk.pre {B : Nat} {m m₂ : Machine} {f : FuncId} {cs : List Frame} {dk : Option (Option Value)} {ρ ρ₂ : Rho} {σ σ₂ : CSt} {w w₂ : World} {Q : Out → CSt → Prop} (h : FnOk B P m₂ f cs dk ρ₂ σ₂ w₂ Q) (hs : Steps P m m₂)
    (hf : FrmB B ρ σ w ρ₂ σ₂ w₂) : FnOk B P m f cs dk ρ σ w Q := by
  rcases h with ⟨v, tk, σ', ρ', w', v', fr, h1, h2, h3, h4, h5, h6⟩ | ⟨v, σ', ρ', w', v', fr, h1, h2, h3, h4, h5, h6⟩
  · exact .inl ⟨v, tk, σ', ρ', w', v', fr, h1, h2, hf.trans h3, h4, hs.trans h5, h6⟩
  · exact .inr ⟨v, σ', ρ', w', v', fr, h1, h2, hf.trans h3, h4, hs.trans h5, h6⟩
theorem OptR.mono {ρ ρ' : Rho} (hr : ρ.le ρ') {a b : Option Value} (h : OptR ρ a b) : OptR ρ' a b := by
  cases a <;> cases b <;> simp only [OptR] at h ⊢
  exact h.mono hr

/-- The deferred calls are made, one behind the other. -/
theorem sim_unw {E : Env} (G : Good E.P) {x : Ctx} {a : CAct} {m : Option Value} {σ : CSt} {Q : Out → CSt → Prop} (h : F latP E (SimT E.P) (.unw x a m) σ Q) : SimUnw E.P x a m σ Q := by
  intro B ρ w ac b t cs m' hB hR hA hfn hrnd hkind hdk hmm htk
  have hmode : ∀ z : Option Value, modeOf z ≠ .run := fun z => by cases z <;> simp [modeOf, panicOf]
  obtain ⟨w₁, l'', s₁, hR₁, hf₁, hd₁, hno⟩ := marks_gone (P := E.P) ac.defers hA.df { atR b ac t with mode := modeOf m' } (csOf cs a.tk) (hmode _) rfl hR
  have hA₁ : AR B ρ σ w₁ a { ac with defers := l'' } := ⟨hA.sz, hA.tm, hd₁⟩
  simp only [F] at h
  generalize hdf : a.df = dl at h hd₁
  cases hd₁ with
  | mark r l l' h hn t => exact absurd rfl (hno r #[] l')
  | nil =>
    simp only at h
    cases m with
    | none =>
      cases m' with
      | some v => exact hmm.elim
      | none =>
        simp only at h
        split at h
        · rename_i fn hf
          split at h
          · rename_i v hv
            obtain ⟨v', h1, h2⟩ := resultsOf_sound hR₁ hA₁ hv
            exact .inl ⟨v, a.tk, σ, ρ, w₁, v', _, h, hR₁, hf₁, h2, s₁, htk, hfn, hkind, rfl, rfl, fn, hf, h1⟩
          · exact h.elim
        · exact h.elim
    | some v =>
      cases m' with
      | none => exact hmm.elim
      | some v' =>
        simp only at h
        split at h
        · exact h.elim
        · rename_i hx
          have hxn : x.dk = none := by cases hxx : x.dk <;> simp_all
          have htk' := htk hxn
          rw [htk'] at s₁ ⊢
          split at h
          · rename_i fn hf
            exact .inr ⟨v, σ, ρ, w₁, v', { atR b ac t with mode := modeOf (some v'), defers := [] }, h, hR₁, hf₁, hmm, s₁, hxn, hfn, rfl, rfl, fn, hf⟩
          · exact h.elim
  | cons d d' l l' hcd t' =>
    simp only at h
    obtain ⟨g, fs, cs₀, bs, ds, as0', e1, e2, e3, e4, rfl⟩ := hcd
    rw [e1] at h
    simp only [callv] at h
    obtain ⟨⟨fn, hf, hb⟩, hs⟩ := h
    have hB₁ : B ≤ w₁.heap.size := Nat.le_trans hB hf₁.size
    -- the frame that waits
    have hcall := st_unw_call (P := E.P) (cs := csOf cs a.tk) (w := w₁) G (fr := { atR b ac t with mode := modeOf m', defers := { target := .fn (.func g) ds, args := bs ++ as0' } :: l' }) (hmode m') rfl hf hb
    have hfn2 := hs ρ w₁ ((bs ++ as0') ++ ds) ({ atR b ac t with mode := modeOf m', defers := l' } :: csOf cs a.tk) hR₁ ((e2.append e4).append e3) (by
      cases m with
      | none => cases m' with
        | none => exact ⟨rfl, _, _, rfl, rfl⟩
        | some v => exact hmm.elim
      | some v => cases m' with
        | none => exact hmm.elim
        | some v' => exact ⟨rfl, _, _, v', rfl, rfl, hmm⟩)
    rcases hfn2 with ⟨v, tk, σ₂, ρ₂, w₂, v', fr, hq, hR₂, hf₂, hv, s₂, _, g1, g2, g3, g4, fn', g5, g6⟩ | ⟨_, _, _, _, _, _, _, _, _, _, _, hno2, _⟩
    · have hfull := hf₂.toFrm
      have hA₂ : AR B ρ₂ σ₂ w₂ { a with df := l } { ac with defers := l' } := AR.frm hfull ⟨hA.sz, hA.tm, t'⟩
      have hpre : FrmB B ρ σ w ρ₂ σ₂ w₂ := hf₁.trans (hfull.toB hB₁)
      have s₁₂ := s₁.trans (Steps.head hcall s₂)
      have fin : ∀ (m₀ : Option Value) (m₀' : Option Value), OptR ρ₂ m₀ m₀' → SimUnw E.P x { a with df := l } m₀ σ₂ Q → Steps E.P (lone fr (csOf ({ atR b ac t with mode := modeOf m', defers := l' } :: csOf cs a.tk) tk) w₂) (lone { atR b { ac with defers := l' } t with mode := modeOf m₀' } (csOf cs a.tk) w₂) →
          FnOk B E.P (lone { atR b ac t with mode := modeOf m' } (csOf cs a.tk) w) x.f cs x.dk ρ σ w Q := by
        intro m₀ m₀' hm₀ hsu hst
        exact (hsu B ρ₂ w₂ { ac with defers := l' } b t cs m₀' (Nat.le_trans hB₁ hfull.size) hR₂ hA₂ hfn hrnd hkind (hdk.mono (Rho.le_trans hf₁.le hfull.le)) hm₀ htk).pre (s₁₂.trans hst) hpre
      have hk : fr.kind = .deferred := g2
      cases tk with
      | false =>
        refine fin m m' (hmm.mono hfull.le) hq (.one (st_back_plain g3 g4 hk (by rw [g1]; exact g5) g6 ?_))
        cases m' with
        | none => exact .inl rfl
        | some v' => exact .inr ⟨v', rfl⟩
      | true =>
        refine fin none none trivial hq ?_
        cases m' with
        | none => exact .one (st_back_plain (c := markRec { atR b ac t with mode := modeOf none, defers := l' }) g3 g4 hk (by rw [g1]; exact g5) g6 (.inl rfl))
        | some v' => exact .one (st_back_recovered (c := markRec { atR b ac t with mode := modeOf (some v'), defers := l' }) g3 g4 hk (by rw [g1]; exact g5) g6 rfl)
    · cases hno2
end
end Go.Sm
/- Soundness of the rules: functions, rounds, ranges over functions. -/
set_option linter.unusedVariables false
set_option linter.unusedSimpArgs false
namespace Go.Sm
open Go

theorem enterTm_get : ∀ (l : List Value) (n : Nat) (t : Tr Value) (i : Nat), (enterTm l n t).get i = if n ≤ i ∧ i < n + l.length then l[i - n]? else t.get i
  | [], n, t, i => by simp [enterTm]; omega
  | v :: l, n, t, i => by
    rw [enterTm, enterTm_get l (n + 1) (t.set n v) i]
    simp only [List.length_cons]
    by_cases h1 : n + 1 ≤ i ∧ i < n + 1 + l.length
    · rw [if_pos h1, if_pos (by omega)]
      rw [show i - n = (i - (n + 1)) + 1 by omega]
      simp
    · rw [if_neg h1, Tr.get_set]
      by_cases h2 : i = n
      · subst h2; rw [if_pos rfl, if_pos (by omega)]; simp
      · rw [if_neg h2, if_neg (by omega)]

section
variable {P : Program}

theorem enter_AR {B : Nat} {ρ : Rho} {σ : CSt} {w : World} {fn : Func} {args args' : Array Value} (h : AsR ρ args args') :
    AR B ρ σ w (enterAct fn args) { tmps := args' ++ Array.replicate (fn.ntmps - args'.size) undef, defers := [] } := by
  refine ⟨?_, fun i => ?_, .nil⟩
  · simp only [enterAct, Array.size_append, Array.size_replicate, h.1]
    omega
  · simp only [enterAct, CAct.get]
    rw [enterTm_get]
    simp only [Nat.zero_le, true_and, Nat.zero_add, Nat.sub_zero, Array.length_toList]
    by_cases hi : i < args.size
    · rw [if_pos hi]
      have hi' : i < args'.size := by have := h.1; omega
      rw [Array.getD_eq_getD_getElem?, Array.getElem?_append_left hi', Array.getElem?_eq_getElem hi']
      simp only [Array.getElem?_toList, Array.getElem?_eq_getElem hi, Option.getD_some]
      exact h.2 i hi hi'
    · rw [if_neg hi]
      exact .junk _

theorem st_end {b : Frame} {a : Act} {cs : List Frame} {w : World} (hr : b.roundOf = none) : step P (lone (atR b a []) cs w) = .next (lone { atR b a [] with mode := .returning } cs w) :=
  step_lone_go (by simp [stepG, stepG.exec, atR, hr])
theorem st_ret {b : Frame} {a : Act} {k : List Item} {cs : List Frame} {w : World} (hr : b.roundOf = none) : step P (lone (atR b a (.code .ret :: k)) cs w) = .next (lone { atR b a (.code .ret :: k) with mode := .returning } cs w) :=
  step_lone_go (by simp [stepG, stepG.exec, atR, hr])

theorem bareArg_some {E : Env} {f : FuncId} {args : Array Value} {σ : CSt} {j i off n : Nat} {row : List Value} {e : TypeId} (h : bareArg E f args σ = some (j, i, off, n, row, e)) :
    ∃ (hs : j < args.size), args[j] = .slice (some ⟨i, off, none⟩) n openCap ∧ σ.get i = some (.cells row e false) ∧ n < openCap := by
  unfold bareArg at h
  split at h
  · split at h
    · rename_i hj
      split at h
      · rename_i hc
        split at h
        · rename_i hg
          cases h
          obtain ⟨hs, he⟩ := Array.getElem?_eq_some_iff.1 hj
          exact ⟨hs, by rw [he, hc.1], hg, hc.2⟩
        · cases h
      · cases h
    · cases h
  · cases h
theorem AsR.put1 {ρ : Rho} {as0 bs : Array Value} (h : AsR ρ as0 bs) {j : Nat} {v x : Value} (hv : VR ρ v x) {hj : j < bs.size} (hx : bs[j] = x) : AsR ρ (as0.setIfInBounds j v) bs := by
  refine ⟨by simp [h.1], fun i u u' => ?_⟩
  rw [Array.getElem_setIfInBounds]
  split
  · rename_i e
    subst e
    rw [hx]; exact hv
  · exact h.2 i (by simpa using u) u'

theorem sim_fn {E : Env} (HG : ∀ f g, E.gam f = some g → ∀ (args : Array Value) (σ : CSt) (v : Value) (σ' : CSt), g args σ = some (v, σ') → ∀ Q : Out → CSt → Prop, Q (.ret v false) σ' → SimFn E.P f args none σ Q)
    {f : FuncId} {args : Array Value} {dk : Option (Option Value)} {σ : CSt} {Q : Out → CSt → Prop} (h : F latP E (SimT E.P) (.fn f args dk) σ Q) : SimFn E.P f args dk σ Q := by
  simp only [F] at h
  split at h
  · rename_i j i off n row e hb
    obtain ⟨hsi, hjs, hgi, hn⟩ := bareArg_some hb
    have h' : ∀ k, n ≤ k → k < openCap → SimFn E.P f (args.setIfInBounds j (.slice (some ⟨i, off, none⟩) n k)) dk (σ.put i (.cells (bareRow row off (E.P.cellsOf e) k) e false)) Q := fun k h1 h2 => h k (by simp [h1, h2])
    refine ⟨(h' n (Nat.le_refl _) hn).1, fun ρ w args' cs hR ha hdk => ?_⟩
    obtain ⟨p, hp, hor⟩ := hR.live_of_get hgi (by simp)
    have hv := ha.2 j hsi (by rw [← ha.1]; exact hsi)
    rw [hjs] at hv
    generalize hx : args'[j]'(by rw [← ha.1]; exact hsi) = x at hv
    have fin : ∀ k, n ≤ k → k < openCap → (k = 0 ∨ off + k * p.z = p.e) → VR ρ (.slice (some ⟨i, off, none⟩) n k) x → FnOk w.heap.size E.P (lone (Frame.enter E.P f args' (kindOf dk)) cs w) f cs dk ρ σ w Q := by
      intro k h1 h2 h3 h4
      obtain ⟨r1, r2⟩ := hR.bare hgi hp h3
      refine ((h' k h1 h2).2 ρ w args' cs r1 (ha.put1 h4 hx) hdk).pre (.refl _ _) (r2.toB (Nat.le_refl _))
    cases hv with
    | plain v hf => simp [flat0] at hf
    | slc _ _ _ _ q hq hcc => exact absurd rfl hcc
    | slo _ _ _ cc q hq hnn hcc hbb =>
      rw [hp] at hq
      cases hq
      exact fin cc hnn hbb (.inr hcc) (.slc _ _ _ _ p hp (by omega))
    | sle _ _ a q hq hee => exact fin 0 (Nat.le_refl _) (by simp [openCap]) (.inl rfl) (.slz _ _ _ p hp)
  split at h
  · rename_i g hg
    cases dk with
    | some d => simp at hg
    | none =>
      simp only [Option.isNone_none, if_true] at hg
      split at h
      · rename_i v σ' hv
        exact HG f g hg args σ v σ' hv Q h
      · exact h.elim
  · split at h
    · rename_i fn hf
      split at h
      · rename_i c hb
        refine ⟨⟨fn, hf, by simp [hb]⟩, fun ρ w args' cs hR ha hdk => ?_⟩
        have hent : Frame.enter E.P f args' (kindOf dk) = atR { (default : Frame) with fn := f, kind := kindOf dk, roundOf := none } { tmps := args' ++ Array.replicate (fn.ntmps - args'.size) undef, defers := [] } [.code c] := by
          simp [Frame.enter, atR, hf, hb]
        rw [hent]
        obtain ⟨e, a', σ', ρ', w', ac', hq, hR', hA', hf', ht', harr⟩ := h w.heap.size ρ w _ { (default : Frame) with fn := f, kind := kindOf dk, roundOf := none } [] cs (Nat.le_refl _) hR (enter_AR ha) ⟨rfl, trivial, hdk⟩ (fun _ => rfl)
        have hB' : w.heap.size ≤ w'.heap.size := hf'.size
        have hcs : csOf cs (enterAct fn args).tk = cs := rfl
        rw [hcs] at harr
        have unw : ∀ (t : List Item) (m m' : Option Value), OptR ρ' m m' → SimUnw E.P ⟨f, none, dk⟩ a' m σ' Q → FnOk w.heap.size E.P (lone { atR { (default : Frame) with fn := f, kind := kindOf dk, roundOf := none } ac' t with mode := modeOf m' } (csOf cs a'.tk) w') f cs dk ρ' σ' w' Q :=
          fun t m m' hm hu => hu w.heap.size ρ' w' ac' { (default : Frame) with fn := f, kind := kindOf dk, roundOf := none } t cs m' hB' hR' hA' rfl rfl rfl (hdk.mono hf'.le) hm ht'
        cases e with
        | normal => exact (unw [] none none trivial hq).pre (Steps.trans harr (.one (st_end rfl))) (hf'.toB (Nat.le_refl _))
        | ret =>
          obtain ⟨t, hs⟩ := harr
          exact (unw (.code .ret :: t) none none trivial hq).pre (Steps.trans hs (.one (st_ret rfl))) (hf'.toB (Nat.le_refl _))
        | panic v =>
          obtain ⟨t, v', hv, hs⟩ := harr
          exact (unw t (some v) (some v') hv hq).pre hs (hf'.toB (Nat.le_refl _))
        | exit i => exact hq.elim
        | goto l => exact hq.elim
      · exact h.elim
    · exact h.elim

/-! ### Rounds -/
theorem foldl_params {ρ : Rho} (sz : Nat) : ∀ (ps : List Nat) (as0 bs : List Value) (tm : Tr Value) (tmps : Array Value), LR ρ as0 bs → TmR ρ tm sz tmps →
    TmR ρ ((ps.zip as0).foldl (fun t p => if p.1 < sz then t.set p.1 p.2 else t) tm) sz ((ps.zip bs).foldl (fun tmps p => tmps.setIfInBounds p.1 p.2) tmps)
  | [], _, _, tm, tmps, _, h => by simpa using h
  | p :: ps, [], [], tm, tmps, _, h => by simpa using h
  | p :: ps, a :: as0, b :: bs, tm, tmps, hl, h => by
    simp only [List.zip_cons_cons, List.foldl_cons]
    refine foldl_params sz ps as0 bs _ _ hl.tail ⟨by simpa using h.1, fun i => ?_⟩
    rw [getD_set, h.1]
    by_cases hp : p < sz
    · rw [if_pos hp, Tr.get_set]
      by_cases hi : i = p
      · rw [if_pos hi, if_pos ⟨hi, hp⟩]; exact hl.head
      · rw [if_neg hi, if_neg (fun e => hi e.1)]; exact h.2 i
    · rw [if_neg hp, if_neg (fun e => hp e.2)]; exact h.2 i
  | _ :: _, [], _ :: _, _, _, hl, _ => by have := hl.1; simp at this
  | _ :: _, _ :: _, [], _, _, hl, _ => by have := hl.1; simp at this

theorem st_begin {b : Frame} {a : Act} {k : List Item} {cs : List Frame} {w w' : World} {l : Nat} (hr : b.roundOf = some l) (hb : (Instr.beginRound l).run P w = .ok () w') :
    step P (lone (atR b a (.beginRound :: k)) cs w) = .next (lone (atR b a k) cs w') :=
  step_lone_go (by simp [stepG, stepG.exec, stepG.apply, atR, hr, hb, Frame.finish])

theorem st_round_end {b : Frame} {a : Act} {t : List Item} {c : Frame} {cs : List Frame} {w w' : World} {l : Nat} {v : Value} {j : Option Code} (hr : b.roundOf = some l) (hk : b.kind = .normal) (he : (Instr.endRound l j).run P w = .ok v w')
    (ht : (t = [] ∧ j = none) ∨ (∃ r, t = .code .ret :: r ∧ j = some .ret) ∨ (∃ i r, t = .code (.exit i) :: r ∧ exitTo i r = none ∧ j = some (.exit i)) ∨ (∃ i r, t = .code (.goto i) :: r ∧ gotoIn i r = none ∧ j = some (.goto i))) :
    step P (lone (atR b a t) (c :: cs) w) = .next (lone (c.finish v) cs w') := by
  rcases ht with ⟨rfl, rfl⟩ | ⟨r, rfl, rfl⟩ | ⟨i, r, rfl, h1, rfl⟩ | ⟨i, r, rfl, h1, rfl⟩
  · exact step_lone_go (by simp [stepG, stepG.exec, atR, hr, hk, he, doReturn])
  · exact step_lone_go (by simp [stepG, stepG.exec, atR, hr, hk, he, doReturn])
  · exact step_lone_go (by simp [stepG, stepG.exec, atR, hr, hk, he, doReturn, h1])
  · exact step_lone_go (by simp [stepG, stepG.exec, atR, hr, hk, he, doReturn, h1])

/-- A loop's record is written. -/
theorem R.setLoop {ρ : Rho} {σ : CSt} {w : World} (h : R P ρ σ w) {l : Nat} {p : Place} (hp : ρ l = some p) {st st' : LoopState} {pend pend' : Option Code} {fn : FuncId} {tm : Tr Value} {sz : Nat} {ps : Array Tmp} {asg body : Code}
    (hg : σ.get l = some (.loop st pend fn tm sz ps asg body)) : ∃ r : Loop, w.heap[p.b]? = some (.loop r) ∧ r.state = st ∧ r.pending = pend ∧
      R P ρ (σ.put l (.loop st' pend' fn tm sz ps asg body)) { w with heap := w.heap.setIfInBounds p.b (.loop { r with state := st', pending := pend' }) } ∧
      Frm ρ σ w ρ (σ.put l (.loop st' pend' fn tm sz ps asg body)) { w with heap := w.heap.setIfInBounds p.b (.loop { r with state := st', pending := pend' }) } := by
  obtain ⟨r, h1, h2, h3, h4, h5, h6, h7, h8⟩ := h.obj l _ p hg hp
  have hlt := (Array.getElem?_eq_some_iff.1 h1).1
  have wr := Wr.set w (.loop { r with state := st', pending := pend' }) hlt
  have hb := wr.at_ p.b
  rw [if_pos rfl] at hb
  exact ⟨r, h1, h2, h3, h.write hp ⟨_, hg, rfl, by simp⟩ wr rfl (by simp) ⟨_, hb, rfl, rfl, h4, h5, h6, h7, h8⟩⟩

theorem sim_round {E : Env} (G : Good E.P) {l : Nat} {args : Array Value} {σ : CSt} {Q : Out → CSt → Prop} (h : F latP E (SimT E.P) (.round l args) σ Q) : SimT E.P (.round l args) σ Q := by
  simp only [F] at h
  split at h
  case h_2 => exact h.elim
  rename_i st pend fn tm sz ps asg body hg
  refine ⟨⟨st, pend, fn, tm, sz, ps, asg, body, hg⟩, fun ρ w args' p r c cs hR ha hp hr => ?_⟩
  split at h
  case isFalse => exact h.elim
  rename_i hsz
  obtain ⟨r', h1, h2, h3, h4, h5, h6, h7, h8⟩ := hR.obj l _ p hg hp
  rw [hr] at h1
  cases h1
  refine ⟨by rw [← ha.1, hsz, h5], ?_⟩
  -- the round's frame
  have hfr : Frame.round p.b r.fn ((r.params.zip args').foldl (fun tmps (t, a) => tmps.setIfInBounds t a) r.tmps) r.assign r.body .normal =
      atR { (default : Frame) with fn := fn, kind := .normal, roundOf := some p.b } { tmps := (ps.toList.zip args'.toList).foldl (fun tmps p => tmps.setIfInBounds p.1 p.2) r.tmps, defers := [] } (.code asg :: [.beginRound, .code body]) := by
    simp only [Frame.round, atR, h4, h5, h6, h7]
    congr 1
    rw [← Array.foldl_toList, Array.toList_zip]
  rw [hfr]
  have hA : AR w.heap.size ρ σ w { tm := (ps.toList.zip args.toList).foldl (fun t p => if p.1 < sz then t.set p.1 p.2 else t) tm, sz := sz, df := [], tk := false } { tmps := (ps.toList.zip args'.toList).foldl (fun tmps p => tmps.setIfInBounds p.1 p.2) r.tmps, defers := [] } := by
    obtain ⟨t1, t2⟩ := foldl_params sz ps.toList args.toList args'.toList tm r.tmps ha.toList h8
    exact ⟨t1, t2, .nil⟩
  have hF : FrOk ρ ⟨fn, some l, none⟩ { (default : Frame) with fn := fn, kind := .normal, roundOf := some p.b } (c :: cs) := ⟨rfl, ⟨p, hp, rfl⟩, rfl⟩
  obtain ⟨e, a₁, σ₁, ρ₁, w₁, ac₁, hq, hR₁, hA₁, hf₁, ht₁, harr⟩ := h w.heap.size ρ w _ { (default : Frame) with fn := fn, kind := .normal, roundOf := some p.b } [.beginRound, .code body] (c :: cs) (Nat.le_refl _) hR hA hF (fun _ => rfl)
  cases e with
  | exit i => exact hq.elim
  | goto i => exact hq.elim
  | ret => exact hq.elim
  | panic v => exact hq.elim
  | normal =>
    simp only at hq
    have htk₁ := ht₁ rfl
    rw [htk₁] at harr
    split at hq
    case h_2 => exact hq.elim
    rename_i pend₁ fn₁ tm₁ sz₁ ps₁ asg₁ body₁ hg₁
    have hp₁ : ρ₁ l = some p := hf₁.le _ _ hp
    obtain ⟨r₁, b1, b2, b3, hR₂, hf₂⟩ := hR₁.setLoop hp₁ (st' := .busy) (pend' := pend₁) hg₁
    have hbr : (Instr.beginRound p.b).run E.P w₁ = .ok () { w₁ with heap := w₁.heap.setIfInBounds p.b (.loop { r₁ with state := .busy, pending := pend₁ }) } := by
      rw [← b3]
      simp [Instr.beginRound, Instr.getLoop, getObj, setObj, Sem.run, b1, b2]
    have s₂ := Steps.trans harr (.one (st_begin (P := E.P) (b := { (default : Frame) with fn := fn, kind := .normal, roundOf := some p.b }) (a := ac₁) (k := [.code body]) (cs := c :: cs) rfl hbr))
    obtain ⟨e, a₂, σ₃, ρ₃, w₃, ac₃, hq₃, hR₃, hA₃, hf₃, ht₃, harr₃⟩ := hq w.heap.size ρ₁ _ ac₁ { (default : Frame) with fn := fn, kind := .normal, roundOf := some p.b } [] (c :: cs) (Nat.le_trans hf₁.size hf₂.size) hR₂ (hA₁.frm hf₂) (hF.mono (Rho.le_trans hf₁.le hf₂.le)) ht₁
    have htk₃ := ht₃ rfl
    rw [htk₁, htk₃] at harr₃
    have hp₃ : ρ₃ l = some p := hf₃.le _ _ hp₁
    have hfull : Frm ρ σ w ρ₃ σ₃ w₃ := (hf₁.trans hf₂).trans hf₃
    -- it ends
    have leave : ∀ (j : Option Code) (t : List Item), jumpOf e = some j → Steps E.P (lone (atR { (default : Frame) with fn := fn, kind := .normal, roundOf := some p.b } ac₁ [.code body]) (c :: cs) { w₁ with heap := w₁.heap.setIfInBounds p.b (.loop { r₁ with state := .busy, pending := pend₁ }) })
        (lone (atR { (default : Frame) with fn := fn, kind := .normal, roundOf := some p.b } ac₃ t) (c :: cs) w₃) →
        ((t = [] ∧ j = none) ∨ (∃ r, t = .code .ret :: r ∧ j = some .ret) ∨ (∃ i r, t = .code (.exit i) :: r ∧ exitTo i r = none ∧ j = some (.exit i)) ∨ (∃ i r, t = .code (.goto i) :: r ∧ gotoIn i r = none ∧ j = some (.goto i))) →
        PopOk E.P (lone (atR { (default : Frame) with fn := fn, kind := .normal, roundOf := some p.b } { tmps := (ps.toList.zip args'.toList).foldl (fun tmps p => tmps.setIfInBounds p.1 p.2) r.tmps, defers := [] } (.code asg :: [.beginRound, .code body])) (c :: cs) w) c cs ρ σ w Q := by
      intro j t hj hst ht
      simp only [hj] at hq₃
      split at hq₃
      case h_2 => exact hq₃.elim
      rename_i st₃ pend₃ fn₃ tm₃ sz₃ ps₃ asg₃ body₃ hg₃
      obtain ⟨r₃, d1, d2, d3, hR₄, hf₄⟩ := hR₃.setLoop hp₃ (st' := if j.isNone then .ready else .done) (pend' := j) hg₃
      have her : (Instr.endRound p.b j).run E.P w₃ = .ok (.bool j.isNone) { w₃ with heap := w₃.heap.setIfInBounds p.b (.loop { r₃ with state := if j.isNone then .ready else .done, pending := j }) } := by
        simp [Instr.endRound, Instr.getLoop, getObj, setObj, Sem.run, d1]
      exact .inl ⟨.bool j.isNone, false, _, ρ₃, _, .bool j.isNone, hq₃, hR₄, hfull.trans hf₄, .plain _ rfl, s₂.trans (hst.trans (.one (st_round_end rfl rfl her ht)))⟩
    cases e with
    | normal => exact leave none [] rfl harr₃ (.inl ⟨rfl, rfl⟩)
    | ret => obtain ⟨t, hs⟩ := harr₃; exact leave (some .ret) _ rfl hs (.inr (.inl ⟨t, rfl, rfl⟩))
    | exit i => obtain ⟨t, h1, hs⟩ := harr₃; exact leave (some (.exit i)) _ rfl hs (.inr (.inr (.inl ⟨i, t, rfl, by rw [h1]; rfl, rfl⟩)))
    | goto i => obtain ⟨t, h1, hs⟩ := harr₃; exact leave (some (.goto i)) _ rfl hs (.inr (.inr (.inr ⟨i, t, rfl, by rw [h1]; rfl, rfl⟩)))
    | panic v =>
      obtain ⟨t, v', hv, hs⟩ := harr₃
      simp only [jumpOf] at hq₃
      split at hq₃
      case isFalse => exact hq₃.elim
      rename_i hdf
      split at hq₃
      case h_2 => exact hq₃.elim
      rename_i fnn hff
      have hdf' : a₂.df = [] := by simpa using hdf
      have hd₃ := hA₃.df
      rw [hdf'] at hd₃
      obtain ⟨w₄, l'', s₄, hR₄, hf₄, hd₄, hno⟩ := marks_gone (P := E.P) ac₃.defers hd₃ { atR { (default : Frame) with fn := fn, kind := .normal, roundOf := some p.b } ac₃ t with mode := panicOf v' } (c :: cs) (by simp [panicOf]) rfl hR₃
      have hl : l'' = [] := by
        cases hd₄ with
        | nil => rfl
        | mark q l l' h hn t => exact absurd rfl (hno q #[] l')
      subst hl
      have hfB : FrmB w.heap.size ρ σ w ρ₃ σ₃ w₄ := (hfull.toB (Nat.le_refl _)).trans hf₄
      exact .inr ⟨v, σ₃, ρ₃, w₄, v', hq₃, hR₄, hfB.toFrm, hv, s₂.trans (hs.trans (s₄.trans (.one (st_leave_panicked rfl rfl hff))))⟩

/-! ### A range over a function -/
theorem st_range_enter {b : Frame} {a : Act} {k : List Item} {cs : List Frame} {w w₁ : World} {f : Operand} {ps : Array Tmp} {asg body : Code} {l : Nat} {mark : List Deferred} {g : FuncId} {as0 : Array Value}
    (he : (Instr.enterLoop b.fn a.tmps ps asg body b.roundOf).run P w = .ok (l, mark) w₁) (hc : (do let d ← Deferred.ofValue (a.eval f) #[.func (.yield l) #[] #[]]; invoke d.target d.args).run P w₁ = .ok (.enter g as0) w₁) :
    step P (lone (atR b a (.code (.rangeFunc f ps asg body) :: k)) cs w) = .next (lone (Frame.enter P g as0 .normal) (atR b { a with defers := mark ++ a.defers } (.inRangeFunc l :: k) :: cs) w₁) := by
  refine step_lone_go ?_
  have hev : ({ atR b a (.code (.rangeFunc f ps asg body) :: k) with todo := .inRangeFunc l :: k, defers := mark ++ a.defers } : Frame).eval = a.eval := by funext x; cases x <;> rfl
  simp only [atR] at hev
  have hc' : ((do let d ← resolve a.eval { callee := .value f, args := #[.const (.func (.yield l) #[] #[])], argTypes := #[] } 0; invoke d.target d.args) : Sem Next).run P w₁ = .ok (.enter g as0) w₁ := by
    simpa [resolve, Act.eval] using hc
  simp only [stepG, stepG.exec, atR, Sem.runT_eq, he, GStep.bare_after, stepG.apply, hev, hc']
  simp
end
end Go.Sm
/- Soundness of the rules: a range over a function. -/
set_option linter.unusedVariables false
set_option linter.unusedSimpArgs false
namespace Go.Sm
open Go

section
variable {P : Program}

theorem st_range_round {b : Frame} {a : Act} {k : List Item} {cs : List Frame} {w w₁ : World} {f : Operand} {ps : Array Tmp} {asg body : Code} {l : Nat} {mark : List Deferred} {l' : Nat} {g : FuncId} {tmps : Array Value} {asg' body' : Code}
    (he : (Instr.enterLoop b.fn a.tmps ps asg body b.roundOf).run P w = .ok (l, mark) w₁) (hc : (do let d ← Deferred.ofValue (a.eval f) #[.func (.yield l) #[] #[]]; invoke d.target d.args).run P w₁ = .ok (.round l' g tmps asg' body') w₁) :
    step P (lone (atR b a (.code (.rangeFunc f ps asg body) :: k)) cs w) = .next (lone (Frame.round l' g tmps asg' body' .normal) (atR b { a with defers := mark ++ a.defers } (.inRangeFunc l :: k) :: cs) w₁) := by
  refine step_lone_go ?_
  have hev : ({ atR b a (.code (.rangeFunc f ps asg body) :: k) with todo := .inRangeFunc l :: k, defers := mark ++ a.defers } : Frame).eval = a.eval := by funext x; cases x <;> rfl
  simp only [atR] at hev
  have hc' : ((do let d ← resolve a.eval { callee := .value f, args := #[.const (.func (.yield l) #[] #[])], argTypes := #[] } 0; invoke d.target d.args) : Sem Next).run P w₁ = .ok (.round l' g tmps asg' body') w₁ := by
    simpa [resolve, Act.eval] using hc
  simp only [stepG, stepG.exec, atR, Sem.runT_eq, he, GStep.bare_after, stepG.apply, hev, hc']
  simp

theorem st_range_end {b : Frame} {a : Act} {k : List Item} {cs : List Frame} {w w' : World} {l : Nat} {j : Option Code} (he : (Instr.endLoop l).run P w = .ok j w') :
    step P (lone (atR b a (.endRangeFunc l :: k)) cs w) = .next (lone (atR b a ((j.map Item.code).toList ++ k)) cs w') :=
  step_lone_go (by simp [stepG, stepG.exec, atR, he])

theorem sim_range {E : Env} (G : Good E.P) {x : Ctx} {f : Operand} {ps : Array Tmp} {asg body : Code} {a : CAct} {σ : CSt} {Q : Out → CSt → Prop}
    (h : F latP E (SimT E.P) (.code x (.rangeFunc f ps asg body) a) σ Q) : SimC E.P x a σ (fun k => .code (.rangeFunc f ps asg body) :: k) Q := by
  simp only [F] at h
  split at h
  · exact h.elim
  rename_i haround
  intro B ρ w ac b k cs hB hR hA hF ht
  -- the loop's record, perhaps behind a block for deferred calls
  have enter : ∃ (w₁ : World) (p : Place) (mark : List Deferred), (Instr.enterLoop b.fn ac.tmps ps asg body b.roundOf).run E.P w = .ok (p.b, mark) w₁ ∧
      R E.P (ρ.set σ.n p) (σ.alloc (.loop .ready none x.f a.tm a.sz ps asg body)) w₁ ∧ Frm ρ σ w (ρ.set σ.n p) (σ.alloc (.loop .ready none x.f a.tm a.sz ps asg body)) w₁ ∧
      AR B (ρ.set σ.n p) (σ.alloc (.loop .ready none x.f a.tm a.sz ps asg body)) w₁ a { ac with defers := mark ++ ac.defers } := by
    -- the record itself
    have rec_ : ∀ (w₀ : World) (d : Nat), R E.P ρ σ w₀ → TmR ρ a.tm a.sz ac.tmps →
        R E.P (ρ.set σ.n ⟨w₀.heap.size, 0, 0, 0⟩) (σ.alloc (.loop .ready none x.f a.tm a.sz ps asg body)) { w₀ with heap := w₀.heap.push (.loop { state := .ready, pending := none, fn := b.fn, tmps := ac.tmps, params := ps, assign := asg, body := body, defers := d }) } ∧
        Frm ρ σ w₀ (ρ.set σ.n ⟨w₀.heap.size, 0, 0, 0⟩) (σ.alloc (.loop .ready none x.f a.tm a.sz ps asg body)) { w₀ with heap := w₀.heap.push (.loop { state := .ready, pending := none, fn := b.fn, tmps := ac.tmps, params := ps, assign := asg, body := body, defers := d }) } :=
      fun w₀ d hR₀ htm => hR₀.newObj (fun ρ' hle w' hw => ⟨_, hw, rfl, rfl, hF.fn, rfl, rfl, rfl, htm.mono hle⟩)
    have htm : TmR ρ a.tm a.sz ac.tmps := ⟨hA.sz, hA.tm⟩
    cases hrn : b.roundOf with
    | some r =>
      have hxr : ∃ l p, x.rnd = some l ∧ ρ l = some p ∧ p.b = r := by
        have := hF.rnd
        rw [hrn] at this
        cases hx : x.rnd with
        | none => rw [hx] at this; exact this.elim
        | some l => rw [hx] at this; obtain ⟨p, h1, h2⟩ := this; exact ⟨l, p, rfl, h1, h2⟩
      obtain ⟨l, p, hx, hp, hpr⟩ := hxr
      have hloop : ∃ r' : Loop, w.heap[p.b]? = some (.loop r') := by
        rw [hx] at haround
        simp only [aroundOk] at haround
        split at haround
        · rename_i hg
          obtain ⟨r', g1, _⟩ := hR.obj l _ p hg hp
          exact ⟨r', g1⟩
        · simp at haround
      obtain ⟨r', hr'⟩ := hloop
      obtain ⟨hR₁, hf₁⟩ := rec_ w r'.defers hR htm
      refine ⟨_, _, [], ?_, hR₁, hf₁, hA.frm hf₁⟩
      rw [← hpr]
      have hgl : (Instr.getLoop p.b).run E.P w = .ok r' w := by simp [Instr.getLoop, getObj, Sem.run, hr']
      simp only [Instr.enterLoop, Sem.run_bind, hgl, Result.andThen_ok, Sem.run_pure, run_newObj]
    | none =>
      have wr := Wr.push w (.deferred (some []))
      obtain ⟨hR₀, hf₀⟩ := hR.beyond wr
      obtain ⟨hR₁, hf₁⟩ := rec_ { w with heap := w.heap.push (.deferred (some [])) } w.heap.size hR₀ htm
      refine ⟨_, _, [{ target := .collected w.heap.size, args := #[] }], ?_, hR₁, hf₀.trans hf₁, ?_⟩
      · simp only [Instr.enterLoop, Sem.run_bind, Result.andThen_ok, Sem.run_pure, run_newObj]
      · have hA₁ := hA.frm (hf₀.trans hf₁)
        refine ⟨hA₁.sz, hA₁.tm, ?_⟩
        refine .mark _ _ _ ⟨?_, hB, fun i p hp hr => ?_⟩ ?_ hA₁.df
        · simp [Array.getElem?_push]
        · by_cases e : i = σ.n
          · subst e
            rw [Rho.set_self] at hp
            cases hp
            simp
          · have : (ρ.set σ.n ⟨(w.heap.push (Obj.deferred (some []))).size, 0, 0, 0⟩) i = ρ i := by unfold Rho.set; rw [if_neg e]
            rw [this] at hp
            rw [rw_alloc, if_neg e] at hr
            have := hR.lt i p hp (live_of_rw hr)
            omega
        · -- other marks are older
          intro d hd q hq hqe
          have old : ∀ {l : List CDef} {l' : List Deferred}, DfR B ρ σ w l l' → ∀ d ∈ l', ∀ q, d.target = .collected q → q < w.heap.size := by
            intro l l' hdf
            induction hdf with
            | nil => intro d hd; cases hd
            | cons d d' l l' h _ ih =>
              intro e he q hq
              rcases List.mem_cons.1 he with rfl | he
              · obtain ⟨g, fs, cs', bs, ds, as0', h1, h2, h3, h4, h5⟩ := h
                rw [h5] at hq
                cases hq
              · exact ih e he q hq
            | mark r l l' h hn _ ih =>
              intro e he q hq
              rcases List.mem_cons.1 he with rfl | he
              · cases hq; exact (Array.getElem?_eq_some_iff.1 h.1).1
              · exact ih e he q hq
          have := old hA.df d hd q hq
          omega
  obtain ⟨w₁, p, mark, hen, hR₁, hf₁, hA₁⟩ := enter
  have hyv : VR (ρ.set σ.n p) (.func (.yield σ.n) #[] #[]) (.func (.yield p.b) #[] #[]) := .func _ _ _ _ _ _ (.yield σ.n p (Rho.set_self ..)) rfl (fun i u => by simp at u) rfl (fun i u => by simp at u)
  have hargs : AsR (ρ.set σ.n p) #[.func (.yield σ.n) #[] #[]] #[.func (.yield p.b) #[] #[]] := ⟨rfl, fun i u _ => by
    have : i = 0 := by simp at u; omega
    subst this
    exact hyv⟩
  have hfv : VR (ρ.set σ.n p) (a.eval f) (ac.eval f) := (hA.eval hR f).mono hf₁.le
  have hev : ({ ac with defers := mark ++ ac.defers } : Act).eval = ac.eval := by funext y; cases y <;> rfl
  -- behind the call
  have fin : ∀ m, Steps E.P (lone (atR b ac (.code (.rangeFunc f ps asg body) :: k)) (csOf cs a.tk) w) m →
      PopOk E.P m (atR b { ac with defers := mark ++ ac.defers } (.inRangeFunc p.b :: k)) (csOf cs a.tk) (ρ.set σ.n p) (σ.alloc (.loop .ready none x.f a.tm a.sz ps asg body)) w₁ (fun o σ' => match o with
        | .ret _ _ => (match σ'.get σ.n with
          | some (.loop st pend fn tm sz ps asg body) => if st = .busy then False else (match pend with
            | none => Q (.code .normal a) (σ'.put σ.n (.loop .exhausted pend fn tm sz ps asg body))
            | some c => SimT E.P (.code x c a) (σ'.put σ.n (.loop .exhausted pend fn tm sz ps asg body)) Q)
          | _ => False)
        | .pan v => Q (.code (.panic v) a) σ'
        | _ => False) →
      ∃ (e : CEx) (a' : CAct) (σ' : CSt) (ρ' : Rho) (w' : World) (ac' : Act), Q (.code e a') σ' ∧ R E.P ρ' σ' w' ∧ AR B ρ' σ' w' a' ac' ∧ Frm ρ σ w ρ' σ' w' ∧ (x.dk = none → a'.tk = false) ∧
        ArrC E.P (lone (atR b ac (.code (.rangeFunc f ps asg body) :: k)) (csOf cs a.tk) w) b k (csOf cs a'.tk) ρ' ac' w' e := by
    intro m hm hp'
    rcases hp' with ⟨v, tk, σ', ρ', w', v', hq, hR', hf', hv, hs⟩ | ⟨v, σ', ρ', w', v', hq, hR', hf', hv, hs⟩
    · have hfi : (atR b { ac with defers := mark ++ ac.defers } (.inRangeFunc p.b :: k)).finish v' = atR b { ac with defers := mark ++ ac.defers } (.endRangeFunc p.b :: k) := rfl
      rw [hfi] at hs
      simp only at hq
      split at hq
      case h_2 => exact hq.elim
      rename_i st pend fn tm sz ps' asg' body' hg
      split at hq
      · exact hq.elim
      · rename_i hnb
        have hpn : ρ' σ.n = some p := hf'.le _ _ (Rho.set_self ..)
        obtain ⟨r, d1, d2, d3, hR₂, hf₂⟩ := hR'.setLoop hpn (st' := .exhausted) (pend' := pend) hg
        have hel : (Instr.endLoop p.b).run E.P w' = .ok pend { w' with heap := w'.heap.setIfInBounds p.b (.loop { r with state := .exhausted, pending := pend }) } := by
          have hb : ¬ r.state = .busy := by rw [d2]; exact hnb
          rw [← d3]
          simp [Instr.endLoop, Instr.getLoop, getObj, setObj, Sem.run, d1, hb]
        have hst := st_range_end (P := E.P) (b := b) (a := { ac with defers := mark ++ ac.defers }) (k := k) (cs := csOf cs a.tk) hel
        have hA₂ := (hA₁.frm hf').frm hf₂
        have hfall := (hf₁.trans hf').trans hf₂
        cases hpd : pend with
        | none =>
          rw [hpd] at hq hst hR₂ hA₂ hfall
          exact ⟨.normal, a, _, ρ', _, _, hq, hR₂, hA₂, hfall, ht, hm.trans (hs.trans (.one hst))⟩
        | some c =>
          rw [hpd] at hq hst hR₂ hA₂ hfall
          obtain ⟨e₂, a₂, σ₂, ρ₂, w₂, ac₂, hq₂, hR₃, hA₃, hf₃, ht₃, harr⟩ := hq B ρ' _ _ b k cs (Nat.le_trans hB hfall.size) hR₂ hA₂ (hF.mono hfall.le) ht
          exact ⟨e₂, a₂, σ₂, ρ₂, w₂, ac₂, hq₂, hR₃, hA₃, hfall.trans hf₃, ht₃, .of_steps (hm.trans (hs.trans (.one hst))) harr⟩
    · exact ⟨.panic v, a, σ', ρ', w', { ac with defers := mark ++ ac.defers }, hq, hR', hA₁.frm hf', hf₁.trans hf', ht, .inRangeFunc p.b :: k, v', hv, hm.trans hs⟩
  rcases callv_sim G h hR₁ hfv hargs with ⟨g, as0, hr, hp⟩ | ⟨l, g, tmps, asg', body', hr, hp⟩
  · exact fin _ (.one (st_range_enter hen hr)) (hp _ _)
  · exact fin _ (.one (st_range_round hen hr)) (hp _ _)
end
end Go.Sm
/- An operation hangs on its operands alone; orders of a region. -/
set_option linter.unusedVariables false
set_option linter.unusedSimpArgs false
namespace Go.Sm
open Go

theorem map_congrA {α β : Type} {f g : α → β} (as0 : Array α) (h : ∀ x ∈ as0, f x = g x) : as0.map f = as0.map g := Array.map_congr_left h

section
variable {P : Program} {σ : CSt} {ev ev' : Operand → Value} {o : Oper}

theorem flatOp_congr (hs : ∀ cs b, o.op ≠ .select cs b) (h : ∀ x ∈ o.op.operands, ev x = ev' x) : flatOp P σ ev o = flatOp P σ ev' o := by
  unfold flatOp
  rw [execOp_congr o hs h]
  have : (o.op.operands.toList.all fun x => flat (ev x)) = (o.op.operands.toList.all fun x => flat (ev' x)) := by
    rw [Bool.eq_iff_iff]
    simp only [List.all_eq_true]
    exact ⟨fun hh x hx => by rw [← h x (by simpa using hx)]; exact hh x hx, fun hh x hx => by rw [h x (by simpa using hx)]; exact hh x hx⟩
  rw [this]

theorem callOp_congr {c : Call} (hop : o.op = .call c) (h : ∀ x ∈ o.op.operands, ev x = ev' x) : callOp P σ ev o c = callOp P σ ev' o c := by
  have hf := flatOp_congr (P := P) (σ := σ) (by rw [hop]; intros; simp) h
  have hargs : c.args.map ev = c.args.map ev' := map_congrA _ fun x hx => h x (by rw [hop]; simp [Op.operands, Call.operands, hx])
  unfold callOp
  rw [hargs]
  cases hc : c.callee with
  | value f => simp only; rw [h f (by rw [hop]; simp [Op.operands, Call.operands, hc])]
  | invoke r n => rfl
  | builtin b => simp only; split <;> first | rfl | exact hf

theorem cop_congr (h : ∀ x ∈ o.op.operands, ev x = ev' x) : cop P σ ev o = cop P σ ev' o := by
  have hfl := fun hs => flatOp_congr (P := P) (σ := σ) (ev := ev) (ev' := ev') (o := o) hs h
  unfold cop
  cases hop : o.op with
  | move x => simp only; rw [h x (by rw [hop]; simp [Op.operands])]
  | assign x => simp only; rw [h x (by rw [hop]; simp [Op.operands])]
  | pick c a b => simp only; rw [h c (by rw [hop]; simp [Op.operands]), h a (by rw [hop]; simp [Op.operands]), h b (by rw [hop]; simp [Op.operands])]
  | alloc e => rfl
  | box e x => simp only; rw [h x (by rw [hop]; simp [Op.operands])]
  | build t ps => simp only; rw [map_congrA (f := fun p : Nat × Operand => (p.1, ev p.2)) (g := fun p => (p.1, ev' p.2)) ps fun p hp => by rw [h p.2 (by rw [hop]; simp [Op.operands]; exact ⟨p.1, hp⟩)]]
  | buildSlice t n ps => simp only; rw [map_congrA (f := fun p : Nat × Operand => (p.1, ev p.2)) (g := fun p => (p.1, ev' p.2)) ps fun p hp => by rw [h p.2 (by rw [hop]; simp [Op.operands]; exact ⟨p.1, hp⟩)]]
  | load t a => simp only; rw [h a (by rw [hop]; simp [Op.operands])]
  | store t a x => simp only; rw [h a (by rw [hop]; simp [Op.operands]), h x (by rw [hop]; simp [Op.operands])]
  | nilCheck x => simp only; rw [h x (by rw [hop]; simp [Op.operands])]
  | binOp op t x y u => simp only; rw [h x (by rw [hop]; simp [Op.operands]), h y (by rw [hop]; simp [Op.operands]), hfl (by rw [hop]; intros; simp)]
  | unOp op t x => simp only; rw [hfl (by rw [hop]; intros; simp)]
  | convert s d x => simp only; rw [h x (by rw [hop]; simp [Op.operands]), hfl (by rw [hop]; intros; simp)]
  | makeInterface t x => simp only; rw [h x (by rw [hop]; simp [Op.operands])]
  | makeFunc fn fs cs => simp only; rw [map_congrA fs fun x hx => h x (by rw [hop]; simp [Op.operands, hx]), map_congrA cs fun x hx => h x (by rw [hop]; simp [Op.operands, hx])]
  | makeMap t r =>
    cases r with
    | none => rfl
    | some r => simp only; rw [h r (by rw [hop]; simp [Op.operands])]
  | makeSlice t l c => simp only; rw [h l (by rw [hop]; simp [Op.operands]), h c (by rw [hop]; simp [Op.operands])]
  | slice t x lo hi mx =>
    simp only
    have om : ∀ (z : Option Operand), (∀ y, z = some y → y ∈ o.op.operands) → z.map ev = z.map ev' := fun z hz => by
      cases z with
      | none => rfl
      | some y => simp [h y (hz y rfl)]
    rw [h x (by rw [hop]; simp [Op.operands]), om lo (fun y hy => by rw [hop]; simp [Op.operands, hy]), om hi (fun y hy => by rw [hop]; simp [Op.operands, hy]), om mx (fun y hy => by rw [hop]; simp [Op.operands, hy]), hfl (by rw [hop]; intros; simp)]
  | fieldAddr s x f => simp only; rw [h x (by rw [hop]; simp [Op.operands])]
  | field t x f => simp only; rw [h x (by rw [hop]; simp [Op.operands])]
  | indexAddr t x ix => simp only; rw [h x (by rw [hop]; simp [Op.operands]), h ix (by rw [hop]; simp [Op.operands])]
  | index t x ix => simp only; rw [hfl (by rw [hop]; intros; simp)]
  | lookup t m k ok => simp only; rw [h m (by rw [hop]; simp [Op.operands]), h k (by rw [hop]; simp [Op.operands])]
  | mapUpdate t m k x => simp only; rw [h m (by rw [hop]; simp [Op.operands]), h k (by rw [hop]; simp [Op.operands]), h x (by rw [hop]; simp [Op.operands])]
  | insert t m k x => simp only; rw [h m (by rw [hop]; simp [Op.operands]), h k (by rw [hop]; simp [Op.operands]), h x (by rw [hop]; simp [Op.operands])]
  | range t x => simp only; rw [h x (by rw [hop]; simp [Op.operands])]
  | next it s => simp only; rw [h it (by rw [hop]; simp [Op.operands])]
  | entry it => simp only; rw [h it (by rw [hop]; simp [Op.operands])]
  | typeAssert x t as0 ok => simp only; rw [h x (by rw [hop]; simp [Op.operands])]
  | extract t i => simp only; rw [h t (by rw [hop]; simp [Op.operands])]
  | call c => simp only; exact callOp_congr hop h
  | defer c =>
    simp only
    cases hc : c.callee with
    | value f =>
      simp only
      rw [h f (by rw [hop]; simp [Op.operands, Call.operands, hc]), map_congrA c.args fun x hx => h x (by rw [hop]; simp [Op.operands, Call.operands, hx])]
    | _ => rfl
  | panic x => simp only; rw [h x (by rw [hop]; simp [Op.operands])]
  | _ => rfl

theorem flatOp_st {v : Value} {σ' : CSt} (h : flatOp P σ ev o = .val v σ') : σ' = σ := by
  unfold flatOp at h
  split at h
  · split at h
    · split at h
      · cases h; rfl
      · cases h
    · cases h
  · cases h
theorem ofV_st {x : Option Value} {v : Value} {σ' : CSt} (h : OpR.ofV σ x = .val v σ') : σ' = σ := (ofV_val h).2
theorem flatOp_move {σ₂ : CSt} {v : Value} {σ' : CSt} (h : flatOp P σ ev o = .val v σ') : flatOp P σ₂ ev o = .val v σ₂ := by
  unfold flatOp at h ⊢
  split at h
  · rename_i hc
    rw [if_pos hc]
    split at h
    · rename_i u hu
      split at h
      · rename_i hf
        cases h
        simp only [hu, if_pos hf]
      · cases h
    · cases h
  · cases h

theorem cop_quiet (he : isEff P o = false) {v : Value} {σ' : CSt} (h : cop P σ ev o = .val v σ') : σ' = σ := by
  unfold cop at h
  unfold isEff at he
  cases hop : o.op with
  | move x => rw [hop] at h; cases h; rfl
  | assign x => rw [hop] at h; cases h; rfl
  | pick c a b => rw [hop] at h; simp only at h; split at h <;> cases h; rfl
  | build t ps => rw [hop] at h; exact ofV_st h
  | load t a => rw [hop] at h; exact ofV_st h
  | nilCheck x => rw [hop] at h; simp only at h; split at h <;> cases h <;> rfl
  | binOp op t x y u => rw [hop] at h; simp only at h; split at h
                        · cases h; rfl
                        · exact flatOp_st h
  | unOp op t x => rw [hop] at h; exact flatOp_st h
  | convert s d x =>
    rw [hop] at h he
    simp only at h he
    rcases or_val h with h | ⟨_, h⟩
    · unfold convertOp at h
      split at h
      · split at h <;> cases h; rfl
      · split at h
        · split at h <;> cases h; rfl
        · cases h
      · rename_i hs hd _
        rw [hd] at he
        simp at he
      · rename_i hs hd _
        rw [hd] at he
        simp at he
      · cases h
    · exact flatOp_st h
  | makeInterface t x => rw [hop] at h; simp only at h; split at h <;> cases h; rfl
  | makeFunc fn fs cs => rw [hop] at h; simp only at h; split at h <;> cases h; rfl
  | slice t x lo hi mx =>
    rw [hop] at h
    rcases or_val h with h | ⟨_, h⟩
    · exact ofV_st h
    · exact flatOp_st h
  | fieldAddr s x f => rw [hop] at h; exact ofV_st h
  | field t x f => rw [hop] at h; exact ofV_st h
  | indexAddr t x ix => rw [hop] at h; exact ofV_st h
  | index t x ix => rw [hop] at h; exact flatOp_st h
  | lookup t m k ok => rw [hop] at h; exact ofV_st h
  | entry it => rw [hop] at h; exact ofV_st h
  | typeAssert x t as0 ok => rw [hop] at h; exact ofV_st h
  | extract t i => rw [hop] at h; simp only at h; split at h
                   · exact ofV_st h
                   · cases h
  | call c =>
    rw [hop] at h he
    simp only at h he
    unfold callOp at h
    split at h
    · cases h
    · cases h
    · rename_i b hb
      rw [hb] at he
      split at h
      · exact ofV_st h
      · simp at he
      · simp at he
      · simp at he
      · simp at he
      · exact flatOp_st h
      · split at h
        · exact absurd h capOp_not
        · split at h
          · split at h <;> cases h; rfl
          · cases h
      · cases h
      · exact flatOp_st h
      · exact flatOp_st h
      · exact flatOp_st h
      · exact flatOp_st h
      · exact flatOp_st h
      · cases h
  | _ => rw [hop] at h he; simp at he <;> (first | (simp at h; done) | skip)

theorem cop_move (he : isEff P o = false) (hr : isRead o = false) {v : Value} {σ' σ₂ : CSt} (h : cop P σ ev o = .val v σ') : cop P σ₂ ev o = .val v σ₂ := by
  have ov : ∀ {x : Option Value}, OpR.ofV σ x = .val v σ' → OpR.ofV σ₂ x = .val v σ₂ := fun hx => by rw [(ofV_val hx).1]; rfl
  unfold cop at h ⊢
  unfold isEff at he
  unfold isRead at hr
  cases hop : o.op with
  | move x => rw [hop] at h; cases h; rfl
  | assign x => rw [hop] at h; cases h; rfl
  | pick c a b => rw [hop] at h; simp only at h ⊢; split at h <;> cases h; rename_i hc; simp only [hc]
  | build t ps => rw [hop] at h; exact ov h
  | nilCheck x => rw [hop] at h; simp only at h ⊢; split at h <;> cases h <;> (rename_i hc; simp only [hc])
  | binOp op t x y u => rw [hop] at h; simp only at h ⊢; split at h
                        · rename_i hc; cases h; simp only [hc]
                        · exact flatOp_move h
  | unOp op t x => rw [hop] at h; exact flatOp_move h
  | makeInterface t x =>
    rw [hop] at h; simp only at h ⊢
    split at h
    · cases h
    · cases h
    · rename_i hn hc
      cases h
      rfl
  | makeFunc fn fs cs =>
    rw [hop] at h; simp only at h ⊢
    split at h
    · cases h
    · cases h
      rfl
  | fieldAddr s x f => rw [hop] at h; exact ov h
  | field t x f => rw [hop] at h; exact ov h
  | indexAddr t x ix => rw [hop] at h; exact ov h
  | index t x ix => rw [hop] at h; exact flatOp_move h
  | typeAssert x t as0 ok => rw [hop] at h; exact ov h
  | extract t i => rw [hop] at h; simp only at h ⊢; split at h
                   · exact ov h
                   · cases h
  | _ => rw [hop] at h he hr; simp at he hr <;> (first | (simp at h; done) | skip)
end
end Go.Sm
/- Any order in which a region may be read. -/
set_option linter.unusedVariables false
set_option linter.unusedSimpArgs false
namespace Go.Sm
open Go

/-- What waits for nothing that is not yet done; all of it. -/
def OrdL (ops : Array Oper) (b : Array Nat) : List Nat → List Nat → Prop
  | dn, [] => ∀ i, i < ops.size → i ∈ dn
  | dn, i :: rest => i < ops.size ∧ i ∉ dn ∧ (∀ j, befBits b i j = true → j ∈ dn) ∧ OrdL ops b (i :: dn) rest

theorem edges_bit (A : Array Nat) (j : Nat) : ∀ (l : List Edge) (s : Nat), (l.foldl (fun s e => if Region.binds .any e then s ||| 2 ^ e.on ||| A.getD e.on 0 else s) s).testBit j = true →
    s.testBit j = true ∨ ∃ e ∈ l, Region.binds .any e = true ∧ (e.on = j ∨ (A.getD e.on 0).testBit j = true)
  | [], s, h => .inl h
  | e :: l, s, h => by
    rw [List.foldl_cons] at h
    rcases edges_bit A j l _ h with h1 | ⟨e', h1, h2⟩
    · by_cases hb : Region.binds .any e = true
      · rw [if_pos hb, Nat.testBit_or, Nat.testBit_or, Bool.or_eq_true, Bool.or_eq_true] at h1
        rcases h1 with (h1 | h1) | h1
        · exact .inl h1
        · rw [Nat.testBit_two_pow] at h1
          exact .inr ⟨e, by simp, hb, .inl (by simpa using h1)⟩
        · exact .inr ⟨e, by simp, hb, .inr h1⟩
      · rw [if_neg hb] at h1
        exact .inl h1
    · exact .inr ⟨e', by simp [h1], h2⟩

theorem bef_inv : ∀ (l pre : List Oper) (A : Array Nat), A.size = pre.length →
    (∀ i j, (A.getD i 0).testBit j = true → ∃ o, pre[i]? = some o ∧ ∃ e ∈ o.after.toList, Region.binds .any e = true ∧ (e.on = j ∨ (A.getD e.on 0).testBit j = true)) →
    let A' := l.foldl (fun acc o => acc.push (o.after.foldl (fun s e => if Region.binds .any e then s ||| 2 ^ e.on ||| acc.getD e.on 0 else s) 0)) A
    ∀ i j, (A'.getD i 0).testBit j = true → ∃ o, (pre ++ l)[i]? = some o ∧ ∃ e ∈ o.after.toList, Region.binds .any e = true ∧ (e.on = j ∨ (A'.getD e.on 0).testBit j = true)
  | [], pre, A, hs, h => by simpa using h
  | o :: l, pre, A, hs, h => by
    simp only [List.foldl_cons]
    have := bef_inv l (pre ++ [o]) (A.push (o.after.foldl (fun s e => if Region.binds .any e then s ||| 2 ^ e.on ||| A.getD e.on 0 else s) 0)) (by simp [hs]) ?_
    · simpa using this
    · intro i j hij
      have hget : ∀ k x, (A.push x).getD k 0 = if k = A.size then x else A.getD k 0 := by
        intro k x
        rw [Array.getD_eq_getD_getElem?, Array.getD_eq_getD_getElem?, Array.getElem?_push]
        by_cases hk : k = A.size
        · simp [hk]
        · simp [hk]
      have hup : ∀ k x, (A.getD k 0).testBit j = true → ((A.push x).getD k 0).testBit j = true := by
        intro k x hk
        rw [hget, if_neg]
        · exact hk
        · intro e
          rw [e] at hk
          simp at hk
      rw [hget] at hij
      by_cases hi : i = A.size
      · rw [if_pos hi, ← Array.foldl_toList] at hij
        rcases edges_bit A j _ _ hij with h1 | ⟨e, h1, h2, h3⟩
        · simp at h1
        · exact ⟨o, by simp [hi, hs], e, h1, h2, h3.imp id (hup _ _)⟩
      · rw [if_neg hi] at hij
        obtain ⟨o', h1, e, h2, h3, h4⟩ := h i j hij
        have hlt := (List.getElem?_eq_some_iff.1 h1).1
        exact ⟨o', by rw [List.getElem?_append_left hlt]; exact h1, e, h2, h3, h4.imp id (hup _ _)⟩

/-- Who waits, waits along an edge. -/
theorem bef_edge {ops : Array Oper} {i j : Nat} (h : befBits (Region.before ops) i j = true) :
    ∃ o, ops[i]? = some o ∧ ∃ e ∈ o.after, Region.binds .any e = true ∧ (e.on = j ∨ befBits (Region.before ops) e.on j = true) := by
  unfold befBits Region.before at *
  rw [← Array.foldl_toList] at *
  have := bef_inv ops.toList [] #[] rfl (by intro i j h; simp at h) i j h
  obtain ⟨o, h1, e, h2, h3⟩ := this
  exact ⟨o, by simpa using h1, e, by simpa using h2, h3⟩

theorem go_ord {ops : Array Oper} (hback : ∀ i o, ops[i]? = some o → ∀ e ∈ o.after, Region.binds .any e = true → e.on < i) :
    ∀ (fuel t : Nat) (listed : Array Bool) (dn : List Nat), listed.size = ops.size → fuel + dn.length = ops.size → dn.Nodup → (∀ i ∈ dn, i < ops.size) → (∀ i, i < ops.size → (listed.getD i true = true ↔ i ∈ dn)) →
      (∀ i ∈ dn, ∀ j, befBits (Region.before ops) i j = true → j ∈ dn) → OrdL ops (Region.before ops) dn (Region.linearise.go .any ops fuel t listed [])
  | 0, t, listed, dn, hs, hf, hn, hr, hl, hc => by
    simp only [Region.linearise.go, List.reverse_nil, OrdL]
    intro i hi
    have hsub : dn ⊆ List.range ops.size := fun k hk => List.mem_range.2 (hr k hk)
    by_cases hmem : i ∈ dn
    · exact hmem
    · exfalso
      have h1 : (i :: dn).Nodup := List.nodup_cons.2 ⟨hmem, hn⟩
      have h2 : (i :: dn) ⊆ List.range ops.size := fun k hk => by
        rcases List.mem_cons.1 hk with rfl | hk
        · exact List.mem_range.2 hi
        · exact hsub hk
      have := List.Nodup.length_le_of_subset h1 h2
      simp at this
      omega
  | fuel + 1, t, listed, dn, hs, hf, hn, hr, hl, hc => by
    simp only [Region.linearise.go]
    change OrdL ops _ dn (match (Region.ready .any ops listed)[t % (Region.ready .any ops listed).length]? with
      | some i => Region.linearise.go .any ops fuel (t / (Region.ready .any ops listed).length) (listed.setIfInBounds i true) [i]
      | none => [].reverse)
    cases hi : (Region.ready .any ops listed)[t % (Region.ready .any ops listed).length]? with
    | none =>
      exfalso
      have hnil : Region.ready .any ops listed = [] := by
        cases hr : Region.ready .any ops listed with
        | nil => rfl
        | cons x xs =>
          rw [hr] at hi
          have hlt : t % (x :: xs).length < (x :: xs).length := Nat.mod_lt _ (by simp)
          simp at hi
          simp at hlt
          omega
      -- the least one not yet listed is ready
      have hex : ∃ i, i < ops.size ∧ i ∉ dn := by
        apply Classical.byContradiction
        intro hne
        have hall : ∀ i, i < ops.size → i ∈ dn := fun i hi => Classical.byContradiction fun h => hne ⟨i, hi, h⟩
        have h1 : (List.range ops.size).Nodup := List.nodup_range
        have := List.Nodup.length_le_of_subset h1 (fun k hk => hall k (List.mem_range.1 hk))
        simp at this
        omega
      have hleast : ∀ n i, i ≤ n → i < ops.size → i ∉ dn → ∃ k, k < ops.size ∧ k ∉ dn ∧ ∀ j, j < k → j ∈ dn := by
        intro n
        induction n with
        | zero => intro i h1 h2 h3; exact ⟨i, h2, h3, fun j hj => by omega⟩
        | succ n ih =>
          intro i h1 h2 h3
          by_cases hh : ∀ j, j < i → j ∈ dn
          · exact ⟨i, h2, h3, hh⟩
          · have : ∃ j, j < i ∧ j ∉ dn := Classical.byContradiction fun hne => hh fun j hj => Classical.byContradiction fun h => hne ⟨j, hj, h⟩
            obtain ⟨j, h4, h5⟩ := this
            exact ih j (by omega) (by omega) h5
      obtain ⟨i0, hi0, hi1⟩ := hex
      obtain ⟨k, hk1, hk2, hk3⟩ := hleast i0 i0 (Nat.le_refl _) hi0 hi1
      have : k ∈ Region.ready .any ops listed := by
        rw [mem_ready]
        refine ⟨?_, ops[k], by simp [hk1], fun e he hb => ?_⟩
        · cases hx : listed.getD k true
          · rfl
          · exact absurd ((hl k hk1).1 hx) hk2
        · have hlt := hback k ops[k] (by simp [hk1]) e he hb
          have := (hl e.on (by omega)).2 (hk3 _ hlt)
          rw [Array.getD_eq_getD_getElem?] at this ⊢
          rw [Array.getElem?_eq_getElem (by omega : e.on < listed.size)] at this ⊢
          exact this
      rw [hnil] at this
      cases this
    | some i =>
      simp only []
      rw [linearise_go_acc, List.reverse_singleton, List.singleton_append]
      have hm := List.mem_of_getElem? hi
      rw [mem_ready] at hm
      obtain ⟨h0, o, ho, he⟩ := hm
      have hlt : i < ops.size := (Array.getElem?_eq_some_iff.1 ho).1
      have hnd : i ∉ dn := fun h => by
        have := (hl i hlt).2 h
        rw [this] at h0
        cases h0
      have hcl : ∀ j, befBits (Region.before ops) i j = true → j ∈ dn := by
        intro j hj
        obtain ⟨o', h1, e, h2, h3, h4⟩ := bef_edge hj
        rw [ho] at h1
        cases h1
        have hd := he e h2 h3
        have hlt' := hback i o ho e h2 h3
        have hmem : e.on ∈ dn := by
          refine (hl e.on (by omega)).1 ?_
          rw [Array.getD_eq_getD_getElem?] at hd ⊢
          rw [Array.getElem?_eq_getElem (by omega : e.on < listed.size)] at hd ⊢
          exact hd
        rcases h4 with rfl | h4
        · exact hmem
        · exact hc _ hmem j h4
      refine ⟨hlt, hnd, hcl, ?_⟩
      refine go_ord hback fuel _ _ (i :: dn) (by simp [hs]) (by simp; omega) (List.nodup_cons.2 ⟨hnd, hn⟩) ?_ ?_ ?_
      · intro k hk
        rcases List.mem_cons.1 hk with rfl | hk
        · exact hlt
        · exact hr k hk
      · intro k hk
        by_cases hki : i = k
        · subst hki
          simp [hs, hlt]
        · rw [getD_set_ne true hki, hl k hk]
          simp [Ne.symm hki]
      · intro k hk j hj
        rcases List.mem_cons.1 hk with rfl | hk
        · exact List.mem_cons_of_mem _ (hcl j hj)
        · exact List.mem_cons_of_mem _ (hc k hk j hj)

theorem schedule_ord {ops : Array Oper} (hback : ∀ i o, ops[i]? = some o → ∀ e ∈ o.after, Region.binds .any e = true → e.on < i) (t : Nat) : OrdL ops (bef ops) [] (Region.schedule true ops t) := by
  rw [bef_eq]
  simp only [Region.schedule, Bool.true_or, if_true]
  refine go_ord hback ops.size t _ [] (by simp) (by simp) List.nodup_nil (by simp) ?_ (by simp)
  intro i hi
  simp [hi]
end Go.Sm
/- Regions that draw their order: one plan stands for all of them. -/
set_option linter.unusedVariables false
set_option linter.unusedSimpArgs false
namespace Go.Sm
open Go

section
variable {P : Program}

theorem SimC.mono {x : Ctx} {a : CAct} {σ : CSt} {todo : List Item → List Item} {Q Q' : Out → CSt → Prop} (hq : ∀ o σ, Q o σ → Q' o σ) (h : SimC P x a σ todo Q) : SimC P x a σ todo Q' := by
  intro B ρ w ac b k cs hB hR hA hF ht
  obtain ⟨e, a₁, σ₁, ρ₁, w₁, ac₁, h1, h2⟩ := h B ρ w ac b k cs hB hR hA hF ht
  exact ⟨e, a₁, σ₁, ρ₁, w₁, ac₁, hq _ _ h1, h2⟩
theorem FnOk.mono {B : Nat} {m : Machine} {f : FuncId} {cs : List Frame} {dk : Option (Option Value)} {ρ : Rho} {σ : CSt} {w : World} {Q Q' : Out → CSt → Prop} (hq : ∀ o σ, Q o σ → Q' o σ) (h : FnOk B P m f cs dk ρ σ w Q) : FnOk B P m f cs dk ρ σ w Q' := by
  rcases h with ⟨v, tk, σ', ρ', w', v', fr, h1, h2⟩ | ⟨v, σ', ρ', w', v', fr, h1, h2⟩
  · exact .inl ⟨v, tk, σ', ρ', w', v', fr, hq _ _ h1, h2⟩
  · exact .inr ⟨v, σ', ρ', w', v', fr, hq _ _ h1, h2⟩
theorem SimT.mono {t : Task} {σ : CSt} {Q Q' : Out → CSt → Prop} (hq : ∀ o σ, Q o σ → Q' o σ) (h : SimT P t σ Q) : SimT P t σ Q' := by
  cases t with
  | code x c a => exact SimC.mono hq h
  | scope x body c a => exact SimC.mono hq h
  | ops x ops todo a => exact SimC.mono hq h
  | fn f args dk => exact ⟨h.1, fun ρ w args' cs h1 h2 h3 => (h.2 ρ w args' cs h1 h2 h3).mono hq⟩
  | unw x a m => exact fun B ρ w ac b t cs m' h1 h2 h3 h4 h5 h6 h7 h8 h9 => FnOk.mono hq (h B ρ w ac b t cs m' h1 h2 h3 h4 h5 h6 h7 h8 h9)
  | round l args =>
    refine ⟨h.1, fun ρ w args' p r c cs h1 h2 h3 h4 => ⟨(h.2 ρ w args' p r c cs h1 h2 h3 h4).1, ?_⟩⟩
    rcases (h.2 ρ w args' p r c cs h1 h2 h3 h4).2 with ⟨v, tk, σ', ρ', w', v', g1, g2⟩ | ⟨v, σ', ρ', w', v', g1, g2⟩
    · exact .inl ⟨v, tk, σ', ρ', w', v', hq _ _ g1, g2⟩
    · exact .inr ⟨v, σ', ρ', w', v', hq _ _ g1, g2⟩
theorem callv_mono {fv : Value} {args : Array Value} {dk : Option (Option Value)} {σ : CSt} {Q Q' : Out → CSt → Prop} (hq : ∀ o σ, Q o σ → Q' o σ) (h : callv latP (SimT P) fv args dk σ Q) : callv latP (SimT P) fv args dk σ Q' := by
  unfold callv at h ⊢
  split at h
  · exact SimT.mono hq h
  · split at h
    · exact h.elim
    · rename_i hd; rw [if_neg hd]; exact SimT.mono hq h
  · exact h.elim

/-- The one knows no more than the other. -/
structure Less (a b : CAct) : Prop where
  sz : a.sz = b.sz
  df : a.df = b.df
  tk : a.tk = b.tk
  tm : ∀ t, a.get t = b.get t ∨ a.get t = undef
theorem Less.ar {B : Nat} {ρ : Rho} {σ : CSt} {w : World} {a b : CAct} {ac : Act} (h : Less a b) (hb : AR B ρ σ w b ac) : AR B ρ σ w a ac :=
  ⟨by rw [h.sz]; exact hb.sz, fun i => by rcases h.tm i with e | e <;> rw [e]; exact hb.tm i; exact .junk _, by rw [h.df]; exact hb.df⟩

def Lower (Q : Out → CSt → Prop) : Out → CSt → Prop := fun o σ => match o with | .code e a => ∃ a', Less a' a ∧ Q (.code e a') σ | o => Q o σ
theorem SimC.lower {x : Ctx} {a : CAct} {σ : CSt} {todo : List Item → List Item} {Q : Out → CSt → Prop} (h : SimC P x a σ todo (Lower Q)) : SimC P x a σ todo Q := by
  intro B ρ w ac b k cs hB hR hA hF ht
  obtain ⟨e, a₁, σ₁, ρ₁, w₁, ac₁, ⟨a₂, hl, h1⟩, h2, h3, h4, h5, h6⟩ := h B ρ w ac b k cs hB hR hA hF ht
  exact ⟨e, a₂, σ₁, ρ₁, w₁, ac₁, h1, h2, hl.ar h3, h4, fun hx => by rw [hl.tk]; exact h5 hx, by rw [hl.tk]; exact h6⟩

/-! ### What a plan's check says -/
structure Fix (ops : Array Oper) (b : Array Nat) : Prop where
  dst : ∀ i j, i < ops.size → j < ops.size → i ≠ j → ∀ d, (opAt ops i).dst = some d → (opAt ops j).dst ≠ some d
  look : ∀ i j, i < ops.size → j < ops.size → i ≠ j → ∀ d, (opAt ops i).dst = some d → d ∈ looks ops (opAt ops j) → ordered b i j = true

theorem opAt_some {ops : Array Oper} {i : Nat} (h : i < ops.size) : ops[i]? = some (opAt ops i) := by simp [opAt, h]

theorem planOkW_fix {ops : Array Oper} {l : List Nat} (h : planOkW P ops l = true) : Fix ops (bef ops) ∧ (∀ i, i < ops.size → i ∈ l) ∧
    (∀ i o, ops[i]? = some o → ∀ e ∈ o.after, Region.binds .any e = true → e.on < i) ∧ planStepW P ops (bef ops) l [] = true := by
  simp only [planOkW, Bool.and_eq_true, List.all_eq_true, List.mem_range, Bool.or_eq_true, beq_iff_eq, List.contains_iff_mem] at h
  obtain ⟨⟨⟨h1, h2⟩, h3⟩, h4⟩ := h
  refine ⟨⟨fun i j hi hj hn d hd hc => ?_, fun i j hi hj hn d hd hl => ?_⟩, h1, fun i o ho e he hb => ?_, h3⟩
  · have := (h4 i hi j hj).resolve_left hn
    rw [hd] at this
    simp [hc] at this
  · have := (h4 i hi j hj).resolve_left hn
    rw [hd] at this
    simp only [Bool.and_eq_true, Bool.or_eq_true, Bool.not_eq_true', decide_eq_false_iff_not, List.contains_eq_mem] at this
    rcases this.2 with h | h
    · simp [hl] at h
    · exact h
  · have hm : (o, i) ∈ ops.toList.zipIdx := by
      rw [List.mk_mem_zipIdx_iff_getElem?]
      simpa using ho
    have := h2 _ hm
    rw [Array.all_eq_true_iff_forall_mem] at this
    have := this e he
    simp [hb] at this
    exact this

theorem planOk_fix {ops : Array Oper} {l : List Nat} (h : planOk P ops l = true) : Fix ops (bef ops) ∧ (∀ i, i < ops.size → i ∈ l) ∧
    (∀ i o, ops[i]? = some o → ∀ e ∈ o.after, Region.binds .any e = true → e.on < i) ∧ planStep P ops (bef ops) l [] = true := by
  simp only [planOk, Bool.and_eq_true, List.all_eq_true, List.mem_range, Bool.or_eq_true, beq_iff_eq, List.contains_iff_mem] at h
  obtain ⟨⟨⟨h1, h2⟩, h3⟩, h4⟩ := h
  refine ⟨⟨fun i j hi hj hn d hd hc => ?_, fun i j hi hj hn d hd hl => ?_⟩, h1, fun i o ho e he hb => ?_, h3⟩
  · have := (h4 i hi j hj).resolve_left hn
    rw [hd] at this
    simp [hc] at this
  · have := (h4 i hi j hj).resolve_left hn
    rw [hd] at this
    simp only [Bool.and_eq_true, Bool.or_eq_true, Bool.not_eq_true', decide_eq_false_iff_not, List.contains_eq_mem] at this
    rcases this.2 with h | h
    · simp [hl] at h
    · exact h
  · have hm : (o, i) ∈ ops.toList.zipIdx := by
      rw [List.mk_mem_zipIdx_iff_getElem?]
      simpa using ho
    have := h2 _ hm
    rw [Array.all_eq_true_iff_forall_mem] at this
    have := this e he
    simp [hb] at this
    exact this

/-- Some operations' answers laid over a start. -/
structure Put (ops : Array Oper) (vals : Nat → Value) (S : List Nat) (a0 a : CAct) : Prop where
  sz : a.sz = a0.sz
  df : a.df = a0.df
  tk : a.tk = a0.tk
  big : ∀ t, a0.sz ≤ t → a.get t = a0.get t
  old : ∀ t, (∀ k ∈ S, (opAt ops k).dst ≠ some t) → a.get t = a0.get t
  new : ∀ k ∈ S, ∀ t, (opAt ops k).dst = some t → t < a0.sz → a.get t = vals k

theorem Put.start (ops : Array Oper) (vals : Nat → Value) (a0 : CAct) : Put ops vals [] a0 a0 := ⟨rfl, rfl, rfl, fun _ _ => rfl, fun _ _ => rfl, by simp⟩
def upd (vals : Nat → Value) (i : Nat) (v : Value) : Nat → Value := fun k => if k = i then v else vals k
theorem Put.upd {ops : Array Oper} {vals : Nat → Value} {S : List Nat} {a0 a : CAct} (h : Put ops vals S a0 a) {i : Nat} {v : Value} (hi : i ∉ S) : Put ops (upd vals i v) S a0 a :=
  { h with new := fun k hk t ht hl => by rw [h.new k hk t ht hl]; simp only [Sm.upd]; rw [if_neg]; rintro rfl; exact hi hk }
theorem Put.put {ops : Array Oper} {b : Array Nat} (hx : Fix ops b) {vals : Nat → Value} {S : List Nat} {a0 a : CAct} (h : Put ops vals S a0 a) {i : Nat} (hS : ∀ k ∈ S, k < ops.size) (hl : i < ops.size) (hi : i ∉ S) : Put ops vals (i :: S) a0 (a.put (opAt ops i).dst (vals i)) := by
  cases hd : (opAt ops i).dst with
  | none =>
    refine ⟨h.sz, h.df, h.tk, h.big, fun t ht => h.old t fun k hk => ht k (by simp [hk]), fun k hk t ht hl => ?_⟩
    rcases List.mem_cons.1 hk with rfl | hk
    · rw [hd] at ht; cases ht
    · exact h.new k hk t ht hl
  | some d =>
    refine ⟨by rw [CAct.sz_put]; exact h.sz, by rw [CAct.df_put]; exact h.df, by rw [CAct.tk_put]; exact h.tk, fun t ht => ?_, fun t ht => ?_, fun k hk t ht hlt => ?_⟩
    · rw [CAct.get_put, if_neg (by rw [h.sz]; omega)]; exact h.big t ht
    · rw [CAct.get_put, if_neg]
      · exact h.old t fun k hk => ht k (by simp [hk])
      · rintro ⟨rfl, _⟩
        exact ht i (by simp) hd
    · rw [CAct.get_put]
      rcases List.mem_cons.1 hk with rfl | hk
      · rw [hd] at ht
        cases ht
        rw [if_pos ⟨rfl, by rw [h.sz]; exact hlt⟩]
      · rw [if_neg]
        · exact h.new k hk t ht hlt
        · rintro ⟨rfl, _⟩
          exact hx.dst k i (hS k hk) hl (fun e => hi (e ▸ hk)) _ ht hd

theorem Put.same {ops : Array Oper} {b : Array Nat} (hx : Fix ops b) {vals : Nat → Value} {S D : List Nat} {a0 a aD : CAct} (h : Put ops vals S a0 a) (hD : Put ops vals D a0 aD) {i : Nat} (hl : i < ops.size) (hi : i ∉ D)
    (hS : ∀ k ∈ S, k < ops.size) (hD' : ∀ k ∈ D, k < ops.size) (hr : ∀ j, befBits b i j = true → j ∈ D) (hcl : ∀ k ∈ D, ∀ j, befBits b k j = true → j ∈ D)
    (h1 : ∀ k, k < ops.size → k ≠ i → befBits b i k = true → k ∈ S) (h2 : ∀ k ∈ S, befBits b k i = false ∧ k ≠ i) : ∀ t ∈ looks ops (opAt ops i), a.get t = aD.get t := by
  intro t ht
  by_cases hsz : a0.sz ≤ t
  · rw [h.big t hsz, hD.big t hsz]
  have hsz : t < a0.sz := Nat.lt_of_not_le hsz
  by_cases hw : ∃ k, k < ops.size ∧ (opAt ops k).dst = some t
  · obtain ⟨k, hk, hkd⟩ := hw
    have only : ∀ S : List Nat, (∀ k ∈ S, k < ops.size) → k ∉ S → ∀ k' ∈ S, (opAt ops k').dst ≠ some t := by
      intro S hS hkS k' hk' he
      exact hx.dst k k' hk (hS k' hk') (by rintro rfl; exact hkS hk') _ hkd he
    by_cases hki : k = i
    · subst hki
      rw [h.old t (only S hS fun hh => (h2 k hh).2 rfl), hD.old t (only D hD' hi)]
    · have ho := hx.look k i hk hl hki t hkd ht
      simp only [ordered, Bool.or_eq_true] at ho
      rcases ho with ho | ho
      · rw [h.old t (only S hS fun hh => by rw [(h2 k hh).1] at ho; cases ho), hD.old t (only D hD' fun hh => hi (hcl k hh i ho))]
      · rw [h.new k (h1 k hk hki ho) t hkd hsz, hD.new k (hr k ho) t hkd hsz]
  · have hno : ∀ S : List Nat, (∀ k ∈ S, k < ops.size) → ∀ k ∈ S, (opAt ops k).dst ≠ some t := fun S hS k hk he => hw ⟨k, hS k hk, he⟩
    rw [h.old t (hno S hS), hD.old t (hno D hD')]

theorem eval_same {ops : Array Oper} {o : Oper} {a aD : CAct} (h : ∀ t ∈ looks ops o, a.get t = aD.get t) : ∀ x ∈ o.op.operands, a.eval x = aD.eval x := by
  intro x hx
  cases x with
  | tmp t =>
    refine h t ?_
    simp only [looks, List.mem_append, List.mem_filterMap]
    exact .inl ⟨.tmp t, by simpa using hx, rfl⟩
  | _ => rfl
theorem wanted_same {ops : Array Oper} {o : Oper} {a aD : CAct} (hz : a.sz = aD.sz) (h : ∀ t ∈ looks ops o, a.get t = aD.get t) : wantedC ops a o = wantedC ops aD o := by
  unfold wantedC
  split
  · rfl
  · rename_i j want hg
    cases hd : (ops[j]?).bind (·.dst) with
    | none => rfl
    | some d =>
      simp only
      rw [hz, h d]
      simp only [looks, List.mem_append, hg]
      exact .inr (by rw [hd]; simp)

theorem planStep_weak {ops : Array Oper} {b : Array Nat} : ∀ {rest dn : List Nat}, planStep P ops b rest dn = true → planStepW P ops b rest dn = true
  | [], _, _ => rfl
  | j :: rest, dn, h => by
    simp only [planStep, planStepW, Bool.and_eq_true, List.all_eq_true, Bool.or_eq_true] at h ⊢
    refine ⟨⟨h.1.1, .inr ?_⟩, planStep_weak h.2⟩
    split
    · rename_i e he
      have h1 := h.1.2 e (List.mem_of_find?_eq_some he)
      have h2 := List.find?_some he
      simp [h2] at h1
      exact h1
    · rfl
theorem planStep_eff {ops : Array Oper} {b : Array Nat} : ∀ {rest dn : List Nat} {e : Nat}, planStepW P ops b rest dn = true → dn.find? (fun e => isEff P (opAt ops e)) = some e → ∀ i ∈ rest, isEff P (opAt ops i) = false → ∃ e', (e' = e ∨ e' ∈ rest) ∧ befBits b i e' = true
  | j :: rest, dn, e, h, he, i, hi, hni => by
    simp only [planStepW, Bool.and_eq_true] at h
    obtain ⟨⟨⟨_, _⟩, h1⟩, h2⟩ := h
    by_cases hij : i = j
    · subst hij
      simp only [hni, he, Bool.false_or] at h1
      exact ⟨e, .inl rfl, h1⟩
    · have hi' : i ∈ rest := by
        rcases List.mem_cons.1 hi with h | h
        · exact absurd h hij
        · exact h
      by_cases hj : isEff P (opAt ops j) = true
      · obtain ⟨e', g1, g2⟩ := planStep_eff (e := j) h2 (by simp [hj]) i hi' hni
        refine ⟨e', .inr ?_, g2⟩
        rcases g1 with rfl | g1
        · simp
        · simp [g1]
      · obtain ⟨e', g1, g2⟩ := planStep_eff (e := e) h2 (by rw [List.find?_cons]; simp [hj, he]) i hi' hni
        exact ⟨e', g1.imp id fun g => by simp [g], g2⟩

/-! Orders of effects. -/
theorem OrdL.pairwise {ops : Array Oper} {b : Array Nat} : ∀ {s dn : List Nat}, OrdL ops b dn s → (∀ j ∈ s, j ∉ dn) ∧ s.Pairwise (fun i j => i ≠ j ∧ befBits b i j = false) ∧ (∀ i, i < ops.size → i ∈ dn ∨ i ∈ s) ∧ (∀ i ∈ s, i < ops.size)
  | [], dn, h => ⟨by simp, .nil, fun i hi => .inl (h i hi), by simp⟩
  | i :: s, dn, h => by
    obtain ⟨h1, h2, h3, h4⟩ := h
    obtain ⟨g1, g2, g3, g4⟩ := OrdL.pairwise h4
    refine ⟨fun j hj => ?_, List.pairwise_cons.2 ⟨fun j hj => ⟨?_, ?_⟩, g2⟩, fun k hk => ?_, fun k hk => ?_⟩
    · rcases List.mem_cons.1 hj with rfl | hj
      · exact h2
      · exact fun hh => g1 j hj (by simp [hh])
    · rintro rfl
      exact g1 i hj (by simp)
    · cases hb : befBits b i j
      · rfl
      · exact absurd (List.mem_cons_of_mem _ (h3 j hb)) (g1 j hj)
    · rcases g3 k hk with hh | hh
      · rcases List.mem_cons.1 hh with rfl | hh
        · exact .inr (by simp)
        · exact .inl hh
      · exact .inr (by simp [hh])
    · rcases List.mem_cons.1 hk with rfl | hk
      · exact h1
      · exact g4 k hk
theorem same_order {b : Array Nat} : ∀ {L S : List Nat}, L.Pairwise (fun e j => e ≠ j ∧ befBits b j e = true) → S.Pairwise (fun i j => i ≠ j ∧ befBits b i j = false) → (∀ x, x ∈ L ↔ x ∈ S) → L = S
  | [], S, _, _, h => by
    cases S with
    | nil => rfl
    | cons i S => exact absurd ((h i).2 (by simp)) (by simp)
  | e :: L, [], _, _, h => absurd ((h e).1 (by simp)) (by simp)
  | e :: L, i :: S, hL, hS, h => by
    obtain ⟨a1, a2⟩ := List.pairwise_cons.1 hL
    obtain ⟨b1, b2⟩ := List.pairwise_cons.1 hS
    have hei : e = i := by
      by_cases hn : e = i
      · exact hn
      · have c1 : i ∈ L := by
          rcases List.mem_cons.1 ((h i).2 (by simp)) with hh | hh
          · exact absurd hh.symm hn
          · exact hh
        have c2 : e ∈ S := by
          rcases List.mem_cons.1 ((h e).1 (by simp)) with hh | hh
          · exact absurd hh hn
          · exact hh
        have := (a1 i c1).2
        rw [(b1 e c2).2] at this
        cases this
    subst hei
    rw [same_order a2 b2 fun x => ?_]
    constructor
    · intro hx
      rcases List.mem_cons.1 ((h x).1 (by simp [hx])) with hh | hh
      · exact absurd hh.symm (a1 x hx).1
      · exact hh
    · intro hx
      rcases List.mem_cons.1 ((h x).2 (by simp [hx])) with hh | hh
      · exact absurd hh.symm (b1 x hx).1
      · exact hh
theorem planStep_pair {ops : Array Oper} {b : Array Nat} : ∀ {l dn : List Nat}, planStep P ops b l dn = true → (effO P ops l).Pairwise (fun e j => e ≠ j ∧ befBits b j e = true) ∧ ∀ j ∈ l, ∀ e ∈ dn, isEff P (opAt ops e) = true → befBits b j e = true
  | [], _, _ => ⟨.nil, by simp⟩
  | i :: l, dn, h => by
    simp only [planStep, Bool.and_eq_true, List.all_eq_true] at h
    obtain ⟨⟨⟨⟨h0, _⟩, _⟩, h1⟩, h2⟩ := h
    obtain ⟨g1, g2⟩ := planStep_pair h2
    refine ⟨?_, fun j hj e he hf => ?_⟩
    · unfold effO at g1 ⊢
      rw [List.filter_cons]
      split
      · rename_i hi
        refine List.pairwise_cons.2 ⟨fun j hj => ?_, g1⟩
        have hjl := (List.mem_filter.1 hj).1
        refine ⟨?_, g2 j hjl i (by simp) hi⟩
        rintro rfl
        simp [hjl] at h0
      · exact g1
    · rcases List.mem_cons.1 hj with rfl | hj
      · have := h1 e he
        simp [hf] at this
        exact this
      · exact g2 j hj e (by simp [he]) hf
theorem planOk_order {ops : Array Oper} {l s : List Nat} (h : planOk P ops l = true) (hs : OrdL ops (bef ops) [] s) : effO P ops l = effO P ops s := by
  have hl := planOk_fix h
  obtain ⟨_, h1, h2, h3⟩ := hs.pairwise
  refine same_order (planStep_pair hl.2.2.2).1 (List.Pairwise.filter _ h1) fun x => ?_
  have hlt : ∀ {l dn : List Nat}, planStep P ops (bef ops) l dn = true → ∀ i ∈ l, i < ops.size := by
    intro l
    induction l with
    | nil => intro dn _ i hi; cases hi
    | cons k l ih =>
      intro dn h i hi
      simp only [planStep, Bool.and_eq_true, decide_eq_true_eq] at h
      rcases List.mem_cons.1 hi with rfl | hi
      · exact h.1.1.1.2
      · exact ih h.2 i hi
  simp only [effO, List.mem_filter]
  constructor
  · rintro ⟨a, b⟩
    exact ⟨(h2 x (hlt hl.2.2.2 x a)).resolve_left (by simp), b⟩
  · rintro ⟨a, b⟩
    exact ⟨hl.2.1 x (h3 x a), b⟩
theorem exts_mem {b : Array Nat} : ∀ (f : Nat) (S left : List Nat), S.Pairwise (fun i j => i ≠ j ∧ befBits b i j = false) → (∀ x, x ∈ S ↔ x ∈ left) → left.Nodup → left.length ≤ f → S ∈ exts b f left
  | 0, S, left, hS, hx, hn, hl => by
    have : left = [] := List.eq_nil_of_length_eq_zero (by omega)
    subst this
    have : S = [] := List.eq_nil_iff_forall_not_mem.2 fun x hh => absurd ((hx x).1 hh) (by simp)
    subst this
    simp [exts]
  | f + 1, S, left, hS, hx, hn, hl => by
    unfold exts
    split
    · rename_i h0
      subst h0
      have : S = [] := List.eq_nil_iff_forall_not_mem.2 fun x hh => absurd ((hx x).1 hh) (by simp)
      subst this
      simp
    · rename_i h0
      cases S with
      | nil =>
        exfalso
        obtain ⟨x, hxl⟩ := List.exists_mem_of_ne_nil _ h0
        exact absurd ((hx x).2 hxl) (by simp)
      | cons i S =>
        obtain ⟨h1, h2⟩ := List.pairwise_cons.1 hS
        have hi : i ∈ left := (hx i).1 (by simp)
        rw [List.mem_flatMap]
        refine ⟨i, ?_, List.mem_map.2 ⟨S, exts_mem f S (left.erase i) h2 (fun x => ?_) (hn.erase _) ?_, rfl⟩⟩
        · rw [List.mem_filter]
          refine ⟨hi, ?_⟩
          rw [List.all_eq_true]
          intro j hj
          rcases List.mem_cons.1 ((hx j).2 hj) with rfl | hj
          · simp
          · simp [(h1 j hj).2]
        · rw [hn.mem_erase_iff]
          constructor
          · intro hh
            exact ⟨(h1 x hh).1.symm, (hx x).1 (by simp [hh])⟩
          · rintro ⟨hne, hh⟩
            rcases List.mem_cons.1 ((hx x).2 hh) with rfl | hh
            · exact absurd rfl hne
            · exact hh
        · rw [List.length_erase_of_mem hi]
          omega
theorem plans_order {ops : Array Oper} {s : List Nat} (h : plansOk P ops = true) (hs : OrdL ops (bef ops) [] s) : ∃ j, j < (plansOf P ops).length ∧ planOkW P ops ((plansOf P ops).getD j []) = true ∧ effO P ops ((plansOf P ops).getD j []) = effO P ops s := by
  simp only [plansOk, Bool.and_eq_true, beq_iff_eq, List.all_eq_true] at h
  obtain ⟨⟨h1, h2⟩, _⟩ := h
  obtain ⟨_, g1, g2, g3⟩ := hs.pairwise
  have hm : effO P ops s ∈ eosOf P ops := by
    refine exts_mem _ _ _ (List.Pairwise.filter _ g1) (fun x => ?_) (List.Pairwise.filter _ List.nodup_range) ?_
    · simp only [effO, List.mem_filter, List.mem_range]
      constructor
      · rintro ⟨a, b⟩; exact ⟨g3 x a, b⟩
      · rintro ⟨a, b⟩; exact ⟨(g2 x a).resolve_left (by simp), b⟩
    · have := List.length_filter_le (fun i => isEff P (opAt ops i)) (List.range ops.size)
      simpa [effO] using this
  rw [← h2] at hm
  obtain ⟨l, hl, he⟩ := List.mem_map.1 hm
  obtain ⟨j, hj, rfl⟩ := List.mem_iff_getElem.1 hl
  refine ⟨j, hj, ?_, ?_⟩
  · rw [List.getD_eq_getElem?_getD, List.getElem?_eq_getElem hj]; exact h1 _ hl
  · rw [List.getD_eq_getElem?_getD, List.getElem?_eq_getElem hj]; exact he

structure Inv (P : Program) (ops : Array Oper) (b : Array Nat) (a0 : CAct) (dn rest D : List Nat) (vals : Nat → Value) (a aD : CAct) (σ : CSt) (rs : List Rec) : Prop where
  step : planStepW P ops b rest dn = true
  cov : ∀ i, i < ops.size → i ∈ dn ∨ i ∈ rest
  apart : ∀ i ∈ dn, i ∉ rest
  lt : ∀ i ∈ dn, i < ops.size
  late : ∀ k ∈ dn, ∀ j ∈ rest, befBits b k j = false
  sub : ∀ i ∈ D, i ∈ dn
  eff : ∀ i ∈ dn, isEff P (opAt ops i) = true → i ∈ D
  cl : ∀ i ∈ D, ∀ j, befBits b i j = true → j ∈ D
  pa : Put ops vals dn a0 a
  pD : Put ops vals D a0 aD
  pend : ∀ j ∈ dn, j ∉ D → ∃ S aj, Put ops vals S a0 aj ∧ (∀ k, k < ops.size → k ≠ j → befBits b j k = true → k ∈ S) ∧ (∀ k ∈ S, befBits b k j = false ∧ k ≠ j) ∧ (∀ k ∈ S, k ∈ dn) ∧
    ((wantedC ops aj (opAt ops j) = some true ∧ ⟨j, aj, vals j⟩ ∈ rs ∧ cop P σ aj.eval (opAt ops j) = .val (vals j) σ) ∨ (wantedC ops aj (opAt ops j) = some false ∧ vals j = nope))

section
variable {ops : Array Oper} {b : Array Nat} {a0 : CAct} {dn rest D : List Nat} {vals : Nat → Value} {a aD : CAct} {σ : CSt} {rs : List Rec}

theorem planStep_cons {j : Nat} (h : planStepW P ops b (j :: rest) dn = true) : j ∉ rest ∧ j < ops.size ∧ (∀ k ∈ rest, befBits b j k = false) ∧ planStepW P ops b rest (j :: dn) = true := by
  simp only [planStepW, Bool.and_eq_true, List.all_eq_true, Bool.not_eq_true', decide_eq_true_eq] at h
  obtain ⟨⟨⟨⟨h1, h2⟩, h3⟩, _⟩, h4⟩ := h
  exact ⟨by simpa using h1, h2, h3, h4⟩

theorem Inv.nin {j : Nat} (h : Inv P ops b a0 dn (j :: rest) D vals a aD σ rs) : j ∉ dn := fun hh => h.apart j hh (by simp)
theorem Inv.ltD (h : Inv P ops b a0 dn rest D vals a aD σ rs) : ∀ i ∈ D, i < ops.size := fun i hi => h.lt i (h.sub i hi)

/-- The plan's next one is read ahead of its time. -/
theorem Inv.ahead (hx : Fix ops b) {j : Nat} {v : Value} {rs' : List Rec} (h : Inv P ops b a0 dn (j :: rest) D vals a aD σ rs) (he : isEff P (opAt ops j) = false) (hrs : ∀ r ∈ rs, r ∈ rs')
    (hv : (wantedC ops a (opAt ops j) = some true ∧ ⟨j, a, v⟩ ∈ rs' ∧ cop P σ a.eval (opAt ops j) = .val v σ) ∨ (wantedC ops a (opAt ops j) = some false ∧ v = nope)) :
    Inv P ops b a0 (j :: dn) rest D (upd vals j v) (a.put (opAt ops j).dst v) aD σ rs' := by
  obtain ⟨h1, h2, h3, h4⟩ := planStep_cons h.step
  have hn := h.nin
  have hnD : j ∉ D := fun hh => hn (h.sub j hh)
  have hup : ∀ {k}, k ∈ dn → upd vals j v k = vals k := fun {k} hk => by simp only [upd]; rw [if_neg]; rintro rfl; exact hn hk
  have hjj : upd vals j v j = v := by simp [upd]
  refine ⟨h4, fun i hi => ?_, fun i hi => ?_, fun i hi => ?_, fun k hk i hi => ?_, fun i hi => ?_, fun i hi hf => ?_, h.cl, ?_, h.pD.upd hnD, fun i hi hiD => ?_⟩
  · rcases h.cov i hi with hh | hh
    · exact .inl (by simp [hh])
    · rcases List.mem_cons.1 hh with rfl | hh
      · exact .inl (by simp)
      · exact .inr hh
  · rcases List.mem_cons.1 hi with rfl | hi
    · exact h1
    · exact fun hh => h.apart i hi (by simp [hh])
  · rcases List.mem_cons.1 hi with rfl | hi
    · exact h2
    · exact h.lt i hi
  · rcases List.mem_cons.1 hk with rfl | hk
    · exact h3 i hi
    · exact h.late k hk i (by simp [hi])
  · simp [h.sub i hi]
  · rcases List.mem_cons.1 hi with rfl | hi
    · rw [he] at hf; cases hf
    · exact h.eff i hi hf
  · have := (h.pa.upd (v := v) hn).put hx h.lt h2 hn
    rw [hjj] at this
    exact this
  · rcases List.mem_cons.1 hi with rfl | hi
    · refine ⟨dn, a, h.pa.upd hn, fun k hk hki hb => ?_, fun k hk => ⟨h.late k hk i (by simp), by rintro rfl; exact hn hk⟩, fun k hk => by simp [hk], by rw [hjj]; exact hv⟩
      rcases h.cov k hk with hh | hh
      · exact hh
      · rcases List.mem_cons.1 hh with rfl | hh
        · exact absurd rfl hki
        · rw [h3 k hh] at hb; cases hb
    · obtain ⟨S, aj, g1, g2, g3, g4, g5⟩ := h.pend i hi hiD
      refine ⟨S, aj, g1.upd (fun hh => hn (g4 j hh)), g2, g3, fun k hk => by simp [g4 k hk], ?_⟩
      rw [hup hi]
      exact g5.imp (fun g => ⟨g.1, hrs _ g.2.1, g.2.2⟩) id

/-- What was read ahead is done in its turn. -/
theorem Inv.turn (hx : Fix ops b) {i : Nat} (h : Inv P ops b a0 dn rest D vals a aD σ rs) (hi : i ∈ dn) (hiD : i ∉ D) (hr : ∀ j, befBits b i j = true → j ∈ D) :
    Inv P ops b a0 dn rest (i :: D) vals a (aD.put (opAt ops i).dst (vals i)) σ rs := by
  refine { h with sub := fun k hk => ?_, eff := fun k hk hf => by simp [h.eff k hk hf], cl := fun k hk j hj => ?_, pD := h.pD.put hx h.ltD (h.lt i hi) hiD, pend := fun j hj hjD => h.pend j hj fun hh => hjD (by simp [hh]) }
  · rcases List.mem_cons.1 hk with rfl | hk
    · exact hi
    · exact h.sub k hk
  · rcases List.mem_cons.1 hk with rfl | hk
    · simp [hr j hj]
    · simp [h.cl k hk j hj]

/-- The plan's next one changes the state, and its turn is now. -/
theorem Inv.both (hx : Fix ops b) {i : Nat} {v : Value} {σ' : CSt} (h : Inv P ops b a0 dn (i :: rest) D vals a aD σ rs) (hr : ∀ j, befBits b i j = true → j ∈ D)
    (hk : ∀ j ∈ dn, j ∉ D → ∀ aj, (⟨j, aj, vals j⟩ : Rec) ∈ rs → cop P σ aj.eval (opAt ops j) = .val (vals j) σ → cop P σ' aj.eval (opAt ops j) = .val (vals j) σ') :
    Inv P ops b a0 (i :: dn) rest (i :: D) (upd vals i v) (a.put (opAt ops i).dst v) (aD.put (opAt ops i).dst v) σ' rs := by
  obtain ⟨h1, h2, h3, h4⟩ := planStep_cons h.step
  have hn := h.nin
  have hnD : i ∉ D := fun hh => hn (h.sub i hh)
  have hup : ∀ {k}, k ∈ dn → upd vals i v k = vals k := fun {k} hk => by simp only [upd]; rw [if_neg]; rintro rfl; exact hn hk
  have hjj : upd vals i v i = v := by simp [upd]
  refine ⟨h4, fun k hk => ?_, fun k hk => ?_, fun k hk => ?_, fun k hk j hj => ?_, fun k hk => ?_, fun k hk hf => ?_, fun k hk j hj => ?_, ?_, ?_, fun j hj hjD => ?_⟩
  · rcases h.cov k hk with hh | hh
    · exact .inl (by simp [hh])
    · rcases List.mem_cons.1 hh with rfl | hh
      · exact .inl (by simp)
      · exact .inr hh
  · rcases List.mem_cons.1 hk with rfl | hk
    · exact h1
    · exact fun hh => h.apart k hk (by simp [hh])
  · rcases List.mem_cons.1 hk with rfl | hk
    · exact h2
    · exact h.lt k hk
  · rcases List.mem_cons.1 hk with rfl | hk
    · exact h3 j hj
    · exact h.late k hk j (by simp [hj])
  · rcases List.mem_cons.1 hk with rfl | hk
    · simp
    · simp [h.sub k hk]
  · rcases List.mem_cons.1 hk with rfl | hk
    · simp
    · simp [h.eff k hk hf]
  · rcases List.mem_cons.1 hk with rfl | hk
    · simp [hr j hj]
    · simp [h.cl k hk j hj]
  · have := (h.pa.upd (v := v) hn).put hx h.lt h2 hn
    rw [hjj] at this
    exact this
  · have := (h.pD.upd (v := v) hnD).put hx h.ltD h2 hnD
    rw [hjj] at this
    exact this
  · rcases List.mem_cons.1 hj with rfl | hj
    · exact absurd (by simp) hjD
    · have hjD' : j ∉ D := fun hh => hjD (by simp [hh])
      obtain ⟨S, aj, g1, g2, g3, g4, g5⟩ := h.pend j hj hjD'
      refine ⟨S, aj, g1.upd (fun hh => hn (g4 i hh)), g2, g3, fun k hk => by simp [g4 k hk], ?_⟩
      rw [hup hj]
      exact g5.imp (fun g => ⟨g.1, g.2.1, hk j hj hjD' aj g.2.1 g.2.2⟩) id
end
end
end Go.Sm
/- Regions that draw their order: soundness. -/
set_option linter.unusedVariables false
set_option linter.unusedSimpArgs false
namespace Go.Sm
open Go

mutual
theorem vbeq_eq : ∀ {a b : Value}, vbeq a b = true → a = b
  | .bool a, b, h => by cases b <;> simp_all [vbeq]
  | .int k a, b, h => by cases b <;> simp_all [vbeq]
  | .float k a, b, h => by cases b <;> simp_all [vbeq]
  | .complex k a c, b, h => by cases b <;> simp_all [vbeq]
  | .string ⟨⟨a⟩⟩, b, h => by
    cases b with
    | string c =>
      obtain ⟨⟨c⟩⟩ := c
      simp only [vbeq, beq_iff_eq] at h
      rw [h]
    | _ => simp [vbeq] at h
  | .pointer a, b, h => by cases b <;> simp_all [vbeq]
  | .slice a n c, b, h => by cases b <;> simp_all [vbeq]
  | .map a, b, h => by cases b <;> simp_all [vbeq]
  | .chan a, b, h => by cases b <;> simp_all [vbeq]
  | .func f ⟨x⟩ ⟨y⟩, b, h => by
    cases b with
    | func g z u =>
      obtain ⟨z⟩ := z
      obtain ⟨u⟩ := u
      simp only [vbeq, Bool.and_eq_true, decide_eq_true_eq] at h
      rw [h.1.1, vbeqL_eq h.1.2, vbeqL_eq h.2]
    | _ => simp [vbeq] at h
  | .nilFunc, b, h => by cases b <;> simp_all [vbeq]
  | .iface t v, b, h => by
    cases b with
    | iface u w =>
      simp only [vbeq, Bool.and_eq_true, beq_iff_eq] at h
      rw [h.1, vbeq_eq h.2]
    | _ => simp [vbeq] at h
  | .nilIface, b, h => by cases b <;> simp_all [vbeq]
  | .agg ⟨x⟩, b, h => by
    cases b with
    | agg z =>
      obtain ⟨z⟩ := z
      simp only [vbeq] at h
      rw [vbeqL_eq h]
    | _ => simp [vbeq] at h
  | .tuple ⟨x⟩, b, h => by
    cases b with
    | tuple z =>
      obtain ⟨z⟩ := z
      simp only [vbeq] at h
      rw [vbeqL_eq h]
    | _ => simp [vbeq] at h
theorem vbeqL_eq : ∀ {a b : List Value}, vbeqL a b = true → a = b
  | [], b, h => by cases b <;> simp_all [vbeqL]
  | x :: l, b, h => by
    cases b with
    | nil => simp [vbeqL] at h
    | cons y m =>
      simp only [vbeqL, Bool.and_eq_true] at h
      rw [vbeq_eq h.1, vbeqL_eq h.2]
end

section
variable {E : Env} {ops : Array Oper} {b : Array Nat} {a0 : CAct} {D : List Nat} {aD : CAct} {σ : CSt} {Q : Out → CSt → Prop}

theorem recheck_keep {rs : List Rec} {e : Nat} {σ' : CSt} {dn rest : List Nat} {vals : Nat → Value} {a : CAct} (h : recheck E.P ops b σ' e rs = true) (hI : Inv E.P ops b a0 dn rest D vals a aD σ rs) (hr : ∀ j, befBits b e j = true → j ∈ D) :
    ∀ j ∈ dn, j ∉ D → ∀ aj, (⟨j, aj, vals j⟩ : Rec) ∈ rs → cop E.P σ aj.eval (opAt ops j) = .val (vals j) σ → cop E.P σ' aj.eval (opAt ops j) = .val (vals j) σ' := by
  intro j hj hjD aj hm hc
  have hne : isEff E.P (opAt ops j) = false := by
    cases hh : isEff E.P (opAt ops j)
    · rfl
    · exact absurd (hI.eff j hj hh) hjD
  simp only [recheck, List.all_eq_true, Bool.or_eq_true, Bool.not_eq_true'] at h
  rcases h _ hm with (h1 | h1) | h1
  · exact absurd (hr j h1) hjD
  · exact cop_move hne h1 hc
  · split at h1
    · rename_i v s hv
      have := cop_quiet hne hv
      rw [this, vbeq_eq h1] at hv
      exact hv
    · cases h1

/-- The plan read ahead up to an operation. -/
theorem adv {x : Ctx} (hx : Fix ops b) : ∀ (rest dn : List Nat) (vals : Nat → Value) (a : CAct) (rs : List Rec), Inv E.P ops b a0 dn rest D vals a aD σ rs → dgo latP E (SimT E.P) ops b a0 Q rest a σ rs →
    ∀ i ∈ rest, (∀ j, befBits b i j = true → j ∈ D) → (isEff E.P (opAt ops i) = true → ∃ t, effO E.P ops rest = i :: t) →
      (isEff E.P (opAt ops i) = false → ∃ dn' rest' vals' a' rs', Inv E.P ops b a0 dn' rest' D vals' a' aD σ rs' ∧ dgo latP E (SimT E.P) ops b a0 Q rest' a' σ rs' ∧ i ∈ dn' ∧ effO E.P ops rest' = effO E.P ops rest) ∧
      (isEff E.P (opAt ops i) = true → ∃ dn' rest' vals' a' rs', Inv E.P ops b a0 dn' (i :: rest') D vals' a' aD σ rs' ∧ dgo latP E (SimT E.P) ops b a0 Q (i :: rest') a' σ rs' ∧ effO E.P ops (i :: rest') = effO E.P ops rest)
  | [], dn, vals, a, rs, hI, hd, i, hi, hr, hs => by cases hi
  | j :: rest, dn, vals, a, rs, hI, hd, i, hi, hr, hs => by
    by_cases he : isEff E.P (opAt ops j) = true
    · by_cases hij : j = i
      · subst hij
        exact ⟨fun h => absurd (he.symm.trans h) (by simp), fun _ => ⟨dn, rest, vals, a, rs, hI, hd, rfl⟩⟩
      · exfalso
        have hi' : i ∈ rest := by
          rcases List.mem_cons.1 hi with h | h
          · exact absurd h.symm hij
          · exact h
        have h4 := (planStep_cons hI.step).2.2.2
        by_cases hei : isEff E.P (opAt ops i) = true
        · obtain ⟨t, ht⟩ := hs hei
          rw [effO, List.filter_cons, if_pos he] at ht
          exact hij (List.cons.inj ht).1
        · obtain ⟨e', g1, g2⟩ := planStep_eff (e := j) h4 (by simp [he]) i hi' (by simpa using hei)
          have g3 := hI.sub e' (hr e' g2)
          rcases g1 with rfl | g1
          · exact hI.nin g3
          · exact hI.apart e' g3 (by simp [g1])
    · have he' : isEff E.P (opAt ops j) = false := by simpa using he
      have hfe : effO E.P ops (j :: rest) = effO E.P ops rest := by rw [effO, List.filter_cons, if_neg (by simp [he'])]; rfl
      -- one on
      have one : ∃ vals' a' rs', Inv E.P ops b a0 (j :: dn) rest D vals' a' aD σ rs' ∧ dgo latP E (SimT E.P) ops b a0 Q rest a' σ rs' := by
        unfold dgo at hd
        simp only at hd
        cases hw : wantedC ops a (opAt ops j) with
        | none => rw [hw] at hd; exact hd.elim
        | some wb =>
          rw [hw] at hd
          cases wb with
          | true =>
            simp only [he', Bool.false_eq_true, if_false] at hd
            split at hd
            · rename_i v s hv
              have hs := cop_quiet he' hv
              rw [hs] at hv
              exact ⟨_, _, _, hI.ahead hx he' (fun r hr => by simp [hr]) (.inl ⟨hw, by simp, hv⟩), hd⟩
            · exact hd.elim
          | false => exact ⟨_, _, _, hI.ahead hx he' (fun r hr => hr) (.inr ⟨hw, rfl⟩), hd⟩
      obtain ⟨vals', a', rs', hI', hd'⟩ := one
      by_cases hij : j = i
      · subst hij
        exact ⟨fun _ => ⟨_, _, _, _, _, hI', hd', by simp, hfe.symm⟩, fun h => absurd (he'.symm.trans h) (by simp)⟩
      · have hi' : i ∈ rest := by
          rcases List.mem_cons.1 hi with h | h
          · exact absurd h.symm hij
          · exact h
        rw [hfe] at hs ⊢
        exact adv (x := x) hx rest (j :: dn) vals' a' rs' hI' hd' i hi' hr hs

theorem get_foldl_erase : ∀ (l : List Oper) (a : CAct) (t : Nat), (l.foldl (fun a o => a.put o.dst undef) a).get t = a.get t ∨ ((l.foldl (fun a o => a.put o.dst undef) a).get t = undef)
  | [], a, t => .inl rfl
  | o :: l, a, t => by
    rw [List.foldl_cons]
    rcases get_foldl_erase l (a.put o.dst undef) t with h | h
    · rw [h]
      cases hd : o.dst with
      | none => exact .inl rfl
      | some d =>
        rw [CAct.get_put]
        split
        · exact .inr rfl
        · exact .inl rfl
    · exact .inr h
theorem erase_dst : ∀ (l : List Oper) (a : CAct) (t : Nat) (o : Oper), o ∈ l → o.dst = some t → t < a.sz → (l.foldl (fun a o => a.put o.dst undef) a).get t = undef
  | [], a, t, o, ho, hd, hl => by cases ho
  | o' :: l, a, t, o, ho, hd, hl => by
    rw [List.foldl_cons]
    rcases List.mem_cons.1 ho with rfl | ho
    · rcases get_foldl_erase l (a.put o.dst undef) t with h | h
      · rw [h, hd, CAct.get_put, if_pos ⟨rfl, hl⟩]
      · exact h
    · exact erase_dst l _ t o ho hd (by rw [CAct.sz_put]; exact hl)
theorem erase_meta : ∀ (l : List Oper) (a : CAct), (l.foldl (fun a o => a.put o.dst undef) a).sz = a.sz ∧ (l.foldl (fun a o => a.put o.dst undef) a).df = a.df ∧ (l.foldl (fun a o => a.put o.dst undef) a).tk = a.tk
  | [], a => ⟨rfl, rfl, rfl⟩
  | o :: l, a => by
    obtain ⟨h1, h2, h3⟩ := erase_meta l (a.put o.dst undef)
    rw [List.foldl_cons]
    exact ⟨h1.trans (CAct.sz_put ..), h2.trans (CAct.df_put ..), h3.trans (CAct.tk_put ..)⟩
theorem eraseAll_less {vals : Nat → Value} (hD : Put ops vals D a0 aD) (hl : ∀ i ∈ D, i < ops.size) : Less (eraseAll ops a0) aD := by
  obtain ⟨h1, h2, h3⟩ := erase_meta ops.toList a0
  refine ⟨h1.trans hD.sz.symm, h2.trans hD.df.symm, h3.trans hD.tk.symm, fun t => ?_⟩
  by_cases hw : ∃ k ∈ D, (opAt ops k).dst = some t
  · obtain ⟨k, hk, hd⟩ := hw
    by_cases hs : t < a0.sz
    · right
      refine erase_dst ops.toList a0 t (opAt ops k) ?_ hd hs
      have := opAt_some (hl k hk)
      rw [Array.mem_toList_iff]
      exact Array.mem_of_getElem? this
    · have := hD.big t (Nat.le_of_not_lt hs)
      rw [this]
      exact get_foldl_erase ops.toList a0 t
  · have := hD.old t fun k hk he => hw ⟨k, hk, he⟩
    rw [this]
    exact get_foldl_erase ops.toList a0 t

theorem sim_drawn {x : Ctx} (G : Good E.P) (HE : ExtOk E) (hx : Fix ops b) : ∀ (s D : List Nat) (dn rest : List Nat) (vals : Nat → Value) (a aD : CAct) (σ : CSt) (rs : List Rec), OrdL ops b D s → effO E.P ops rest = effO E.P ops s → Inv E.P ops b a0 dn rest D vals a aD σ rs →
    dgo latP E (SimT E.P) ops b a0 Q rest a σ rs → SimC E.P x aD σ (fun k => .inRegion ops s :: k) (Lower Q)
  | [], D, dn, rest, vals, a, aD, σ, rs, ho, hfo, hI, hd => by
    have hnil : rest = [] := by
      cases rest with
      | nil => rfl
      | cons j rest =>
        have := (planStep_cons hI.step).2.1
        exact absurd (hI.sub j (ho j this)) hI.nin
    subst hnil
    refine .now (e := .normal) ⟨a, ⟨hI.pa.sz.trans hI.pD.sz.symm, hI.pa.df.trans hI.pD.df.symm, hI.pa.tk.trans hI.pD.tk.symm, fun t => .inl ?_⟩, by unfold dgo at hd; exact hd⟩ fun _ _ _ _ _ _ => .one st_region_end
    by_cases hs : t < a0.sz
    · by_cases hw : ∃ k ∈ D, (opAt ops k).dst = some t
      · obtain ⟨k, hk, hkd⟩ := hw
        rw [hI.pa.new k (hI.sub k hk) t hkd hs, hI.pD.new k hk t hkd hs]
      · rw [hI.pa.old t fun k hk he => hw ⟨k, ho k (hI.lt k hk), he⟩, hI.pD.old t fun k hk he => hw ⟨k, hk, he⟩]
    · rw [hI.pa.big t (Nat.le_of_not_lt hs), hI.pD.big t (Nat.le_of_not_lt hs)]
  | i :: s, D, dn, rest, vals, a, aD, σ, rs, ho, hfo, hI, hd => by
    obtain ⟨hlt, hiD, hr, ho'⟩ := ho
    have hoi := opAt_some hlt
    refine sim_ops G HE ?_
    simp only [F, hoi]
    by_cases he : isEff E.P (opAt ops i) = true
    · have hin : i ∈ rest := by
        rcases hI.cov i hlt with h | h
        · exact absurd (hI.eff i h he) hiD
        · exact h
      have hfi : effO E.P ops (i :: s) = i :: effO E.P ops s := by rw [effO, List.filter_cons, if_pos he]; rfl
      obtain ⟨dn, rest, vals, a, rs, hI, hd, hfo2⟩ := (adv (x := x) hx rest dn vals a rs hI hd i hin hr fun _ => ⟨_, hfo.trans hfi⟩).2 he
      have hfo' : effO E.P ops rest = effO E.P ops s := by
        have h1 : effO E.P ops (i :: rest) = i :: effO E.P ops rest := by rw [effO, List.filter_cons, if_pos he]; rfl
        rw [hfo, hfi, h1] at hfo2
        exact (List.cons.inj hfo2).2
      have hn := hI.nin
      obtain ⟨g1, g2, g3, g4⟩ := planStep_cons hI.step
      have hsame := hI.pa.same hx hI.pD hlt hiD hI.lt hI.ltD hr hI.cl (fun k hk hki hb => by
        rcases hI.cov k hk with h | h
        · exact h
        · rcases List.mem_cons.1 h with rfl | h
          · exact absurd rfl hki
          · rw [g3 k h] at hb; cases hb) (fun k hk => ⟨hI.late k hk i (by simp), by rintro rfl; exact hn hk⟩)
      have hwe := wanted_same (hI.pa.sz.trans hI.pD.sz.symm) hsame
      have hce : ∀ σ, cop E.P σ a.eval (opAt ops i) = cop E.P σ aD.eval (opAt ops i) := fun σ => cop_congr (eval_same hsame)
      unfold dgo at hd
      simp only [hwe, he, if_true, hce] at hd
      cases hw : wantedC ops aD (opAt ops i) with
      | none => rw [hw] at hd; exact hd.elim
      | some wb =>
        rw [hw] at hd
        cases wb with
        | false => exact sim_drawn G HE hx s (i :: D) _ _ _ _ _ _ _ ho' hfo' (hI.both hx hr fun j hj hjD aj hm hc => hc) hd
        | true =>
          simp only at hd
          simp only
          cases hc : cop E.P σ aD.eval (opAt ops i) with
          | val v σ' =>
            rw [hc] at hd
            simp only at hd
            split at hd
            · rename_i hre
              exact sim_drawn G HE hx s (i :: D) _ _ _ _ _ _ _ ho' hfo' (hI.both hx hr (recheck_keep hre hI hr)) hd
            · exact hd.elim
          | call fv args =>
            rw [hc] at hd
            simp only at hd
            cases hext : extOf E fv args σ with
            | some v => rw [hext] at hd; exact hd.elim
            | none =>
            rw [hext] at hd
            simp only at hd
            simp only [hext]
            refine callv_mono (fun out σ' hq => ?_) hd
            cases out with
            | ret v tk =>
              simp only at hq ⊢
              split at hq
              · rename_i hre
                exact sim_drawn G HE hx s (i :: D) _ _ _ _ _ _ _ ho' hfo' (hI.both hx hr (recheck_keep hre hI hr)) hq
              · exact hq.elim
            | pan v => exact ⟨eraseAll ops a0, eraseAll_less hI.pD hI.ltD, hq⟩
            | code e a => exact hq.elim
          | _ => rw [hc] at hd; exact hd.elim
    · have he' : isEff E.P (opAt ops i) = false := by simpa using he
      have hfi : effO E.P ops (i :: s) = effO E.P ops s := by rw [effO, List.filter_cons, if_neg (by simp [he'])]; rfl
      have hmem : ∃ dn rest vals a rs, Inv E.P ops b a0 dn rest D vals a aD σ rs ∧ dgo latP E (SimT E.P) ops b a0 Q rest a σ rs ∧ i ∈ dn ∧ effO E.P ops rest = effO E.P ops s := by
        rcases hI.cov i hlt with h | h
        · exact ⟨dn, rest, vals, a, rs, hI, hd, h, hfo.trans hfi⟩
        · obtain ⟨dn, rest, vals, a, rs, h1, h2, h3, h4⟩ := (adv (x := x) hx rest dn vals a rs hI hd i h hr (fun hh => absurd (he'.symm.trans hh) (by simp))).1 he'
          exact ⟨dn, rest, vals, a, rs, h1, h2, h3, h4.trans (hfo.trans hfi)⟩
      obtain ⟨dn, rest, vals, a, rs, hI, hd, hin, hfo'⟩ := hmem
      obtain ⟨S, aj, p1, p2, p3, p4, p5⟩ := hI.pend i hin hiD
      have hsame := p1.same hx hI.pD hlt hiD (fun k hk => hI.lt k (p4 k hk)) hI.ltD hr hI.cl p2 p3
      have hwe := wanted_same (p1.sz.trans hI.pD.sz.symm) hsame
      have hce : cop E.P σ aj.eval (opAt ops i) = cop E.P σ aD.eval (opAt ops i) := cop_congr (eval_same hsame)
      have next := sim_drawn (x := x) G HE hx s (i :: D) _ _ _ _ _ _ _ ho' hfo' (hI.turn hx hin hiD hr) hd
      rcases p5 with ⟨q1, _, q3⟩ | ⟨q1, q2⟩
      · rw [hwe] at q1
        rw [hce] at q3
        simp only [q1, q3]
        exact next
      · rw [hwe] at q1
        simp only [q1]
        rw [q2] at next
        exact next
end
end Go.Sm
/- The rules are sound. -/
set_option linter.unusedVariables false
set_option linter.unusedSimpArgs false
namespace Go.Sm
open Go

section
variable {P : Program}

theorem Steps.skip {m m₁ m₂ m' : Machine} (h₁ : step P m = .next m₁) (h₂ : step P m₂ = .next m₁) (h : Steps P m m') (hn : m ≠ m') : Steps P m₂ m' := by
  obtain ⟨n, hn'⟩ := h
  cases n with
  | zero =>
    simp only [runN] at hn'
    cases hn'
    exact absurd rfl hn
  | succ n =>
    refine ⟨n + 1, ?_⟩
    simp only [runN, h₁] at hn'
    simp only [runN, h₂]
    exact hn'

theorem lone_inj {fr fr' : Frame} {cs cs' : List Frame} {w w' : World} (h : lone fr cs w = lone fr' cs' w') : fr = fr' := by
  simp only [lone] at h
  injection h with h1 h2 h3
  have := congrArg Array.toList h2
  simp at this
  exact this.1

theorem loop_swap {x : Ctx} {a : CAct} {σ : CSt} {c : Code} {Q : Out → CSt → Prop} (h : SimC P x a σ (fun k => .code (.loop c) :: k) Q) : SimC P x a σ (fun k => .inLoop c :: k) Q := by
  intro B ρ w ac b k cs hB hR hA hF ht
  obtain ⟨e, a₁, σ₁, ρ₁, w₁, ac₁, hq, hR₁, hA₁, hf₁, ht₁, harr⟩ := h B ρ w ac b k cs hB hR hA hF ht
  refine ⟨e, a₁, σ₁, ρ₁, w₁, ac₁, hq, hR₁, hA₁, hf₁, ht₁, ?_⟩
  have sw : ∀ {m'}, lone (atR b ac (.code (.loop c) :: k)) (csOf cs a.tk) w ≠ m' → Steps P (lone (atR b ac (.code (.loop c) :: k)) (csOf cs a.tk) w) m' → Steps P (lone (atR b ac (.inLoop c :: k)) (csOf cs a.tk) w) m' :=
    fun hn h => Steps.skip st_loop st_inLoop h hn
  cases e with
  | normal =>
    refine sw (fun he => ?_) harr
    have := congrArg (fun f : Frame => f.todo.length) (lone_inj he)
    simp [atR] at this
  | exit i =>
    obtain ⟨t, h1, h2⟩ := harr
    refine ⟨t, h1, sw (fun he => ?_) h2⟩
    have := congrArg (fun f : Frame => f.todo) (lone_inj he)
    simp [atR] at this
  | goto l =>
    obtain ⟨t, h1, h2⟩ := harr
    refine ⟨t, h1, sw (fun he => ?_) h2⟩
    have := congrArg (fun f : Frame => f.todo) (lone_inj he)
    simp [atR] at this
  | ret =>
    obtain ⟨t, h2⟩ := harr
    refine ⟨t, sw (fun he => ?_) h2⟩
    have := congrArg (fun f : Frame => f.todo) (lone_inj he)
    simp [atR] at this
  | panic v =>
    obtain ⟨t, v', h1, h2⟩ := harr
    refine ⟨t, v', h1, sw (fun he => ?_) h2⟩
    have := congrArg (fun f : Frame => f.mode) (lone_inj he)
    simp [atR, panicOf] at this

theorem AR.same {B : Nat} {ρ : Rho} {σ : CSt} {w w' : World} {a : CAct} {ac : Act} (h : AR B ρ σ w a ac) (s : Sw w w') (hR : R P ρ σ w) : AR B ρ σ w' a ac := h.frm (hR.same s).2

end

def GamOk (E : Env) : Prop := ∀ f g, E.gam f = some g → ∀ (args : Array Value) (σ : CSt) (v : Value) (σ' : CSt), g args σ = some (v, σ') → ∀ Q : Out → CSt → Prop, Q (.ret v false) σ' → SimFn E.P f args none σ Q

/-- One step of the rules is sound. -/
theorem sim_all {E : Env} (G : Good E.P) (HE : ExtOk E) (HG : GamOk E) (t : Task) (σ : CSt) (Q : Out → CSt → Prop) (h : F latP E (SimT E.P) t σ Q) : SimT E.P t σ Q := by
  cases t with
  | ops x ops todo a => exact sim_ops G HE h
  | fn f args dk => exact sim_fn HG h
  | unw x a m => exact sim_unw G h
  | round l args => exact sim_round G h
  | scope x body c a =>
    simp only [F] at h
    exact sim_scope h
  | code x c a =>
    cases c with
    | skip => exact sim_skip h
    | label l => exact sim_label h
    | region id ops draw =>
      cases draw with
      | false =>
        simp only [F] at h
        exact SimC.steps (todo₁ := fun k => .inRegion ops (List.range ops.size) :: k) h fun b ac k cs w => .one st_region
      | true =>
        have hpl : ∃ l, Fix ops (bef ops) ∧ (∀ i, i < ops.size → i ∈ l) ∧ planStepW E.P ops (bef ops) l [] = true ∧ (∀ i o, ops[i]? = some o → ∀ e ∈ o.after, Region.binds .any e = true → e.on < i) ∧ True := by
          simp only [F] at h
          split at h
          · rename_i hp
            obtain ⟨hfix, hall, hback, hst⟩ := planOk_fix hp
            exact ⟨_, hfix, hall, planStep_weak hst, hback, trivial⟩
          · split at h
            · rename_i hp
              have h1 := hp
              simp only [plansOk, Bool.and_eq_true, List.all_eq_true] at h1
              cases hps : plansOf E.P ops with
              | nil =>
                have h2 := h1.2
                rw [hps] at h2
                simp at h2
              | cons l ls =>
                obtain ⟨hfix, hall, hback, hst⟩ := planOkW_fix (h1.1.1 l (by rw [hps]; simp))
                exact ⟨_, hfix, hall, hst, hback, trivial⟩
            · exact h.elim
        obtain ⟨_, hfix, _, _, hback, _⟩ := hpl
        intro B ρ w ac b k cs hB hR hA hF ht
        have hsw : Sw w { w with drawn := w.drawn + 1 } := ⟨rfl, rfl, rfl, rfl⟩
        have hstep := st_region_draw (P := E.P) (b := b) (a := ac) (k := k) (cs := csOf cs a.tk) (w := w) (ops := ops) (id := id)
        rw [G.mixed] at hstep
        obtain ⟨hR', hf'⟩ := hR.same hsw
        have hord := schedule_ord hback (w.tape w.drawn (.order b.fn id))
        have hex : ∃ l, planStepW E.P ops (bef ops) l [] = true ∧ (∀ i, i < ops.size → i ∈ l) ∧ effO E.P ops l = effO E.P ops (Region.schedule true ops (w.tape w.drawn (.order b.fn id))) ∧ dgo latP E (SimT E.P) ops (bef ops) a Q l a σ [] := by
          simp only [F] at h
          split at h
          · rename_i hp
            obtain ⟨_, hall, _, hst⟩ := planOk_fix hp
            exact ⟨_, planStep_weak hst, hall, planOk_order hp hord, h⟩
          · split at h
            · rename_i hp
              obtain ⟨j, h1, h2, h3⟩ := plans_order hp hord
              obtain ⟨_, hall, _, hst⟩ := planOkW_fix h2
              refine ⟨_, hst, hall, h3, ?_⟩
              simp only [picks] at h
              by_cases hn : (plansOf E.P ops).length ≤ 1
              · rw [if_pos hn] at h
                have : j = 0 := by omega
                rw [this]; exact h
              · rw [if_neg hn] at h
                exact h j h1
            · exact h.elim
        obtain ⟨l, hst, hall, hfo, hd⟩ := hex
        have hinv : Inv E.P ops (bef ops) a [] l [] (fun _ => undef) a a σ [] :=
          ⟨hst, fun i hi => .inr (hall i hi), by simp, by simp, by simp, by simp, by simp, by simp, Put.start .., Put.start .., by simp⟩
        have := (sim_drawn (x := x) G HE hfix _ [] [] _ _ _ _ _ _ hord hfo hinv hd).lower
        obtain ⟨e, a₁, σ₁, ρ₁, w₁, ac₁, hq, hR₁, hA₁, hf₁, ht₁, harr⟩ := this B ρ { w with drawn := w.drawn + 1 } ac b k cs (Nat.le_trans hB hf'.size) hR' (hA.frm hf') hF ht
        exact ⟨e, a₁, σ₁, ρ₁, w₁, ac₁, hq, hR₁, hA₁, hf'.trans hf₁, ht₁, .of_steps (.one hstep) harr⟩
    | seq c d =>
      simp only [F] at h
      refine SimC.then (it := .code d) (todo₁ := fun k => .code c :: k) trivial ?_ fun b ac k cs w => .one st_seq
      exact h
    | cond c t e =>
      simp only [F] at h
      split at h
      · rename_i bb hb
        intro B ρ w ac b k cs hB hR hA hF ht
        have hv := hA.eval hR c
        rw [hb] at hv
        have hc : ac.eval c = .bool bb := by
          generalize ac.eval c = u at hv
          cases hv with
          | plain v hf => rfl
        obtain ⟨e, a₁, σ₁, ρ₁, w₁, ac₁, hq, hR₁, hA₁, hf₁, ht₁, harr⟩ := h B ρ w ac b k cs hB hR hA hF ht
        exact ⟨e, a₁, σ₁, ρ₁, w₁, ac₁, hq, hR₁, hA₁, hf₁, ht₁, .of_steps (.one (st_cond hc)) harr⟩
      · exact h.elim
    | block id c =>
      simp only [F] at h
      exact sim_block h
    | loop c =>
      simp only [F] at h
      refine SimC.then (it := .inLoop c) (todo₁ := fun k => .code c :: k) trivial ?_ fun b ac k cs w => .one st_loop
      simp only [SimT] at h
      refine SimC.mono (fun o σ hq => ?_) h
      split at hq
      · exact loop_swap hq
      · rename_i hn
        cases o with
        | code e a' =>
          cases e with
          | normal => exact absurd rfl (hn _)
          | _ => exact hq
        | _ => exact hq
    | rangeFunc f ps asg body => exact sim_range G h
    | exit i => exact .now h fun ρ b ac k cs w => ⟨k, rfl, .refl ..⟩
    | scope body =>
      simp only [F] at h
      exact SimC.steps (todo₁ := fun k => .code body :: .inScope body :: k) h fun b ac k cs w => .one st_scope
    | goto l => exact .now h fun ρ b ac k cs w => ⟨k, rfl, .refl ..⟩
    | ret => exact .now h fun ρ b ac k cs w => ⟨k, .refl ..⟩
    | refuse _ => exact h.elim

theorem W.sim {E : Env} (G : Good E.P) (HE : ExtOk E) (HG : GamOk E) {t : Task} {σ : CSt} {Q : Out → CSt → Prop} (h : W E t σ Q) : SimT E.P t σ Q := h (SimT E.P) (fun _ _ _ _ hq h => SimT.mono hq h) (sim_all G HE HG)
end Go.Sm
/- The rules rise; what is reckoned follows. -/
set_option linter.unusedVariables false
set_option linter.unusedSimpArgs false
namespace Go.Sm
open Go

section
variable {L : Type} {N : Lat L} {tr : L → Prop} {E : Env}

def Rel (tr : L → Prop) (X : Task → CSt → (Out → CSt → L) → L) (Y : Task → CSt → (Out → CSt → Prop) → Prop) : Prop :=
  ∀ t σ Q Q', (∀ o s, tr (Q o s) → Q' o s) → tr (X t σ Q) → Y t σ Q'

theorem callv_rel (hno : ¬ tr N.no) {X : Task → CSt → (Out → CSt → L) → L} {Y : Task → CSt → (Out → CSt → Prop) → Prop} (H : Rel tr X Y) {fv : Value} {args : Array Value} {dk : Option (Option Value)} {σ : CSt} {Q : Out → CSt → L} {Q' : Out → CSt → Prop}
    (hq : ∀ o s, tr (Q o s) → Q' o s) (h : tr (callv N X fv args dk σ Q)) : callv latP Y fv args dk σ Q' := by
  unfold callv at h ⊢
  split at h
  · exact H _ _ _ _ hq h
  · split at h
    · exact absurd h hno
    · rename_i hd; rw [if_neg hd]; exact H _ _ _ _ hq h
  · exact absurd h hno

theorem dgo_rel (hno : ¬ tr N.no) {X : Task → CSt → (Out → CSt → L) → L} {Y : Task → CSt → (Out → CSt → Prop) → Prop} (H : Rel tr X Y) {ops : Array Oper} {b : Array Nat} {a0 : CAct} {Q : Out → CSt → L} {Q' : Out → CSt → Prop}
    (hq : ∀ o s, tr (Q o s) → Q' o s) : ∀ (l : List Nat) (a : CAct) (σ : CSt) (rs : List Rec), tr (dgo N E X ops b a0 Q l a σ rs) → dgo latP E Y ops b a0 Q' l a σ rs
  | [], a, σ, rs, h => hq _ _ h
  | i :: rest, a, σ, rs, h => by
    unfold dgo at h ⊢
    simp only at h ⊢
    cases hw : wantedC ops a (opAt ops i) with
    | none => rw [hw] at h; exact absurd h hno
    | some wb =>
      rw [hw] at h
      cases wb with
      | false => exact dgo_rel hno H hq rest _ _ _ h
      | true =>
        simp only at h ⊢
        by_cases he : isEff E.P (opAt ops i) = true
        · rw [if_pos he] at h ⊢
          cases hc : cop E.P σ a.eval (opAt ops i) with
          | val v σ' =>
            rw [hc] at h
            simp only at h ⊢
            split at h
            · rename_i hr; rw [if_pos hr]; exact dgo_rel hno H hq rest _ _ _ h
            · exact absurd h hno
          | call fv args =>
            rw [hc] at h
            simp only at h ⊢
            cases hx : extOf E fv args σ with
            | some v => rw [hx] at h; exact absurd h hno
            | none =>
            rw [hx] at h
            simp only at h ⊢
            refine callv_rel hno H (fun o s ho => ?_) h
            cases o with
            | ret v tk =>
              simp only at ho ⊢
              split at ho
              · rename_i hr; rw [if_pos hr]; exact dgo_rel hno H hq rest _ _ _ ho
              · exact absurd ho hno
            | pan v => exact hq _ _ ho
            | code e a => exact absurd ho hno
          | _ => rw [hc] at h; exact absurd h hno
        · rw [if_neg he] at h ⊢
          cases hc : cop E.P σ a.eval (opAt ops i) with
          | val v σ' => rw [hc] at h; exact dgo_rel hno H hq rest _ _ _ h
          | _ => rw [hc] at h; exact absurd h hno

theorem picks_rel (hall : ∀ n k, tr (N.all n k) → ∀ i, i < n → tr (k i)) {n : Nat} {k : Nat → L} {k' : Nat → Prop} (hk : ∀ i, tr (k i) → k' i) (h : tr (picks N n k)) : picks latP n k' := by
  unfold picks at h ⊢
  by_cases hn : n ≤ 1
  · rw [if_pos hn] at h ⊢; exact hk _ h
  · rw [if_neg hn] at h ⊢; exact fun i hi => hk i (hall _ _ h i hi)

/-- What the rules say in the one order they say in the other. -/
theorem F_rel (hno : ¬ tr N.no) (hall : ∀ n k, tr (N.all n k) → ∀ i, i < n → tr (k i)) (hev : ∀ p k, tr (N.every p k) → ∀ i, p i = true → tr (k i)) {X : Task → CSt → (Out → CSt → L) → L} {Y : Task → CSt → (Out → CSt → Prop) → Prop} (H : Rel tr X Y) : Rel tr (F N E X) (F latP E Y) := by
  intro t σ Q Q' hq h
  cases t with
  | code x c a =>
    cases c with
    | skip => exact hq _ _ h
    | label l => exact hq _ _ h
    | region id ops draw =>
      cases draw with
      | false => exact H _ _ _ _ hq h
      | true =>
        simp only [F] at h ⊢
        split at h
        · rename_i hp; rw [if_pos hp]; exact dgo_rel hno H hq _ _ _ _ h
        · rename_i hp
          rw [if_neg hp]
          split at h
          · rename_i hp2
            rw [if_pos hp2]
            exact picks_rel hall (fun i hi => dgo_rel hno H hq _ _ _ _ hi) h
          · exact absurd h hno
    | seq c d =>
      refine H _ _ _ _ (fun o s ho => ?_) h
      split at ho
      · exact H _ _ _ _ hq ho
      · rename_i hn
        cases o with
        | code e a' => cases e with
          | normal => exact absurd rfl (hn _)
          | _ => exact hq _ _ ho
        | _ => exact hq _ _ ho
    | cond c t e =>
      simp only [F] at h ⊢
      cases hc : a.eval c with
      | bool b => rw [hc] at h; exact H _ _ _ _ hq h
      | _ => rw [hc] at h; exact absurd h hno
    | block id c =>
      refine H _ _ _ _ (fun o s ho => ?_) h
      cases o with
      | code e a' => cases e with
        | exit i =>
          simp only at ho ⊢
          by_cases hi : i = id
          · rw [if_pos hi] at ho ⊢; exact hq _ _ ho
          · rw [if_neg hi] at ho ⊢; exact hq _ _ ho
        | _ => exact hq _ _ ho
      | _ => exact hq _ _ ho
    | loop c =>
      refine H _ _ _ _ (fun o s ho => ?_) h
      split at ho
      · exact H _ _ _ _ hq ho
      · rename_i hn
        cases o with
        | code e a' => cases e with
          | normal => exact absurd rfl (hn _)
          | _ => exact hq _ _ ho
        | _ => exact hq _ _ ho
    | rangeFunc f ps asg body =>
      simp only [F] at h ⊢
      by_cases ha : aroundOk σ x.rnd = true
      · simp only [ha, Bool.not_true, Bool.false_eq_true, if_false] at h ⊢
        refine callv_rel hno H (fun o s ho => ?_) h
        cases o with
        | ret v tk =>
          simp only at ho ⊢
          split at ho
          · rename_i st pend fn tm sz ps asg body hg
            split at ho
            · exact absurd ho hno
            · rename_i hb
              rw [if_neg hb]
              cases pend with
              | none => exact hq _ _ ho
              | some c => exact H _ _ _ _ hq ho
          · exact absurd ho hno
        | pan v => exact hq _ _ ho
        | code e a => exact absurd ho hno
      · simp only [ha, Bool.not_false, if_true] at h
        exact absurd h hno
    | exit i => exact hq _ _ h
    | scope body => exact H _ _ _ _ hq h
    | goto l => exact hq _ _ h
    | ret => exact hq _ _ h
    | refuse _ => exact absurd h hno
  | scope x body c a =>
    refine H _ _ _ _ (fun o s ho => ?_) h
    cases o with
    | code e a' => cases e with
      | goto l =>
        simp only at ho ⊢
        cases hf : findLabel body l with
        | none => rw [hf] at ho; exact hq _ _ ho
        | some rest => rw [hf] at ho; exact H _ _ _ _ hq ho
      | _ => exact hq _ _ ho
    | _ => exact hq _ _ ho
  | ops x ops todo a =>
    cases todo with
    | nil => exact hq _ _ h
    | cons i rest =>
      simp only [F] at h ⊢
      cases ho : ops[i]? with
      | none => rw [ho] at h; exact H _ _ _ _ hq h
      | some o =>
        rw [ho] at h
        simp only at h ⊢
        cases hw : wantedC ops a o with
        | none => rw [hw] at h; exact absurd h hno
        | some wb =>
          rw [hw] at h
          cases wb with
          | false => exact H _ _ _ _ hq h
          | true =>
            simp only at h ⊢
            cases hc : cop E.P σ a.eval o with
            | val v σ' => rw [hc] at h; exact H _ _ _ _ hq h
            | pick n k => rw [hc] at h; exact picks_rel hall (fun i hi => H _ _ _ _ hq hi) h
            | every p k => rw [hc] at h; exact fun i hi => H _ _ _ _ hq (hev _ _ h i hi)
            | call fv args =>
              rw [hc] at h
              simp only at h ⊢
              cases hx : extOf E fv args σ with
              | some v => rw [hx] at h; exact H _ _ _ _ hq h
              | none =>
              rw [hx] at h
              simp only at h ⊢
              refine callv_rel hno H (fun o s ho => ?_) h
              cases o with
              | ret v tk => exact H _ _ _ _ hq ho
              | pan v => exact hq _ _ ho
              | code e a => exact absurd ho hno
            | panic v => rw [hc] at h; exact hq _ _ h
            | defer d =>
              rw [hc] at h
              simp only at h ⊢
              split at h
              · exact absurd h hno
              · rename_i hr; rw [if_neg hr]; exact H _ _ _ _ hq h
            | recover =>
              rw [hc] at h
              simp only at h ⊢
              split at h
              · exact absurd h hno
              · rename_i hr
                rw [if_neg hr]
                split at h
                · exact H _ _ _ _ hq h
                · exact H _ _ _ _ hq h
            | fail => rw [hc] at h; exact absurd h hno
  | fn f args dk =>
    simp only [F] at h ⊢
    split at h
    · exact fun i hi => H _ _ _ _ hq (hev _ _ h i hi)
    split at h
    · split at h
      · exact hq _ _ h
      · exact absurd h hno
    · split at h
      · split at h
        · refine H _ _ _ _ (fun o s ho => ?_) h
          cases o with
          | code e a => cases e with
            | normal => exact H _ _ _ _ hq ho
            | ret => exact H _ _ _ _ hq ho
            | panic v => exact H _ _ _ _ hq ho
            | _ => exact absurd ho hno
          | _ => exact absurd ho hno
        · exact absurd h hno
      · exact absurd h hno
  | unw x a m =>
    simp only [F] at h ⊢
    cases hd : a.df with
    | nil =>
      rw [hd] at h
      simp only at h ⊢
      cases m with
      | none =>
        simp only at h ⊢
        split at h
        · split at h
          · exact hq _ _ h
          · exact absurd h hno
        · exact absurd h hno
      | some v =>
        simp only at h ⊢
        split at h
        · exact absurd h hno
        · rename_i hx
          rw [if_neg hx]
          split at h
          · exact hq _ _ h
          · exact absurd h hno
    | cons d ds =>
      rw [hd] at h
      refine callv_rel hno H (fun o s ho => ?_) h
      cases o with
      | ret v tk => exact H _ _ _ _ hq ho
      | _ => exact absurd ho hno
  | round l args =>
    simp only [F] at h ⊢
    cases hg : σ.get l with
    | none => rw [hg] at h; exact absurd h hno
    | some ob =>
      rw [hg] at h
      cases ob with
      | loop st pend fn tm sz ps asg body =>
        simp only at h ⊢
        by_cases hs : args.size = ps.size
        · rw [if_pos hs] at h ⊢
          refine H _ _ _ _ (fun o s ho => ?_) h
          cases o with
          | code e a1 => cases e with
            | normal =>
              simp only at ho ⊢
              split at ho
              · rename_i hg'
                refine H _ _ _ _ (fun o s ho => ?_) ho
                cases o with
                | code e a2 =>
                  simp only at ho ⊢
                  cases hj : jumpOf e with
                  | some j =>
                    rw [hj] at ho
                    simp only at ho ⊢
                    split at ho
                    · exact hq _ _ ho
                    · exact absurd ho hno
                  | none =>
                    rw [hj] at ho
                    simp only at ho ⊢
                    cases e with
                    | panic v =>
                      simp only at ho ⊢
                      split at ho
                      · rename_i hdf
                        rw [if_pos hdf]
                        split at ho
                        · exact hq _ _ ho
                        · exact absurd ho hno
                      · exact absurd ho hno
                    | _ => exact absurd ho hno
                | _ => exact absurd ho hno
              · exact absurd ho hno
            | _ => exact absurd ho hno
          | _ => exact absurd ho hno
        · rw [if_neg hs] at h; exact absurd h hno
      | _ => exact absurd h hno
end

theorem F_mono {E : Env} {X Y : Task → CSt → (Out → CSt → Prop) → Prop} (hY : QMono Y) (hXY : ∀ t σ Q, X t σ Q → Y t σ Q) {t : Task} {σ : CSt} {Q : Out → CSt → Prop} (h : F latP E X t σ Q) : F latP E Y t σ Q :=
  F_rel (tr := id) (N := latP) (fun h => h) (fun n k h i hi => h i hi) (fun p k h i hi => h i hi) (fun t σ Q Q' hq h => hY t σ Q Q' hq (hXY t σ Q h)) t σ Q Q (fun o s h => h) h

theorem W.mono {E : Env} : QMono (W E) := fun t σ Q Q' hq h X hX hc => hX t σ Q Q' hq (h X hX hc)
theorem W.weaken {E : Env} {t : Task} {σ : CSt} {Q Q' : Out → CSt → Prop} (h : W E t σ Q) (hq : ∀ o s, Q o s → Q' o s) : W E t σ Q' := W.mono t σ Q Q' hq h
theorem W.fold {E : Env} {t : Task} {σ : CSt} {Q : Out → CSt → Prop} (h : F latP E (W E) t σ Q) : W E t σ Q := fun X hX hc => hc t σ Q (F_mono hX (fun t σ Q h => h X hX hc) h)

theorem runB_W {E : Env} : ∀ (n : Nat) {t : Task} {σ : CSt} {q : Out → CSt → Bool}, runB E n t σ q = true → W E t σ fun o s => q o s = true
  | 0, t, σ, q, h => by simp [runB] at h
  | n + 1, t, σ, q, h => by
    have H : Rel (fun b : Bool => b = true) (runB E n) (W E) := fun t σ Q Q' hq h => (runB_W n h).weaken hq
    have := F_rel (tr := fun b : Bool => b = true) (N := latB) (E := E) (by simp [latB]) (fun n k h i hi => by
      simp only [latB, List.all_eq_true, List.mem_range] at h
      exact h i hi) (fun p k h => by simp [latB] at h) H t σ q (fun o s => q o s = true) (fun o s h => h) (by unfold runB at h; exact h)
    exact W.fold this
end Go.Sm
/- What was reckoned in the least state holds in every one; from the rules to the machine. -/
set_option linter.unusedVariables false
set_option linter.unusedSimpArgs false
namespace Go.Sm
open Go

/-- Every entry of the one state is the other's. -/
def Ext (σ₀ σ : CSt) : Prop := ∀ i o, σ₀.get i = some o → σ.get i = some o
/-- Package-level variables alone, that are never written, without addresses. -/
structure Base (σ₀ : CSt) : Prop where
  n : σ₀.n = globalLimit
  ro : ∀ i o, σ₀.get i = some o → i < globalLimit ∧ ∃ c e, o = .cells c e true ∧ ∀ v ∈ c, flat0 v = true

theorem R.grow {P : Program} {ρ : Rho} {σ : CSt} {w w' : World} (h : R P ρ σ w) (hs : w.heap.size ≤ w'.heap.size) (hk : ∀ k, k < w.heap.size → w'.heap[k]? = w.heap[k]?) : R P ρ σ w' := by
  refine ⟨h.dom, h.tot, fun i p a b => Nat.lt_of_lt_of_le (h.lt i p a b) hs, fun i o p a b => ?_, h.inj, h.glob, h.gn⟩
  by_cases hd : o = .dead
  · subst hd
    exact h.obj i _ p a b
  · exact (h.obj i o p a b).congr (hk _ (h.lt i p b ⟨o, a, hd⟩))

theorem Base.rel {P : Program} {σ₀ σ : CSt} (hb : Base σ₀) (hx : Ext σ₀ σ) {ρ : Rho} {w : World} (h : R P ρ σ w) : R P (fun i => if i < globalLimit then ρ i else none) σ₀ w := by
  have hnd : ∀ i o, σ₀.get i = some o → o ≠ .dead ∧ o.isRo = true ∧ i < globalLimit := fun i o ho => by
    obtain ⟨h1, c, e, rfl, _⟩ := hb.ro i o ho
    exact ⟨by simp, rfl, h1⟩
  refine ⟨fun i hi => ?_, fun i hl => ?_, fun i p hp hl => ?_, fun i o p ho hp => ?_, fun i j p q hn hp hq hr => ?_, fun g hg => ?_, by rw [hb.n]; exact Nat.le_refl _⟩
  · rw [hb.n] at hi
    exact if_neg (by omega)
  · obtain ⟨o, ho, _⟩ := hl
    have := hnd i o ho
    rw [if_pos this.2.2]
    exact h.tot i ⟨o, hx i o ho, this.1⟩
  · obtain ⟨o, ho, _⟩ := hl
    have := hnd i o ho
    rw [if_pos this.2.2] at hp
    exact h.lt i p hp ⟨o, hx i o ho, this.1⟩
  · have hh := hnd i o ho
    rw [if_pos hh.2.2] at hp
    obtain ⟨_, c, e, rfl, hc⟩ := hb.ro i o ho
    obtain ⟨g1, g2⟩ := h.obj i _ p (hx i _ ho) hp
    refine ⟨g1, fun k u => ?_⟩
    obtain ⟨v', g3, g4⟩ := g2 k u
    have hf := hc _ (List.getElem_mem u)
    have := g4.flat_eq hf
    subst this
    exact ⟨_, g3, .plain _ hf⟩
  · obtain ⟨o, ho, hr, _⟩ := hr
    rw [(hnd i o ho).2.1] at hr
    cases hr
  · obtain ⟨p, h1, h2⟩ := h.glob g hg
    exact ⟨p, by rw [if_pos hg]; exact h1, h2⟩

/-- A call that was followed in the least state, its arguments and its answer without addresses. -/
theorem base_fn {E : Env} (G : Good E.P) (HE : ExtOk E) (HG : GamOk E) {σ₀ : CSt} (hb : Base σ₀) {f : FuncId} {args : Array Value} {v : Value} (hW : W E (.fn f args none) σ₀ fun o _ => o = .ret v false) (ha : ∀ a ∈ args, flat0 a = true) (hv : flat0 v = true)
    {σ : CSt} (hx : Ext σ₀ σ) {Q : Out → CSt → Prop} (hq : Q (.ret v false) σ) : SimFn E.P f args none σ Q := by
  obtain ⟨hbody, hs⟩ := hW.sim G HE HG
  refine ⟨hbody, fun ρ w args' cs hR hA hd => ?_⟩
  have heq : args' = args := by
    apply Array.ext
    · exact hA.1.symm
    · intro i h1 h2
      have := hA.2 i h2 h1
      exact this.flat_eq (ha _ (Array.getElem_mem h2))
  subst heq
  have hA0 : AsR (fun i => if i < globalLimit then ρ i else none) args' args' := ⟨rfl, fun i u _ => .plain _ (ha _ (Array.getElem_mem u))⟩
  rcases hs _ w args' cs (hb.rel hx hR) hA0 hd with ⟨v1, tk, σ', ρ', w', v', fr, h1, h2, h3, h4, h5, h0, h6, h7, h8, h9, fn, h10, h11⟩ | ⟨v1, σ', ρ', w', v', fr, h1, h2⟩
  · cases h1
    have := h4.flat_eq hv
    subst this
    have hk : ∀ k, k < w.heap.size → w'.heap[k]? = w.heap[k]? := fun k hk => h3.keep k hk fun i p _ hr => by
      obtain ⟨o, ho, hro, _⟩ := hr
      obtain ⟨_, c, e, rfl, _⟩ := hb.ro i o ho
      cases hro
    exact .inl ⟨v', false, σ, ρ, w', v', fr, hq, hR.grow h3.size hk, ⟨ρ.le_refl, h3.os, h3.tape, h3.output, h3.size, fun k hkk _ => hk k hkk, fun i p a b => .inr ⟨i, p, a, b, rfl⟩⟩, .plain _ hv, h5, h0, h6, h7, h8, h9, fn, h10, h11⟩
  · cases h1

/-- From the rules to the machine: a call that returns. -/
theorem W.calls {E : Env} (G : Good E.P) (HE : ExtOk E) (HG : GamOk E) {f : FuncId} {args args' : Array Value} {σ : CSt} {Q : Value → CSt → Prop} (hW : W E (.fn f args none) σ fun o s => ∃ v, o = .ret v false ∧ Q v s) {ρ : Rho} {w : World} (hR : R E.P ρ σ w) (hA : AsR ρ args args') :
    Calls E.P f args' w fun e w' => ∃ v v' σ' ρ', e = .returned v' ∧ Q v σ' ∧ R E.P ρ' σ' w' ∧ VR ρ' v v' ∧ Frm ρ σ w ρ' σ' w' := by
  obtain ⟨_, hs⟩ := hW.sim G HE HG
  intro cs
  rcases hs ρ w args' cs hR hA rfl with ⟨v1, tk, σ', ρ', w', v', fr, h1, h2, h3, h4, h5, h0, h6, h7, h8, h9, fn, h10, h11⟩ | ⟨v1, σ', ρ', w', v', fr, h1, h2⟩
  · obtain ⟨v, h1, hq⟩ := h1
    cases h1
    exact ⟨.returned v', w', fr, ⟨_, v', σ', ρ', rfl, hq, h2, h4, h3.toFrm⟩, h5, h6, h8, h9, h7, fn, by rw [h6]; exact h10, h11⟩
  · obtain ⟨v, h1, _⟩ := h1
    cases h1
end Go.Sm
/- The rules as equations, to be run by 'simp'. -/
set_option linter.unusedVariables false
set_option linter.unusedSimpArgs false
namespace Go.Sm
open Go

section
variable {E : Env}

theorem F_QMono : QMono (F latP E (W E)) := fun t σ Q Q' hq h =>
  F_rel (tr := id) (N := latP) (fun h => h) (fun n k h i hi => h i hi) (fun p k h i hi => h i hi) (fun t σ Q Q' hq h => W.mono t σ Q Q' hq h) t σ Q Q' hq h
theorem W_eq (t : Task) (σ : CSt) (Q : Out → CSt → Prop) : W E t σ Q = F latP E (W E) t σ Q :=
  propext ⟨fun h => h (F latP E (W E)) F_QMono fun t σ Q h => F_mono W.mono (fun t σ Q h => W.fold h) h, W.fold⟩

/-! ### What stands behind -/
def kseq (E : Env) (x : Ctx) (d : Code) (Q : Out → CSt → Prop) : Out → CSt → Prop := fun o σ => match o with | .code .normal a => W E (.code x d a) σ Q | o => Q o σ
def kloop (E : Env) (x : Ctx) (c : Code) (Q : Out → CSt → Prop) : Out → CSt → Prop := fun o σ => match o with | .code .normal a => W E (.code x (.loop c) a) σ Q | o => Q o σ
def kblock (id : Nat) (Q : Out → CSt → Prop) : Out → CSt → Prop := fun o σ => match o with | .code (.exit i) a => if i = id then Q (.code .normal a) σ else Q o σ | o => Q o σ
def kscope (E : Env) (x : Ctx) (body : Code) (Q : Out → CSt → Prop) : Out → CSt → Prop := fun o σ => match o with
  | .code (.goto l) a => match findLabel body l with | some rest => W E (.scope x body rest a) σ Q | none => Q o σ
  | o => Q o σ
def kfn (E : Env) (x : Ctx) (Q : Out → CSt → Prop) : Out → CSt → Prop := fun o σ => match o with
  | .code .normal a | .code .ret a => W E (.unw x a none) σ Q
  | .code (.panic v) a => W E (.unw x a (some v)) σ Q
  | _ => False
theorem W_skip {x : Ctx} {a : CAct} {σ : CSt} {Q : Out → CSt → Prop} : W E (.code x .skip a) σ Q = Q (.code .normal a) σ := by rw [W_eq]; rfl
theorem W_label {x : Ctx} {l : Nat} {a : CAct} {σ : CSt} {Q : Out → CSt → Prop} : W E (.code x (.label l) a) σ Q = Q (.code .normal a) σ := by rw [W_eq]; rfl
theorem W_exit {x : Ctx} {i : Nat} {a : CAct} {σ : CSt} {Q : Out → CSt → Prop} : W E (.code x (.exit i) a) σ Q = Q (.code (.exit i) a) σ := by rw [W_eq]; rfl
theorem W_goto {x : Ctx} {i : Nat} {a : CAct} {σ : CSt} {Q : Out → CSt → Prop} : W E (.code x (.goto i) a) σ Q = Q (.code (.goto i) a) σ := by rw [W_eq]; rfl
theorem W_ret {x : Ctx} {a : CAct} {σ : CSt} {Q : Out → CSt → Prop} : W E (.code x .ret a) σ Q = Q (.code .ret a) σ := by rw [W_eq]; rfl
theorem W_seq {x : Ctx} {c d : Code} {a : CAct} {σ : CSt} {Q : Out → CSt → Prop} : W E (.code x (.seq c d) a) σ Q = W E (.code x c a) σ (kseq E x d Q) := by rw [W_eq]; rfl
theorem W_block {x : Ctx} {id : Nat} {c : Code} {a : CAct} {σ : CSt} {Q : Out → CSt → Prop} : W E (.code x (.block id c) a) σ Q = W E (.code x c a) σ (kblock id Q) := by rw [W_eq]; rfl
theorem W_loop {x : Ctx} {c : Code} {a : CAct} {σ : CSt} {Q : Out → CSt → Prop} : W E (.code x (.loop c) a) σ Q = W E (.code x c a) σ (kloop E x c Q) := by rw [W_eq]; rfl
theorem W_scope {x : Ctx} {c : Code} {a : CAct} {σ : CSt} {Q : Out → CSt → Prop} : W E (.code x (.scope c) a) σ Q = W E (.scope x c c a) σ Q := by rw [W_eq]; rfl
theorem W_scoped {x : Ctx} {b c : Code} {a : CAct} {σ : CSt} {Q : Out → CSt → Prop} : W E (.scope x b c a) σ Q = W E (.code x c a) σ (kscope E x b Q) := by rw [W_eq]; rfl

theorem kseq_normal {x : Ctx} {d : Code} {a : CAct} {σ : CSt} {Q : Out → CSt → Prop} : kseq E x d Q (.code .normal a) σ = W E (.code x d a) σ Q := (rfl)
theorem kseq_exit {x : Ctx} {d : Code} {a : CAct} {σ : CSt} {Q : Out → CSt → Prop} {i : Nat} : kseq E x d Q (.code (.exit i) a) σ = Q (.code (.exit i) a) σ := (rfl)
theorem kseq_goto {x : Ctx} {d : Code} {a : CAct} {σ : CSt} {Q : Out → CSt → Prop} {i : Nat} : kseq E x d Q (.code (.goto i) a) σ = Q (.code (.goto i) a) σ := (rfl)
theorem kseq_ret {x : Ctx} {d : Code} {a : CAct} {σ : CSt} {Q : Out → CSt → Prop} : kseq E x d Q (.code .ret a) σ = Q (.code .ret a) σ := (rfl)
theorem kseq_panic {x : Ctx} {d : Code} {a : CAct} {σ : CSt} {Q : Out → CSt → Prop} {v : Value} : kseq E x d Q (.code (.panic v) a) σ = Q (.code (.panic v) a) σ := (rfl)
theorem kloop_normal {x : Ctx} {d : Code} {a : CAct} {σ : CSt} {Q : Out → CSt → Prop} : kloop E x d Q (.code .normal a) σ = W E (.code x (.loop d) a) σ Q := (rfl)
theorem kloop_exit {x : Ctx} {d : Code} {a : CAct} {σ : CSt} {Q : Out → CSt → Prop} {i : Nat} : kloop E x d Q (.code (.exit i) a) σ = Q (.code (.exit i) a) σ := (rfl)
theorem kloop_goto {x : Ctx} {d : Code} {a : CAct} {σ : CSt} {Q : Out → CSt → Prop} {i : Nat} : kloop E x d Q (.code (.goto i) a) σ = Q (.code (.goto i) a) σ := (rfl)
theorem kloop_ret {x : Ctx} {d : Code} {a : CAct} {σ : CSt} {Q : Out → CSt → Prop} : kloop E x d Q (.code .ret a) σ = Q (.code .ret a) σ := (rfl)
theorem kloop_panic {x : Ctx} {d : Code} {a : CAct} {σ : CSt} {Q : Out → CSt → Prop} {v : Value} : kloop E x d Q (.code (.panic v) a) σ = Q (.code (.panic v) a) σ := (rfl)
theorem kblock_normal {id : Nat} {a : CAct} {σ : CSt} {Q : Out → CSt → Prop} : kblock id Q (.code .normal a) σ = Q (.code .normal a) σ := (rfl)
theorem kblock_exit {id : Nat} {a : CAct} {σ : CSt} {Q : Out → CSt → Prop} : kblock id Q (.code (.exit id) a) σ = Q (.code .normal a) σ := by simp [kblock]
theorem kblock_goto {id i : Nat} {a : CAct} {σ : CSt} {Q : Out → CSt → Prop} : kblock id Q (.code (.goto i) a) σ = Q (.code (.goto i) a) σ := (rfl)
theorem kblock_ret {id : Nat} {a : CAct} {σ : CSt} {Q : Out → CSt → Prop} : kblock id Q (.code .ret a) σ = Q (.code .ret a) σ := (rfl)
theorem kblock_panic {id : Nat} {a : CAct} {σ : CSt} {Q : Out → CSt → Prop} {v : Value} : kblock id Q (.code (.panic v) a) σ = Q (.code (.panic v) a) σ := (rfl)
theorem kscope_normal {x : Ctx} {d : Code} {a : CAct} {σ : CSt} {Q : Out → CSt → Prop} : kscope E x d Q (.code .normal a) σ = Q (.code .normal a) σ := (rfl)
theorem kscope_exit {x : Ctx} {d : Code} {a : CAct} {σ : CSt} {Q : Out → CSt → Prop} {i : Nat} : kscope E x d Q (.code (.exit i) a) σ = Q (.code (.exit i) a) σ := (rfl)
theorem kscope_ret {x : Ctx} {d : Code} {a : CAct} {σ : CSt} {Q : Out → CSt → Prop} : kscope E x d Q (.code .ret a) σ = Q (.code .ret a) σ := (rfl)
theorem kscope_panic {x : Ctx} {d : Code} {a : CAct} {σ : CSt} {Q : Out → CSt → Prop} {v : Value} : kscope E x d Q (.code (.panic v) a) σ = Q (.code (.panic v) a) σ := (rfl)
theorem kfn_normal {x : Ctx} {a : CAct} {σ : CSt} {Q : Out → CSt → Prop} : kfn E x Q (.code .normal a) σ = W E (.unw x a none) σ Q := (rfl)
theorem kfn_ret {x : Ctx} {a : CAct} {σ : CSt} {Q : Out → CSt → Prop} : kfn E x Q (.code .ret a) σ = W E (.unw x a none) σ Q := (rfl)
theorem kfn_panic {x : Ctx} {a : CAct} {σ : CSt} {Q : Out → CSt → Prop} {v : Value} : kfn E x Q (.code (.panic v) a) σ = W E (.unw x a (some v)) σ Q := (rfl)

/-! ### A region, operation by operation -/
def wres (E : Env) (x : Ctx) (a : CAct) (d : Option Tmp) (K : CAct → CSt → Prop) (Q : Out → CSt → Prop) (σ : CSt) : OpR → Prop
  | .val v σ' => K (a.put d v) σ'
  | .pick n k => picks latP n fun j => K (a.put d (k j).1) (k j).2
  | .every p k => ∀ j, p j = true → K (a.put d (k j).1) (k j).2
  | .call fv args =>
    match extOf E fv args σ with
    | some v => K (a.put d v) σ
    | none => callv latP (W E) fv args none σ fun out σ' =>
      match out with
      | .ret v _ => K (a.put d v) σ'
      | .pan v => Q (.code (.panic v) a) σ'
      | _ => False
  | .panic v => Q (.code (.panic v) a) σ
  | .defer df => if x.rnd.isSome then False else K ({ a with df := df :: a.df }.put d undef) σ
  | .recover => if x.rnd.isSome then False else
    match x.dk, a.tk with
    | some (some v), false => K ({ a with tk := true }.put d v) σ
    | _, _ => K (a.put d .nilIface) σ
  | .fail => False
/-- The operations that are yet to be done, as a list. -/
def wops (E : Env) (x : Ctx) (ops : Array Oper) (Q : Out → CSt → Prop) : List Oper → CAct → CSt → Prop
  | [], a, σ => Q (.code .normal a) σ
  | o :: rest, a, σ =>
    match wantedC ops a o with
    | some true => wres E x a o.dst (wops E x ops Q rest) Q σ (cop E.P σ a.eval o)
    | some false => wops E x ops Q rest (a.put o.dst nope) σ
    | none => False

theorem wops_W {x : Ctx} {ops : Array Oper} {Q : Out → CSt → Prop} : ∀ (l : List Oper) (n : Nat) (a : CAct) (σ : CSt), ops.toList.drop n = l → W E (.ops x ops ((List.range l.length).map (· + n)) a) σ Q = wops E x ops Q l a σ
  | [], n, a, σ, hl => by
    rw [W_eq]
    rfl
  | o :: rest, n, a, σ, hl => by
    have ho : ops[n]? = some o := by
      have : (ops.toList.drop n)[0]? = some o := by rw [hl]; rfl
      rw [List.getElem?_drop] at this
      simpa using this
    have hrest : ops.toList.drop (n + 1) = rest := by
      have := congrArg List.tail hl
      simpa [List.tail_drop] using this
    have hlist : (List.range (o :: rest).length).map (· + n) = n :: (List.range rest.length).map (· + (n + 1)) := by
      rw [List.length_cons, List.range_succ_eq_map, List.map_cons, List.map_map]
      congr 1
      · omega
      · apply List.map_congr_left
        intro k _
        simp only [Function.comp]
        omega
    have ih : ∀ a σ, W E (.ops x ops ((List.range rest.length).map (· + (n + 1))) a) σ Q = wops E x ops Q rest a σ := fun a σ => wops_W rest (n + 1) a σ hrest
    rw [hlist, W_eq]
    simp only [F, ho]
    unfold wops
    cases hw : wantedC ops a o with
    | none => rfl
    | some wb =>
      cases wb with
      | false => exact ih _ _
      | true =>
        simp only
        cases hc : cop E.P σ a.eval o with
        | val v σ' => exact ih _ _
        | pick m k => simp only [wres, ih]
        | every p k => simp only [wres, ih]; rfl
        | call fv args =>
          simp only [wres, ih]
          rfl
        | panic v => rfl
        | defer d => simp only [wres, ih]; rfl
        | recover => simp only [wres, ih]; rfl
        | fail => rfl

theorem W_region {x : Ctx} {id : Nat} {ops : Array Oper} {a : CAct} {σ : CSt} {Q : Out → CSt → Prop} : W E (.code x (.region id ops false) a) σ Q = wops E x ops Q ops.toList a σ := by
  have := wops_W (E := E) (x := x) (ops := ops) (Q := Q) ops.toList 0 a σ (by simp)
  rw [← this, W_eq]
  simp [F]
theorem wops_nil {x : Ctx} {ops : Array Oper} {a : CAct} {σ : CSt} {Q : Out → CSt → Prop} : wops E x ops Q [] a σ = Q (.code .normal a) σ := (rfl)
theorem wops_cons {x : Ctx} {ops : Array Oper} {a : CAct} {σ : CSt} {Q : Out → CSt → Prop} {o : Oper} {rest : List Oper} (hg : o.guard = none) :
    wops E x ops Q (o :: rest) a σ = wres E x a o.dst (wops E x ops Q rest) Q σ (cop E.P σ a.eval o) := by
  rw [wops]
  simp only [wantedC, hg]
theorem wres_val {x : Ctx} {a : CAct} {d : Option Tmp} {K : CAct → CSt → Prop} {Q : Out → CSt → Prop} {σ σ' : CSt} {v : Value} : wres E x a d K Q σ (.val v σ') = K (a.put d v) σ' := (rfl)
theorem wres_panic {x : Ctx} {a : CAct} {d : Option Tmp} {K : CAct → CSt → Prop} {Q : Out → CSt → Prop} {σ : CSt} {v : Value} : wres E x a d K Q σ (.panic v) = Q (.code (.panic v) a) σ := (rfl)

/-! ### A call -/
theorem W_fn {f : FuncId} {fn : Func} {c : Code} (hf : E.P.funcs[f]? = some fn) (hb : fn.body = some c) (hg : E.gam f = none) (hn : E.bare f = none) {args : Array Value} {dk : Option (Option Value)} {σ : CSt} {Q : Out → CSt → Prop} :
    W E (.fn f args dk) σ Q = W E (.code ⟨f, none, dk⟩ c (enterAct fn args)) σ (kfn E ⟨f, none, dk⟩ Q) := by
  rw [W_eq]
  simp only [F, bareArg, hn, hg, ite_self, hf, hb]
  rfl
/-- A function with one that is given. -/
theorem W_gam {f : FuncId} {g : Array Value → CSt → Option (Value × CSt)} (hg : E.gam f = some g) (hn : E.bare f = none) {args : Array Value} {σ σ' : CSt} {v : Value} (h : g args σ = some (v, σ')) {Q : Out → CSt → Prop} :
    W E (.fn f args none) σ Q = Q (.ret v false) σ' := by
  rw [W_eq]
  simp only [F, bareArg, hn, hg, Option.isNone_none, if_true, h]
end
end Go.Sm
