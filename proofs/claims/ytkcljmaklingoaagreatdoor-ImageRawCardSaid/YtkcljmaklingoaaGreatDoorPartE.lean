/- Part E of the proof. -/
import Derived.Sort.LotD5
import Derived.Test.YtkcljmaklingoaaGreatDoorPartC
import Derived.Test.YtkcljmaklingoaaGreatDoorPartD
/- The law's own reader of numbers. -/
set_option linter.unusedVariables false
set_option linter.unusedSimpArgs false
namespace Go.Sm
open Go Go.Proofs
set_option maxRecDepth 100000
set_option maxHeartbeats 4000000
theorem u64_mod (n : Nat) : IntKind.u64.wrap (n : Int) = ((n % 2 ^ 64 : Nat) : Int) := by
  have : IntKind.u64.wrap (n : Int) = (n : Int) % 2 ^ 64 := by simp [IntKind.wrap, IntKind.bits, IntKind.signed]
  rw [this]
  omega
/-- The number and how many bytes it has; nought and nought. -/
def tk (l : List UInt8) : Nat × Nat := match rd l with
  | some (n, r) => (n, l.length - r.length)
  | none => (0, 0)
/-- What is reckoned, from behind. -/
def vt (l : List UInt8) (i m : Nat) : Nat := valB ((l.take (i + 1)).drop m) % 2 ^ 64
theorem vt_step (l : List UInt8) (i q : Nat) (hi : i < l.length) (hq : q ≤ i) : IntKind.u64.wrap (IntKind.u64.wrap ((vt l i (q + 1) : Nat) * 128) + (l[q].toNat : Int) % 128) = (vt l i q : Nat) := by
  have hstep : valB ((l.take (i + 1)).drop q) = l[q].toNat % 128 + 128 * valB ((l.take (i + 1)).drop (q + 1)) := by
    have hq2 : q < (l.take (i + 1)).length := by rw [List.length_take]; omega
    rw [List.drop_eq_getElem_cons hq2, List.getElem_take]
    rfl
  unfold vt
  rw [hstep]
  generalize valB ((l.take (i + 1)).drop (q + 1)) = x
  have e : ∀ y : Nat, ((y : Int) * 128) = ((y * 128 : Nat) : Int) := fun y => by rw [Int.natCast_mul]; rfl
  have e2 : ∀ a b : Nat, ((a : Int) + (b : Int)) = ((a + b : Nat) : Int) := fun a b => by rw [Int.natCast_add]
  have e3 : ∀ c : Nat, ((c : Int) % 128) = ((c % 128 : Nat) : Int) := fun c => by omega
  rw [e, u64_mod, e3, e2, u64_mod]
  congr 1
  have : (2 : Nat) ^ 64 = 18446744073709551616 := by decide
  rw [this]
  omega
theorem vt_top (l : List UInt8) (i : Nat) : vt l i (i + 1) = 0 := by
  unfold vt
  rw [List.drop_of_length_le (by rw [List.length_take]; omega)]
  rfl
theorem take_spec (l : List UInt8) (v : Value) (σ : CSt) (hsl : Sl σ 5 1 encY v l) (hbig : l.length < 2 ^ 36) (Q : Out → CSt → Prop)
    (h : ∀ σ', Grow σ σ' → Q (.ret (.tuple #[.int .u64 (tk l).1, .int .i64 (tk l).2]) false) σ') : W E1 (.fn 47 #[v] none) σ Q := by
  rw [W_fn (fn := Tryz.f47) Tryz.func47 rfl rfl rfl]
  obtain ⟨pv, cv, rfl⟩ := hsl.form
  simp [wops_cons]
  refine W_loop_inv (fun n a s => ∃ tm, ∃ i : Nat, a = ⟨tm, 47, [], false⟩ ∧ tm.get 0 = some (.slice pv l.length cv) ∧ tm.get 4 = some (.int .i64 ((i : Int) + 1)) ∧ (i ≤ l.length ∧ i ≤ 10 ∧ n = 10 - i ∧ Hi (l.take i) ∧ s = σ)) ?_ 10 _ _ ?_
  · rintro n a s ⟨tm, i, rfl, t0, t4, hi, hi10, hn, hhi, rfl⟩
    have hnone : (l.length ≤ i ∨ 10 ≤ i) → tk l = (0, 0) := by
      intro hc
      unfold tk
      rcases hc with hc | hc
      · rw [List.take_of_length_le hc] at hhi
        rw [rd_hi hhi]
      · have : i = 10 := by omega
        subst this
        have e : rd l = none := by
          rw [← List.take_append_drop 10 l]
          exact rd_long hhi (by rw [List.length_take]; omega) _
        rw [e]
    by_cases h1 : i < l.length
    · have h1' : (i : Int) + 1 ≤ (l.length : Int) := by omega
      by_cases h2 : i < 10
      · have h2' : (i : Int) + 1 ≤ 10 := by omega
        have hw1 : IntKind.i64.wrap (i : Int) = (i : Int) := IntWalk.i64_in _ (by omega)
        have hw2 : IntKind.i64.wrap ((i : Int) + 1 + 1) = (i : Int) + 1 + 1 := IntWalk.i64_in _ (by omega)
        obtain ⟨j, off, row, ro, rfl, hgj, hjn, hrow, hle⟩ := hsl.at h1
        have hld := cell_y hrow i h1
        have hl1 := row_le hle i h1
        have hcu := u8_lt l[i]
        by_cases h128 : 128 ≤ l[i].toNat
        · have h128' : (128 : Int) ≤ (l[i].toNat : Int) := by omega
          simp [wops_cons, wops_if', dstOf, t0, t4, h1, h1', h2', hw1, hgj, hld, hl1, h128, h128', hw2]
          refine ⟨10 - (i + 1), by omega, i + 1, by simp, by omega, by omega, rfl, ?_⟩
          rw [List.take_succ_eq_append_getElem h1]
          intro y hy
          rcases List.mem_append.1 hy with hy | hy
          · exact hhi y hy
          · rw [List.mem_singleton.1 hy]; exact h128
        · have h128' : ¬ (128 : Int) ≤ (l[i].toNat : Int) := by omega
          simp [wops_cons, wops_if', dstOf, t0, t4, h1, h1', h2', hw1, hgj, hld, hl1, h128, h128', hw2]
          -- the number, from behind
          refine W_loop_J (fun n a z => ∃ tm, ∃ m : Nat, a = ⟨tm, 47, [], false⟩ ∧ tm.get 0 = some (.slice (some ⟨j, off, none⟩) l.length cv) ∧ tm.get 4 = some (.int .i64 ((i : Int) + 1)) ∧ tm.get 5 = some (.int .u64 (vt l i m : Nat)) ∧ tm.get 6 = some (.int .i64 ((m : Int) - 1)) ∧ (m ≤ i + 1 ∧ n = m ∧ z = s))
            (fun out z => ∃ tm, out = .code (.exit 2) ⟨tm, 47, [], false⟩ ∧ tm.get 0 = some (.slice (some ⟨j, off, none⟩) l.length cv) ∧ tm.get 4 = some (.int .i64 ((i : Int) + 1)) ∧ tm.get 5 = some (.int .u64 (vt l i 0 : Nat)) ∧ z = s) ?_ (i + 1) _ _ ?_ ?_
          · rintro n2 a2 z ⟨tm2, m, rfl, e0, e4, e5, e6, hm, hn2, rfl⟩
            rcases Nat.eq_zero_or_pos m with rfl | hpos
            · simp [wops_cons, e0, e4, e5, e6]
            · obtain ⟨q, rfl⟩ : ∃ q, m = q + 1 := ⟨m - 1, by omega⟩
              have hq : q < l.length := by omega
              have e6' : tm2.get 6 = some (.int .i64 (q : Int)) := by rw [e6]; congr 3; omega
              have hldq := cell_y hrow q hq
              have hlq := row_le hle q hq
              have hcq := u8_lt l[q]
              have htm : (l[q].toNat : Int).tmod 128 = (l[q].toNat : Int) % 128 := Int.tmod_eq_emod_of_nonneg (by omega)
              have hw5 : IntKind.u8.wrap ((l[q].toNat : Int) % 128) = (l[q].toNat : Int) % 128 := IntWalk.u8_in _ (by omega)
              have hw6 : IntKind.u64.wrap ((l[q].toNat : Int) % 128) = (l[q].toNat : Int) % 128 := IntWalk.u64_in _ (by omega)
              have hw3 : IntKind.i64.wrap ((q : Int) - 1) = (q : Int) - 1 := IntWalk.i64_in _ (by omega)
              have hvs := vt_step l i q h1 (by omega)
              have hqn : (0 : Int) ≤ (q : Int) := by omega
              have hql : (q : Int) < (l.length : Int) := by omega
              simp [wops_cons, e0, e4, e5, e6', hgj, hldq, hlq, hq, hqn, hql, hw3, hw5, hw6, htm, hvs]
              exact ⟨q, by omega, q, rfl, rfl, by omega, rfl⟩
          · refine ⟨_, i + 1, rfl, by simp [t0], by simp [t4], ?_, by simp [hw1], Nat.le_refl _, rfl, rfl⟩
            simp [vt_top]
          · rintro out z ⟨tm2, rfl, e0, e4, e5, rfl⟩
            obtain ⟨q, c', d1, d2⟩ := ysl_head hsl (i + 1) (by omega) .i64
            have hlt : (l.take (i + 1)).length = i + 1 := by rw [List.length_take]; omega
            have hti : (l.take i).length = i := by rw [List.length_take]; omega
            have e : l.take (i + 1) = l.take i ++ [l[i]] := List.take_succ_eq_append_getElem h1
            have hv0 : vt l i 0 = valB (l.take i ++ [l[i]]) % 2 ^ 64 := by unfold vt; rw [List.drop_zero, e]
            have hv64 : vt l i 0 < 2 ^ 64 := by rw [hv0]; exact Nat.mod_lt _ (by decide)
            have hl : l = l.take i ++ l[i] :: l.drop (i + 1) := by rw [← List.drop_eq_getElem_cons h1, List.take_append_drop]
            have hrd := rd_app hhi l[i] (by omega) (l.drop (i + 1))
            rw [← hl] at hrd
            have hnm := num_mod hhi l[i] (by omega) (by omega)
            rw [← hv0, ← e] at hnm
            rw [← e] at hrd hv0
            push_cast at d1
            simp [wops_cons, e0, e4, e5]
            refine W_drawn (l := [0, 2, 3, 4, 1, 5, 6]) (b := #[0, 1, 0, 0, 12, 31, 63]) (by kernel_rfl) (by kernel_rfl) (by kernel_rfl) ?_
            simp [dopsR_cons, opAt, isEff, again, befBits, isRead, Nat.add_assoc, e0, e4, e5, d1]
            refine lnum_spec (vt l i 0) z hv64 _ fun q2 c2 z1 h1 g1 => ?_
            have d1' := d1
            rw [← sliceOp_grow hsl g1] at d1'
            simp [dopsR_cons, opAt, isEff, again, befBits, isRead, Nat.add_assoc, e0, e4, e5, d1, d1', Nat.testBit_eq_decide_div_mod_eq]
            refine yeq_spec _ _ (num (vt l i 0)) (l.take (i + 1)) z1 h1.sl (d2.grow g1) (by have := num_len10 hv64; omega) (by omega) _ ?_
            by_cases hc : num (vt l i 0) = l.take (i + 1)
            · have hcc := hnm.1 hc
              rw [if_pos ⟨by omega, hcc⟩] at hrd
              have h0 : (tk l) = (vt l i 0, i + 1) := by
                have e2 : vt l i 0 = valB (l.take (i + 1)) := by rw [← val_num (vt l i 0), hc]
                unfold tk
                rw [hrd, e2]
                simp only [List.length_drop]
                congr 1
                omega
              have hQ := h z1 g1
              rw [h0] at hQ
              simp [wops_cons, dopsR_cons, opAt, isEff, again, befBits, isRead, Nat.add_assoc, e0, e4, e5, hc]
              simpa using hQ
            · have hcc : ¬ ((l[i].toNat ≠ 0 ∨ l.take i = []) ∧ ((l.take i).length = 9 → l[i].toNat ≤ 1)) := fun hh => hc (hnm.2 hh)
              rw [if_neg (fun hh => hcc hh.2)] at hrd
              have h0 : (tk l) = (0, 0) := by
                unfold tk
                rw [hrd]
              have hQ := h z1 g1
              rw [h0] at hQ
              simpa [wops_cons, dopsR_cons, opAt, isEff, again, befBits, isRead, Nat.add_assoc, e0, e4, e5, hc] using hQ
      · have h2' : ¬ (i : Int) + 1 ≤ 10 := by omega
        have hQ := h s (Grow.refl s)
        rw [hnone (.inr (by omega))] at hQ
        simpa [wops_cons, wops_if', dstOf, t0, t4, h1, h1', h2'] using hQ
    · have h1' : ¬ (i : Int) + 1 ≤ (l.length : Int) := by omega
      have hQ := h s (Grow.refl s)
      rw [hnone (.inl (by omega))] at hQ
      simpa [wops_cons, wops_if', dstOf, t0, t4, h1, h1'] using hQ
  · exact ⟨_, 0, rfl, by simp, by simp, by omega, by omega, rfl, (fun _ h => absurd h (by simp)), rfl⟩
end Go.Sm
/- s[lo:hi] of a string. -/
set_option linter.unusedVariables false
set_option linter.unusedSimpArgs false
namespace Go.Sm
open Go
section
variable {P : Program} {σ : CSt} {ev : Operand → Value} {dst : Option Tmp} {ty : TypeId} {pos : String} {after : Array Edge} {g : Option (Nat × Bool)}
variable {t : TypeId} {x : Operand} {lo hi : Option Operand}
/-- The rest of the rule, not looked into. -/
def flatZ (P : Program) (σ : CSt) (ev : Operand → Value) (o : Oper) : OpR := flatOp P σ ev o
def slS (fl : OpR) (ok : Bool) (σ : CSt) : Value → Option Value → Option Value → OpR
  | .string s, lo, hi => match lo, hi with
    | none, none => if ok = true then .val (.string (s.extract 0 s.size)) σ else fl
    | none, some (.int _ b) => if ok = true ∧ 0 ≤ b ∧ b ≤ (s.size : Int) then .val (.string (s.extract 0 b.toNat)) σ else fl
    | some (.int _ a), none => if ok = true ∧ 0 ≤ a ∧ a ≤ (s.size : Int) then .val (.string (s.extract a.toNat s.size)) σ else fl
    | some (.int _ a), some (.int _ b) => if ok = true ∧ 0 ≤ a ∧ a ≤ b ∧ b ≤ (s.size : Int) then .val (.string (s.extract a.toNat b.toNat)) σ else fl
    | _, _ => fl
  | _, _, _ => fl
theorem strT_of (h : strT P t = true) : P.underlying t = some .string := by
  unfold strT at h
  split at h
  · assumption
  · cases h
@[simp] theorem flat_slice : flatOp P σ ev ⟨dst, .slice t x lo hi none, ty, pos, after, g⟩ = slS (flatZ P σ ev ⟨dst, .slice t x lo hi none, ty, pos, after, g⟩) (strT P t) σ (ev x) (lo.map ev) (hi.map ev) := by
  cases hx : ev x with
  | string s =>
    cases lo with
    | none =>
      cases hi with
      | none =>
        simp only [slS, Option.map_none]
        split
        · rename_i hok
          have ht := strT_of hok
          unfold flatOp
          simp [Op.operands, hx, Sm.flat, flat0, execOp, pureRun_bind, Instr.sliceAt, Instr.slice, pureRun_underlying, ht, Instr.sliceBounds]
        · rfl
      | some b =>
        simp only [Option.map_none, Option.map_some]
        cases hb : ev b with
        | int k b' =>
          simp only [slS]
          split
          · rename_i hok
            have ht := strT_of hok.1
            unfold flatOp
            have h1 := hok.2.1
            have h2 := hok.2.2
            simp [Op.operands, hx, hb, Sm.flat, flat0, execOp, pureRun_bind, Instr.sliceAt, Instr.slice, pureRun_underlying, ht, Instr.sliceBounds, Instr.sliceBound, asIntOf, h1, h2]
          · rfl
        | _ => rfl
    | some a =>
      cases hi with
      | none =>
        simp only [Option.map_none, Option.map_some]
        cases ha : ev a with
        | int k a' =>
          simp only [slS]
          split
          · rename_i hok
            have ht := strT_of hok.1
            unfold flatOp
            have h1 := hok.2.1
            have h2 := hok.2.2
            simp [Op.operands, hx, ha, Sm.flat, flat0, execOp, pureRun_bind, Instr.sliceAt, Instr.slice, pureRun_underlying, ht, Instr.sliceBounds, Instr.sliceBound, asIntOf, h1, h2]
          · rfl
        | _ => rfl
      | some b =>
        simp only [Option.map_none, Option.map_some]
        cases ha : ev a with
        | int k a' =>
          cases hb : ev b with
          | int k b' =>
            simp only [slS]
            split
            · rename_i hok
              have ht := strT_of hok.1
              unfold flatOp
              have h1 := hok.2.1
              have h2 := hok.2.2.1
              have h3 := hok.2.2.2
              have h4 : 0 ≤ b' := by omega
              have h5 : a' ≤ max b' 0 := by omega
              simp [Op.operands, hx, ha, hb, Sm.flat, flat0, execOp, pureRun_bind, Instr.sliceAt, Instr.slice, pureRun_underlying, ht, Instr.sliceBounds, Instr.sliceBound, asIntOf, h1, h3, h4, h5]
            · rfl
          | _ => rfl
        | _ => rfl
  | _ => rfl
@[simp] theorem sliceOp_str {s : ByteArray} {a b c : Option Value} : sliceOp P σ t (.string s) a b c = none := by
  unfold sliceOp
  cases elemOf? P t <;> rfl
end
end Go.Sm
/- The law's records: keys, Make; Encode by definition; Same. -/
set_option linter.unusedVariables false
set_option linter.unusedSimpArgs false
namespace Go.Sm
open Go Go.Proofs
set_option maxRecDepth 100000
set_option maxHeartbeats 4000000
theorem awake_spec {f : FuncId} (hf : E1.gam f = some awakeG) {σ : CSt} (hn : gnone σ) {Q : Out → CSt → Prop} : W E1 (.fn f #[] none) σ Q = Q (.ret (.bool true) false) σ :=
  W_gam hf rfl (by unfold awakeG; rw [if_pos ⟨rfl, hn⟩])
end Go.Sm
/- Purged chains: plain facts. -/
set_option linter.unusedSimpArgs false
namespace Go.Sm

end Go.Sm
/- A chain with one more: plain facts. -/
set_option linter.unusedSimpArgs false
namespace Go.Sm
theorem Srt.inj {c : List Ver} (h : Srt c) {u v : Ver} (hu : u ∈ c) (hv : v ∈ c) (e : u.at_ = v.at_) : u = v := by
  have a := h.lk_mem hu
  have b := h.lk_mem hv
  rw [e, b] at a
  exact (Option.some.inj a).symm
end Go.Sm
/- Stores as lists: plain facts. -/
set_option linter.unusedSimpArgs false
namespace Go.Sm
theorem klt_irrefl (k : ByteArray) : klt k k = false := bl_irrefl _
theorem klt_trans {a b c : ByteArray} (h : klt a b = true) (h' : klt b c = true) : klt a c = true := bl_trans h h'
theorem klt_tri {a b : ByteArray} (h : klt a b = false) (h' : klt b a = false) : a = b := ba_list_inj (bl_tri h h')
/-- A store as a list: the keys, and their chains. -/
abbrev Stl := List (ByteArray × List Ver)
def KS (S : Stl) : Prop := S.Pairwise fun a c => klt a.1 c.1 = true
/-- Where a key stands, or would. -/
structure Pos (S : Stl) (k : ByteArray) (n : Nat) : Prop where
  le : n ≤ S.length
  lo : ∀ j (h : j < S.length), j < n → klt S[j].1 k = true
  hi : ∀ j (h : j < S.length), n ≤ j → klt S[j].1 k = false
def putAt (S : Stl) (k : ByteArray) (x : Ver) (n : Nat) : Stl :=
  match S[n]? with
  | some s => if s.1 = k then S.set n (k, putL s.2 x) else S.take n ++ (k, putL [] x) :: S.drop n
  | none => S.take n ++ (k, putL [] x) :: S.drop n
end Go.Sm
/- The law's records, plain: which keys, in which order. -/
set_option linter.unusedVariables false
set_option linter.unusedSimpArgs false
namespace Go.Sm
set_option maxRecDepth 100000
theorem klt_str (a b : List UInt8) : klt (str a) (str b) = bl a b := by
  unfold klt str
  rw [ByteArray.toList_eq, ByteArray.toList_eq]
/-- A write, by small numbers. -/
structure LW where
  key : Nat
  v : ByteArray
  gone : Bool
  deriving DecidableEq
theorem serText_len (s : ByteArray) (h : s.size < 2 ^ 64) : (serText s).length ≤ s.size + 10 := by
  have := num_len10 h
  rw [serText, List.length_append, len_byt]
  omega
theorem serVer_len (v : Ver) (h : v.val.size < 2 ^ 63) : (serVer v).length ≤ v.val.size + 10 := by
  unfold serVer
  split
  · simp
  · have := num_len10 (n := v.val.size + 1) (by omega)
    rw [List.length_append, len_byt]
    omega
theorem flat_le {α : Type} (f : α → List UInt8) (c : Nat) (l : List α) (h : ∀ x ∈ l, (f x).length ≤ c) : (l.flatMap f).length ≤ c * l.length := by
  induction l with
  | nil => simp
  | cons x l ih =>
    have h1 := h x List.mem_cons_self
    have h2 := ih fun y hy => h y (List.mem_cons_of_mem _ hy)
    rw [List.flatMap_cons, List.length_append, List.length_cons, Nat.mul_succ]
    omega
end Go.Sm
/- Versions, writes, records compared. -/
set_option linter.unusedVariables false
set_option linter.unusedSimpArgs false
namespace Go.Sm
open Go Go.Proofs
set_option maxRecDepth 100000
set_option maxHeartbeats 4000000
end Go.Sm
/- The law's own record as bytes. -/
set_option linter.unusedVariables false
set_option linter.unusedSimpArgs false
namespace Go.Sm
open Go Go.Proofs
set_option maxRecDepth 100000
set_option maxHeartbeats 4000000
end Go.Sm
/- The law's Make of records. -/
set_option linter.unusedVariables false
set_option linter.unusedSimpArgs false
namespace Go.Sm
open Go Go.Proofs
set_option maxRecDepth 100000
set_option maxHeartbeats 40000000
def LW.ok (w : LW) : Prop := w.key < 256
end Go.Sm
/- The law's own Decode of records. -/
set_option linter.unusedVariables false
set_option linter.unusedSimpArgs false
namespace Go.Sm
open Go Go.Proofs
set_option maxRecDepth 100000
set_option maxHeartbeats 40000000
theorem tk_cases (l : List UInt8) : (rd l = none ∧ tk l = (0, 0)) ∨ ∃ n r k, rd l = some (n, r) ∧ tk l = (n, k) ∧ 1 ≤ k ∧ k ≤ l.length ∧ l.drop k = r ∧ r.length = l.length - k ∧ n < 2 ^ 64 := by
  unfold tk
  cases h : rd l with
  | none => exact .inl ⟨rfl, rfl⟩
  | some p =>
    obtain ⟨n, r⟩ := p
    obtain ⟨h1, h2⟩ := rd_some h
    have h3 := rd_len h
    have h4 := num_pos n
    refine .inr ⟨n, r, _, rfl, rfl, by omega, by omega, ?_, by omega, h2⟩
    have e : l.length - r.length = (num n).length := by omega
    rw [e]
    conv => lhs; rw [h1]
    rw [List.drop_left]
theorem Own.obj_lt {α : Type} {b : Nat} {s : CSt} {e : TypeId} {enc : α → List Value} {v : Value} {l : List α} (h : Own b s e enc v l) {i : Nat} (hi : objOf v = some i) : i < s.n := by
  rcases h with ⟨rfl, _⟩ | ⟨j, cap, rfl, hb', hj, hg, hc⟩
  · cases hi
  · cases hi; exact hj
end Go.Sm
/- RecordRaw, walked. -/
set_option linter.unusedVariables false
set_option linter.unusedSimpArgs false
namespace Go.Sm
open Go Go.Proofs
set_option maxRecDepth 100000
set_option maxHeartbeats 4000000
end Go.Sm
/- code.Writer, with some objects that it surely leaves alone. -/
set_option linter.unusedVariables false
set_option linter.unusedSimpArgs false
namespace Go.Sm
open Go Go.Proofs
set_option maxRecDepth 100000
set_option maxHeartbeats 4000000
def WtK (K : Nat → Prop) (b p : Nat) (σ : CSt) (l : List UInt8) : Prop := ∃ v, σ.get p = some (.cells [v] 27 false) ∧ b ≤ p ∧ p < σ.n ∧ Own b σ 5 encY v l ∧ ∀ i, K i → i ≠ p ∧ i < σ.n ∧ objOf v ≠ some i
def FrK (K : Nat → Prop) (T : TypeId → Prop) (b : Nat) (σ σ' : CSt) : Prop := Fr T b σ σ' ∧ ∀ i, K i → i < σ.n → σ'.get i = σ.get i
theorem FrK.trans {K : Nat → Prop} {T : TypeId → Prop} {b : Nat} {s0 s1 s2 : CSt} (h : FrK K T b s0 s1) (h' : FrK K T b s1 s2) : FrK K T b s0 s2 := ⟨h.1.trans h'.1, fun i hi hn => by rw [h'.2 i hi (Nat.lt_of_lt_of_le hn h.1.1), h.2 i hi hn]⟩
theorem Grow.frK {K : Nat → Prop} {T : TypeId → Prop} {b : Nat} {s0 s1 : CSt} (h : Grow s0 s1) : FrK K T b s0 s1 := ⟨h.fr, fun i _ hn => h.old i hn⟩
theorem appendF_zero {b : Nat} {σ : CSt} {v : Value} {l : List UInt8} (hown : Own b σ 5 encY v l) : ∀ v' σ', appendF σ 5 ⟨1, 1, some [.int .u8 0], false, true⟩ v 0 [] = some (v', σ') → v' = v ∧ σ' = σ := by
  intro v' σ' h
  rcases hown with ⟨rfl, rfl⟩ | ⟨i, cap, rfl, hb, hi, hg, hc⟩
  · unfold appendF at h
    simp at h
    exact ⟨h.1.symm, h.2.symm⟩
  · unfold appendF at h
    simp at h
    exact ⟨h.2.1.symm, h.2.2.symm⟩
theorem wapp_k {b : Nat} {σ : CSt} {v x : Value} {ts : Array TypeId} {l m : List UInt8} (hop : appendOp Tryz.prog σ ts v x = appendF σ 5 ⟨1, 1, some [.int .u8 0], false, true⟩ v m.length (m.flatMap encY)) (hw : Own b σ 5 encY v l) (hb : b ≤ σ.n) (hbig : l.length + m.length ≤ 2 ^ 47) :
    ∃ q c σ', appendOp Tryz.prog σ ts v x = some (.slice q (l.length + m.length) c, σ') ∧ Own b σ' 5 encY (.slice q (l.length + m.length) c) (l ++ m) ∧ FrK (fun i => objOf v ≠ some i) (fun t => t = 5) b σ σ' ∧ (∀ i, i < σ.n → objOf v ≠ some i → objOf (.slice q (l.length + m.length) c) ≠ some i) := by
  obtain ⟨v', σ', a1, a2, a3, a4, a5⟩ := appendF_only (f := ⟨1, 1, some [.int .u8 0], false, true⟩) (m := m) encY_len encY_cok rfl Nat.one_pos (by decide) rfl hw hb (by show _ * 1 ≤ _; omega) (by omega)
  have hobj : ∀ i, i < σ.n → objOf v ≠ some i → objOf v' ≠ some i := by
    intro i hi ho
    by_cases hm : m = []
    · subst hm
      obtain ⟨rfl, _⟩ := appendF_zero hw _ _ a1
      exact ho
    · obtain ⟨n, c, rfl⟩ := a5 hm
      intro e
      cases e
      omega
  obtain ⟨q, c, rfl⟩ := (a2.sl (sz := 1) encY_len).form
  rw [List.length_append] at a1 a2 hobj
  refine ⟨q, c, σ', by rw [hop]; exact a1, a2, ⟨app_fr hw a3.1 a4, fun i hi hn => a4 i hn fun j off n c hv => ?_⟩, hobj⟩
  rintro rfl
  exact hi (by rw [hv]; rfl)
theorem wappK_sl {b : Nat} {σ : CSt} {v x : Value} {l m : List UInt8} (hw : Own b σ 5 encY v l) (hb : b ≤ σ.n) (hx : Sl σ 5 1 encY x m) (hbig : l.length + m.length ≤ 2 ^ 47) :
    ∃ q c σ', appendOp Tryz.prog σ #[25, 25] v x = some (.slice q (l.length + m.length) c, σ') ∧ Own b σ' 5 encY (.slice q (l.length + m.length) c) (l ++ m) ∧ FrK (fun i => objOf v ≠ some i) (fun t => t = 5) b σ σ' ∧ (∀ i, i < σ.n → objOf v ≠ some i → objOf (.slice q (l.length + m.length) c) ≠ some i) := by
  refine wapp_k ?_ hw hb hbig
  obtain ⟨g1, g2⟩ := first_sl encY_len hx
  rw [appendOp_K (by simp [ef25]) (by simp)]
  show appK (elemF Tryz.prog 25) σ v x = _
  rw [ef25]
  simp only [appK, g1, g2, Option.bind_some]
theorem wappK_str {b : Nat} {σ : CSt} {v : Value} {l : List UInt8} (s : ByteArray) (hw : Own b σ 5 encY v l) (hb : b ≤ σ.n) (hbig : l.length + s.size ≤ 2 ^ 47) :
    ∃ q c σ', appendOp Tryz.prog σ #[25, 9] v (.string s) = some (.slice q (l.length + s.size) c, σ') ∧ Own b σ' 5 encY (.slice q (l.length + s.size) c) (l ++ byt s) ∧ FrK (fun i => objOf v ≠ some i) (fun t => t = 5) b σ σ' ∧ (∀ i, i < σ.n → objOf v ≠ some i → objOf (.slice q (l.length + s.size) c) ≠ some i) := by
  have := wapp_k (x := .string s) (ts := #[25, 9]) (m := byt s) ?_ hw hb (by rw [len_byt]; exact hbig)
  · rw [len_byt] at this; exact this
  · obtain ⟨g1, g2⟩ := first_str (σ := σ) (byt s)
    have e : (⟨(byt s).toArray⟩ : ByteArray) = s := str_byt s
    rw [e] at g1 g2
    rw [appendOp_S (by simp [ef25]) rfl]
    show appK (elemF Tryz.prog 25) σ v (.string s) = _
    rw [ef25]
    simp only [appK, g1, g2, Option.bind_some]
theorem WtK.back {K : Nat → Prop} {b p : Nat} {σ σ0 σ1 : CSt} {v v1 : Value} {l : List UInt8} (hgp : σ.get p = some (.cells [v] 27 false)) (hp : b ≤ p) (hpn : p < σ.n) (hK : ∀ i, K i → i ≠ p ∧ i < σ.n ∧ objOf v ≠ some i) (g : Grow σ σ0) (f : FrK (fun i => objOf v ≠ some i) (fun t => t = 5) b σ0 σ1) (hob : ∀ i, i < σ0.n → objOf v ≠ some i → objOf v1 ≠ some i) (hown : Own b σ1 5 encY v1 l) :
    σ1.get p = some (.cells [v] 27 false) ∧ WtK K b p (σ1.put p (.cells [v1] 27 false)) l ∧ FrK K TW b σ (σ1.put p (.cells [v1] 27 false)) := by
  obtain ⟨h1, h2, h3⟩ := Wt.back hgp hp hpn g f.1 hown
  have gn := g.n
  have fn := f.1.1
  refine ⟨h1, ?_, h3, fun i hi hn => ?_⟩
  · obtain ⟨v', q1, q2, q3, q4⟩ := h2
    have : v' = v1 := by
      simp at q1
      exact q1.symm
    subst this
    exact ⟨v', q1, q2, q3, q4, fun i hi => by
      obtain ⟨k1, k2, k3⟩ := hK i hi
      exact ⟨k1, by simp; omega, hob i (by omega) k3⟩⟩
  · obtain ⟨k1, k2, k3⟩ := hK i hi
    rw [CSt.get_put, if_neg k1, f.2 i k3 (by omega), g.old i hn]
theorem WtK.mono {K K' : Nat → Prop} {b p : Nat} {σ : CSt} {l : List UInt8} (h : WtK K b p σ l) (hK : ∀ i, K' i → K i) : WtK K' b p σ l := by
  obtain ⟨v, h1, h2, h3, h4, h5⟩ := h
  exact ⟨v, h1, h2, h3, h4, fun i hi => h5 i (hK i hi)⟩
theorem wnumK_spec (K : Nat → Prop) (b p n : Nat) (l : List UInt8) (σ : CSt) (hn : n < 2 ^ 64) (hw : WtK K b p σ l) (hb : b ≤ σ.n) (hl : l.length < 2 ^ 40) (Q : Out → CSt → Prop)
    (h : ∀ σ', WtK K b p σ' (l ++ num n) → FrK K TW b σ σ' → Q (.ret (.tuple #[]) false) σ') : W E1 (.fn 42 #[.pointer (some ⟨p, 0, none⟩), .int .u64 n] none) σ Q := by
  rw [W_fn (fn := Tryz.f42) Tryz.func42 rfl rfl rfl]
  simp [wops_cons]
  have hlen := num_len10 hn
  refine W_loop_inv (fun k a σ' => ∃ tm m pre, a = ⟨tm, 31, [], false⟩ ∧ tm.get 0 = some (.pointer (some ⟨p, 0, none⟩)) ∧ tm.get 1 = some (.int .u64 (m : Nat)) ∧ (k = m ∧ m < 2 ^ 64 ∧ num n = pre ++ num m ∧ WtK K b p σ' (l ++ pre) ∧ FrK K TW b σ σ')) ?_ n _ _ ?_
  · rintro k a σ' ⟨tm, m, pre, rfl, h0, h1, hk, hm, hpre, ⟨v, hg, hbp, hpn, hown, hK⟩, hf⟩
    have hlp : pre.length ≤ 10 := by
      have := congrArg List.length hpre
      rw [List.length_append] at this
      omega
    have hnn := hf.1.1
    by_cases h128 : m < 128
    · have hge : ¬ ((128 : Int) ≤ (m : Int)) := by omega
      obtain ⟨c, hc⟩ := byte_of m (by omega)
      have hu : IntKind.u8.wrap (m : Int) = (c.toNat : Int) := by rw [u8_of, Nat.mod_eq_of_lt (by omega), hc]
      have hnum : num m = [c] := by rw [num_lt h128]; congr 1; exact u8_eq (by rw [ofNat_toNat (by omega), hc])
      have g0 : Grow σ' (σ'.alloc (.cells [.int .u8 c.toNat] 5 false)) := (Grow.refl σ').alloc _
      obtain ⟨q, cp, s1, a1, a2, a3, a9⟩ := wappK_sl (x := .slice (some ⟨σ'.n, 0, none⟩) 1 1) (m := [c]) (hown.grow g0) (by simp; omega) (Sl.all (l := [c]) (cap := 1) (ro := false) encY_len (by simp [encY]) (by simp) (.inr ⟨by simp, by simp [openCap]⟩)) (by simp; omega)
      obtain ⟨b1, b2, b3⟩ := WtK.back hg hbp hpn hK g0 a3 a9 a2
      have hQ := h _ (by rw [hpre, hnum, ← List.append_assoc]; exact b2) (hf.trans b3)
      simpa [wops_cons, h0, h1, hg, hge, h128, hu, a1, b1] using hQ
    · have hge : (128 : Int) ≤ (m : Int) := by omega
      obtain ⟨c, hc⟩ := byte_of (m % 128 + 128) (by omega)
      have hu : orI .u8 (IntKind.u8.wrap (m : Int)) 128 = (c.toNat : Int) := by
        rw [u8_of, or_80 _ (by omega), hc]
        congr 1
        omega
      have hnum : num m = c :: num (m / 128) := by rw [num_ge (by omega)]; congr 1; exact u8_eq (by rw [ofNat_toNat (by omega), hc])
      have g0 : Grow σ' (σ'.alloc (.cells [.int .u8 c.toNat] 5 false)) := (Grow.refl σ').alloc _
      obtain ⟨q, cp, s1, a1, a2, a3, a9⟩ := wappK_sl (x := .slice (some ⟨σ'.n, 0, none⟩) 1 1) (m := [c]) (hown.grow g0) (by simp; omega) (Sl.all (l := [c]) (cap := 1) (ro := false) encY_len (by simp [encY]) (by simp) (.inr ⟨by simp, by simp [openCap]⟩)) (by simp; omega)
      obtain ⟨b1, b2, b3⟩ := WtK.back hg hbp hpn hK g0 a3 a9 a2
      have hsh : (m : Int).fdiv (2 ^ min 7 64) = ((m / 128 : Nat) : Int) := by
        have : (2 : Int) ^ min 7 64 = 128 := by decide
        rw [this, Int.fdiv_eq_ediv_of_nonneg _ (by omega)]
        omega
      simp at a1
      simp [wops_cons, h0, h1, hg, hge, h128, hu, a1, b1]
      exact ⟨m / 128, by omega, m / 128, hsh, rfl, by omega, pre ++ [c], by rw [hpre, hnum]; simp, by simpa [List.append_assoc, Nat.add_assoc] using b2, by simpa [List.append_assoc, Nat.add_assoc] using hf.trans b3⟩
  · exact ⟨_, n, [], rfl, rfl, rfl, rfl, hn, rfl, by simpa using hw, (Grow.refl _).frK⟩
theorem WtK.grow {K : Nat → Prop} {b p : Nat} {σ σ' : CSt} {l : List UInt8} (h : WtK K b p σ l) (g : Grow σ σ') : WtK K b p σ' l := by
  obtain ⟨v, h1, h2, h3, h4, h5⟩ := h
  have := g.n
  exact ⟨v, g.get h1 h3, h2, by omega, h4.grow g, fun i hi => by obtain ⟨k1, k2, k3⟩ := h5 i hi; exact ⟨k1, by omega, k3⟩⟩
/-- Bytes of a string behind it. -/
theorem wtextK_back {K : Nat → Prop} {b p : Nat} {σ : CSt} {l : List UInt8} (hw : WtK K b p σ l) (hb : b ≤ σ.n) (s : ByteArray) (hbig : l.length + s.size ≤ 2 ^ 47) :
    ∃ v q c s1, σ.get p = some (.cells [v] 27 false) ∧ appendOp Tryz.prog σ #[25, 9] v (.string s) = some (.slice q (l.length + s.size) c, s1) ∧ s1.get p = some (.cells [v] 27 false) ∧
      WtK K b p (s1.put p (.cells [.slice q (l.length + s.size) c] 27 false)) (l ++ byt s) ∧ FrK K TW b σ (s1.put p (.cells [.slice q (l.length + s.size) c] 27 false)) := by
  obtain ⟨v, hg, hbp, hpn, hown, hK⟩ := hw
  obtain ⟨q, c, s1, a1, a2, a3, a9⟩ := wappK_str s hown hb hbig
  obtain ⟨b1, b2, b3⟩ := WtK.back hg hbp hpn hK (Grow.refl σ) a3 a9 a2
  exact ⟨v, q, c, s1, hg, a1, b1, b2, b3⟩
theorem wtextK_spec (K : Nat → Prop) (b p : Nat) (s : ByteArray) (l : List UInt8) (σ : CSt) (hs : s.size < 2 ^ 40) (hw : WtK K b p σ l) (hb : b ≤ σ.n) (hl : l.length < 2 ^ 39) (Q : Out → CSt → Prop)
    (h : ∀ σ', WtK K b p σ' (l ++ serText s) → FrK K TW b σ σ' → Q (.ret (.tuple #[]) false) σ') : W E1 (.fn 50 #[.pointer (some ⟨p, 0, none⟩), .string s] none) σ Q := by
  rw [W_fn (fn := Tryz.f50) Tryz.func50 rfl rfl rfl]
  have hu : IntKind.u64.wrap (s.size : Int) = (s.size : Int) := IntWalk.u64_in _ (by omega)
  have hln := num_len10 (n := s.size) (by omega)
  simp [wops_cons, hu]
  refine wnumK_spec K b p s.size l σ (by omega) hw hb (by omega) _ fun σ1 h1 f1 => ?_
  have f1n := f1.1.1
  obtain ⟨v, q, c, s1, hg, a1, b1, b2, b3⟩ := wtextK_back h1 (by omega) s (by rw [List.length_append]; omega)
  have hQ := h _ (by rw [serText, ← List.append_assoc]; exact b2) (f1.trans b3)
  simp only [List.length_append] at a1 hQ
  simpa [wops_cons, hg, a1, b1] using hQ
theorem valueK_spec (K : Nat → Prop) (b p : Nat) (x : Ver) (l : List UInt8) (σ : CSt) (hs : x.val.size < 2 ^ 38) (hw : WtK K b p σ l) (hb : b ≤ σ.n) (hl : l.length < 2 ^ 39) (Q : Out → CSt → Prop)
    (h : ∀ σ', WtK K b p σ' (l ++ serVer x) → FrK K TW b σ σ' → Q (.ret (.tuple #[]) false) σ') : W E1 (.fn 43 #[.pointer (some ⟨p, 0, none⟩), .agg (encV x).toArray] none) σ Q := by
  rw [W_fn (fn := Tryz.f43) Tryz.func43 rfl rfl rfl]
  obtain ⟨at_, val, gone⟩ := x
  have g0 : Grow σ (σ.alloc (.cells [.int .u64 at_, .string val, .bool gone] 33 false)) := (Grow.refl σ).alloc _
  have hw0 := hw.grow g0
  have hc0 : (σ.alloc (.cells [.int .u64 at_, .string val, .bool gone] 33 false)).get σ.n = some (.cells [.int .u64 at_, .string val, .bool gone] 33 false) := by simp
  cases gone with
  | true =>
    simp [wops_cons, encV]
    have e : serVer ⟨at_, val, true⟩ = num 0 := by rw [num_lt (by omega)]; rfl
    refine wnumK_spec K b p 0 l _ (by decide) hw0 (by simp; omega) (by omega) _ fun σ1 h1 f1 => ?_
    have hQ := h _ (by rw [e]; exact h1) (g0.frK.trans f1)
    simpa [wops_cons] using hQ
  | false =>
    have hz : val.size < 2 ^ 38 := hs
    have hu : IntKind.u64.wrap (IntKind.u64.wrap (val.size : Int) + 1) = ((val.size + 1 : Nat) : Int) := by rw [IntWalk.u64_in (val.size : Int) (by omega), IntWalk.u64_in _ (by omega)]; omega
    have hln := num_len10 (n := val.size + 1) (by omega)
    simp [wops_cons, encV]
    rw [hu]
    refine wnumK_spec K b p (val.size + 1) l _ (by omega) hw0 (by simp; omega) (by omega) _ fun σ1 h1 f1 => ?_
    have f1n := f1.1.1
    have hc1 : σ1.get σ.n = some (.cells [.int .u64 at_, .string val, .bool false] 33 false) := f1.1.get hc0 (by simp) (.inr fun row e ro he => by cases he; decide)
    obtain ⟨v, q, c, s1, hg, a1, b1, b2, b3⟩ := wtextK_back h1 (by simp at f1n; omega) val (by rw [List.length_append]; omega)
    have hQ := h _ (by
      have e : serVer ⟨at_, val, false⟩ = num (val.size + 1) ++ byt val := rfl
      rw [e, ← List.append_assoc]; exact b2) ((g0.frK.trans f1).trans b3)
    simp only [List.length_append] at a1 hQ
    simp [wops_cons]
    refine W_calm (by kernel_rfl) ?_
    simpa [dops_cons, hg, hc1, a1, b1] using hQ
theorem valuevK_spec (K : Nat → Prop) (b p : Nat) (x : Ver) (l : List UInt8) (σ : CSt) (hat : 0 ≤ x.at_ ∧ x.at_ < 2 ^ 64) (hs : x.val.size < 2 ^ 38) (hw : WtK K b p σ l) (hb : b ≤ σ.n) (hl : l.length < 2 ^ 38) (Q : Out → CSt → Prop)
    (h : ∀ σ', WtK K b p σ' (l ++ serV x) → FrK K TW b σ σ' → Q (.ret (.tuple #[]) false) σ') : W E1 (.fn 13 #[.pointer (some ⟨p, 0, none⟩), .agg (encV x).toArray] none) σ Q := by
  rw [W_fn (fn := Tryz.f13) Tryz.func13 rfl rfl rfl]
  have g0 : Grow σ (σ.alloc (.cells (encV x) 33 false)) := (Grow.refl σ).alloc _
  have hw0 := hw.grow g0
  have hc0 : (σ.alloc (.cells (encV x) 33 false)).get σ.n = some (.cells (encV x) 33 false) := by simp
  obtain ⟨n, hn⟩ : ∃ n : Nat, x.at_ = n := ⟨x.at_.toNat, by omega⟩
  have hn64 : n < 2 ^ 64 := by omega
  have hln := num_len10 hn64
  have he : encV x = [.int .u64 n, .string x.val, .bool x.gone] := by rw [encV, hn]
  rw [he] at hw0 hc0 g0 ⊢
  simp [wops_cons]
  refine wnumK_spec K b p n l _ hn64 hw0 (by simp; omega) (by omega) _ fun σ1 h1 f1 => ?_
  have f1n := f1.1.1
  simp at f1n
  have hc1 : σ1.get σ.n = some (.cells [.int .u64 n, .string x.val, .bool x.gone] 33 false) := f1.1.get hc0 (by simp) (.inr fun row e ro he => by cases he; decide)
  have hv := valueK_spec K b p x (l ++ num n) σ1 hs h1 (by omega) (by rw [List.length_append]; omega)
  rw [he] at hv
  simp [wops_cons, hc1]
  refine hv _ fun σ2 h2 f2 => ?_
  have hQ := h _ (by rw [serV, hn, Int.toNat_natCast, ← List.append_assoc]; exact h2) ((g0.frK.trans f1).trans f2)
  simpa [wops_cons] using hQ
end Go.Sm
/- RecordBack, walked. -/
set_option linter.unusedVariables false
set_option linter.unusedSimpArgs false
namespace Go.Sm
open Go Go.Proofs
set_option maxRecDepth 100000
set_option maxHeartbeats 4000000
end Go.Sm
/- RecordValues, walked. -/
set_option linter.unusedVariables false
set_option linter.unusedSimpArgs false
namespace Go.Sm
open Go Go.Proofs
set_option maxRecDepth 100000
set_option maxHeartbeats 4000000
theorem cokV (x : Ver) : cokL (encV x) = true := rfl
theorem lenV (x : Ver) : (encV x).length = 3 := rfl
theorem app_ver {ts : Array TypeId} {f : TF} (hf : ts[0]?.bind (elemF Tryz.prog) = some (33, f)) (hu : (ts[1]?.bind (elemT Tryz.prog)).isSome = true) (hfs : f.size = 3) (h1 : f.bytes = 32) (h2 : f.zero.map List.length = some 3) {b : Nat} {s1 : CSt} {l : List Ver} {x : Ver} {v : Value} (ho : Own b s1 33 encV v l) (hb : b ≤ s1.n) (hl : l.length < 2 ^ 40) :
    ∃ p9 c9 s9, appendOp Tryz.prog (s1.alloc (.cells (encV x) 33 false)) ts v (.slice (some ⟨s1.n, 0, none⟩) 1 1) = some (.slice p9 (l.length + 1) c9, s9) ∧ Own b s9 33 encV (.slice p9 (l.length + 1) c9) (l ++ [x]) ∧ ButV v s1 s9 ∧ GrowB b s1 s9 := by
  have hga : Grow s1 (s1.alloc (.cells (encV x) 33 false)) := (Grow.refl s1).alloc _
  obtain ⟨v9, s9, a1, a2, a3, a4, a5⟩ := append_only (P := Tryz.prog) (ts := ts) (e := 33) (sz := 3) (enc := encV) (l := l) (m := [x]) (b := b) hf hu lenV cokV hfs (by decide) (by omega) h2 (σ := s1.alloc (.cells (encV x) 33 false))
    (ho.grow hga) (by simp; omega) (Sl.all (l := [x]) (i := s1.n) (cap := 1) (ro := false) lenV (by simp) (by simp) (.inr ⟨by simp, by simp [openCap]⟩)) (by rw [h1]; show (_ + 1) * 32 ≤ _; omega) (by omega)
  obtain ⟨p9, c9, rfl⟩ := (a2.sl (sz := 3) lenV).form
  rw [List.length_append] at a1 a2
  refine ⟨p9, c9, s9, a1, a2, ⟨by have := a3.1; simp at this; omega, fun j hj hne => ?_⟩, (hga.toB hb).trans a3⟩
  rw [a4 j (by simp; omega) (fun i off n c h => by rintro rfl; exact hne (by rw [h]; rfl)), hga.old j hj]
theorem WtK.fr {K : Nat → Prop} {T : TypeId → Prop} {b b' p : Nat} {σ σ' : CSt} {l : List UInt8} (h : WtK K b p σ l) (h27 : ¬ T 27) (h5 : ¬ T 5) (f : Fr T b' σ σ') : WtK K b p σ' l := by
  obtain ⟨v, h1, h2, h3, h4, h5'⟩ := h
  have fn := f.1
  exact ⟨v, f.get h1 h3 (.inr fun row e ro he => by cases he; exact h27), h2, by omega, h4.fr h5 f, fun i hi => by obtain ⟨k1, k2, k3⟩ := h5' i hi; exact ⟨k1, by omega, k3⟩⟩
/-- Another slice of bytes is appended to. -/
theorem WtK.other {b p : Nat} {σ σ' : CSt} {l : List UInt8} {u u' : Value} (h : WtK (fun i => objOf u = some i) b p σ l) (f : FrK (fun i => objOf u ≠ some i) (fun t => t = 5) b σ σ') (hob : ∀ i, i < σ.n → objOf u ≠ some i → objOf u' ≠ some i) (hlt : ∀ i, objOf u' = some i → i < σ'.n) : WtK (fun i => objOf u' = some i) b p σ' l := by
  obtain ⟨v, h1, h2, h3, h4, h5⟩ := h
  have fn := f.1.1
  refine ⟨v, f.1.get h1 h3 (.inr fun row e ro he => by cases he; decide), h2, by omega, ?_, fun i hi => ?_⟩
  · rcases h4 with h4 | ⟨i, cap, rfl, q1, q2, q3, q4⟩
    · exact .inl h4
    · refine .inr ⟨i, cap, rfl, q1, by omega, ?_, q4⟩
      rw [f.2 i (fun hi => (h5 i hi).2.2 rfl) q2]
      exact q3
  · have h6 : objOf u ≠ some i → ¬ i < σ.n := fun hne hlt' => hob i hlt' hne hi
    by_cases hu : objOf u = some i
    · obtain ⟨k1, k2, k3⟩ := h5 i hu
      exact ⟨k1, hlt i hi, k3⟩
    · have := h6 hu
      refine ⟨by omega, hlt i hi, fun hv => ?_⟩
      have := h4.obj_lt hv
      omega
theorem Own.frK {K : Nat → Prop} {T : TypeId → Prop} {b b' : Nat} {σ σ' : CSt} {v : Value} {l : List UInt8} (h : Own b σ 5 encY v l) (f : FrK K T b' σ σ') (hK : ∀ i, objOf v = some i → K i) : Own b σ' 5 encY v l := by
  rcases h with h | ⟨i, cap, rfl, q1, q2, q3, q4⟩
  · exact .inl h
  · exact .inr ⟨i, cap, rfl, q1, Nat.lt_of_lt_of_le q2 f.1.1, by rw [f.2 i (hK i rfl) q2]; exact q3, q4⟩
theorem serV_len (x : Ver) (h1 : x.at_ < 2 ^ 64) (hs : x.val.size ≤ 200) : (serV x).length ≤ 250 := by
  have a := num_len10 (n := x.at_.toNat) (by omega)
  have b := serVer_len x (by omega)
  rw [serV, List.length_append]
  omega
end Go.Sm
/- Chains: the comparison, the search. -/
set_option linter.unusedVariables false
set_option linter.unusedSimpArgs false
namespace Go.Sm
open Go Go.Proofs
set_option maxRecDepth 100000
set_option maxHeartbeats 1000000
def ordV (t : Int) (v : Ver) : Int := if v.at_ < t then -1 else if t < v.at_ then 1 else 0
theorem order_spec (t : Int) (v : Ver) (σ : CSt) (Q : Out → CSt → Prop) (h : ∀ σ', Grow σ σ' → Q (.ret (.int .i64 (ordV t v)) false) σ') : W E1 (.fn 78 #[.agg (encV v).toArray, .int .u64 t] none) σ Q := by
  rw [W_fn (fn := Tryz.f78) Tryz.func78 rfl rfl rfl]
  have hg := h _ ((Grow.refl σ).alloc (CObj.cells (encV v) 33 false))
  simp only [encV, ordV] at hg
  simp [wops_cons, encV]
  by_cases h1 : v.at_ < t
  · simpa [h1] using hg
  · by_cases h2 : t < v.at_
    · simpa [h1, h2] using hg
    · simpa [h1, h2] using hg
theorem mid_eq (lo hi : Int) (h1 : 0 ≤ lo) (h2 : lo < hi) (h3 : hi < 2 ^ 62) : IntKind.i64.wrap ((IntKind.u64.wrap (IntKind.i64.wrap (lo + hi))).fdiv (2 ^ min 1 IntKind.u64.bits)) = (lo + hi) / 2 := by
  rw [IntWalk.i64_in (lo + hi) (by omega), IntWalk.u64_in _ (by omega)]
  have : (2 ^ min 1 IntKind.u64.bits : Int) = 2 := by decide
  rw [this, Int.fdiv_eq_ediv_of_nonneg _ (by omega), IntWalk.i64_in _ (by omega)]
theorem search_29 (l : List Ver) (v key : Value) (hkey : flat0 key = true) (ord : Ver → Int) (σ : CSt) (hsl : Sl σ 33 3 encV v l) (hbig : l.length < 2 ^ 40)
    (hcmp : ∀ (x : Ver) (σ : CSt) (Q : Out → CSt → Prop), (∀ σ', Grow σ σ' → Q (.ret (.int .i64 (ord x)) false) σ') → W E1 (.fn 78 #[.agg (encV x).toArray, key] none) σ Q)
    (hmono : ∀ j k (hj : j < l.length) (hk : k < l.length), j < k → ord l[k] < 0 → ord l[j] < 0) (Q : Out → CSt → Prop)
    (h : ∀ (k : Nat) (σ' : CSt), Cut ord l k → Grow σ σ' → Q (.ret (.tuple #[.int .i64 k, .bool (decide (∃ h : k < l.length, ord l[k] = 0))]) false) σ') :
    W E1 (.fn 77 #[v, key, .func (.func 78) #[] #[]] none) σ Q := by
  rw [W_fn (fn := Tryz.f77) Tryz.func77 rfl rfl rfl]
  rcases hsl with ⟨rfl, rfl⟩ | ⟨i, off, cap, row, ro, rfl, hg, hin, hrow, hlen, hcap⟩
  · have := h 0 σ ⟨Nat.le_refl _, by simp, by simp⟩ (Grow.refl σ)
    simp [wops_cons]
    rw [W_loop]
    simp [wops_cons, wops_if', dstOf]
    have e : decide (∃ h : 0 < ([] : List Ver).length, ord ([] : List Ver)[0] = 0) = false := decide_eq_false fun ⟨h, _⟩ => absurd h (by simp)
    rw [e] at this
    exact this
  simp [wops_cons]
  refine W_loop_inv (fun n a σ' => ∃ tm lo hi, a = ⟨tm, 49, [], false⟩ ∧ tm.get 0 = some (.slice (some ⟨i, off, none⟩) l.length cap) ∧ tm.get 1 = some key ∧ tm.get 2 = some (.func (.func 78) #[] #[]) ∧ tm.get 8 = some (.int .i64 l.length) ∧ tm.get 9 = some (.int .i64 lo) ∧ tm.get 10 = some (.int .i64 hi) ∧
      (0 ≤ lo ∧ lo ≤ hi ∧ hi ≤ l.length ∧ n = (hi - lo).toNat ∧ (∀ j (h : j < l.length), (j : Int) < lo → ord l[j] < 0) ∧ (∀ j (h : j < l.length), hi ≤ j → 0 ≤ ord l[j])) ∧ Grow σ σ') ?_ l.length _ _ ?_
  · rintro n a σ' ⟨tm, lo, hi, rfl, h0, h1, h2, h8, h9, h10, ⟨hlo, hlh, hhi, hn, hl, hr⟩, hgr⟩
    have hgi := hgr.get hg hin
    by_cases hlt : lo < hi
    · have hm := mid_eq lo hi hlo hlt (by omega)
      obtain ⟨m, hmm⟩ : ∃ m : Nat, (lo + hi) / 2 = m := ⟨((lo + hi) / 2).toNat, by omega⟩
      have hm1 : m < l.length := by omega
      have hm2 : lo ≤ m ∧ (m : Int) < hi := by omega
      rw [hmm] at hm
      have hld := row_get (enc := encV) (fun _ => rfl) hrow m hm1
      have hle := row_le hlen m hm1
      have hw := i64n1 m (by omega)
      simp [wops_cons, h0, h1, h2, h8, h9, h10, hlt, hm, hm1, hgi, hld, hle, -List.length_flatMap]
      refine hcmp _ _ _ fun σ'' hgr2 => ?_
      by_cases hc : ord l[m] < 0
      · simp [wops_cons, hc, hw]
        refine ⟨_, ?_, h0, h1, h2, h8, hi, h10, ⟨by omega, by omega, hhi, rfl, fun j hjl hj => ?_, hr⟩, hgr.trans hgr2⟩
        · omega
        · by_cases hj' : j = m
          · subst hj'; exact hc
          · exact hmono j m hjl hm1 (by omega) hc
      · simp [wops_cons, hc]
        refine ⟨_, ?_, h0, h1, h2, h8, lo, h9, ⟨hlo, by omega, by omega, rfl, hl, fun j hjl hj => ?_⟩, hgr.trans hgr2⟩
        · omega
        · by_cases hj' : j = m
          · subst hj'; omega
          · have := hmono m j hm1 hjl (by omega)
            omega
    · obtain ⟨k, rfl⟩ := Int.eq_ofNat_of_zero_le hlo
      have hk : hi = k := by omega
      have hcut : Cut ord l k := ⟨by omega, fun j hj h => hl j hj (by omega), fun j hj h => hr j hj (by omega)⟩
      by_cases hkl : k < l.length
      · have hld := row_get (enc := encV) (fun _ => rfl) hrow k hkl
        have hle := row_le hlen k hkl
        simp [wops_cons, wops_if', dstOf, h0, h1, h2, h8, h9, h10, hlt, hkl, hgi, hld, hle, -List.length_flatMap]
        refine hcmp _ _ _ fun σ'' hgr2 => ?_
        have := h k σ'' hcut (hgr.trans hgr2)
        simp [wops_cons, wops_if', dstOf, hkl] at this ⊢
        exact this
      · have := h k σ' hcut hgr
        simp [wops_cons, wops_if', dstOf, h0, h1, h2, h8, h9, h10, hlt, hkl] at this ⊢
        exact this
  · refine ⟨_, 0, l.length, rfl, ?_⟩
    simp
    exact ⟨⟨fun j _ h => by omega, fun j h1 h2 => by omega⟩, Grow.refl σ⟩

end Go.Sm
/- Chains: copies, a version more. -/
set_option linter.unusedVariables false
set_option linter.unusedSimpArgs false
namespace Go.Sm
open Go Go.Proofs
set_option maxRecDepth 100000
set_option maxHeartbeats 1000000
theorem clone_29 (l : List Ver) (v : Value) (σ : CSt) (hsl : Sl σ 33 3 encV v l) (hbig : l.length < 2 ^ 40) (Q : Out → CSt → Prop)
    (h : ∀ (v' : Value) (σ' : CSt), Own σ.n σ' 33 encV v' l → Grow σ σ' → Q (.ret v' false) σ') : W E1 (.fn 59 #[v] none) σ Q := by
  rw [W_fn (fn := Tryz.f59) Tryz.func59 rfl rfl rfl]
  have h0 : (0 : Nat) ≠ openCap := by simp [openCap]
  rcases hsl with ⟨rfl, rfl⟩ | ⟨i, off, cap, row, ro, rfl, hg, hin, hrow, hlen, hcap⟩
  · have := h _ σ Own.nil (Grow.refl σ)
    simpa [wops_cons] using this
  by_cases hl : l.length = 0
  · have hnil : l = [] := List.eq_nil_of_length_eq_zero hl
    subst hnil
    have := h (.slice (some ⟨σ.n, 0, none⟩) 0 0) (σ.alloc (.cells [] 33 false)) (.inr ⟨σ.n, 0, rfl, Nat.le_refl _, by simp, by simp, .inr ⟨rfl, rfl⟩⟩) ((Grow.refl σ).alloc _)
    have hin' : ¬ i = σ.n := by omega
    have hoff : off ≤ row.length := by simp at hlen; omega
    simpa [wops_cons, appendOp_K, appK, appendF, hg, h0, hin', hoff] using this
  · have hn0 : ¬ l = [] := by rintro rfl; simp at hl
    have hb : l.length * 32 ≤ 140737488355328 := by omega
    have hrl : ((l.flatMap encV).length : Nat) = l.length * 3 := enc_length encV (fun _ => rfl) l
    have hck : cokL (l.flatMap encV) = true := cokL_enc (fun _ => rfl) l
    have := h (.slice (some ⟨σ.n + 1, 0, none⟩) l.length openCap) ((σ.alloc (.cells [] 33 false)).alloc (.cells (l.flatMap encV) 33 false))
      (.inr ⟨σ.n + 1, openCap, rfl, by omega, by simp, by simp, .inl rfl⟩) (((Grow.refl σ).alloc _).alloc _)
    have hin' : ¬ i = σ.n := by omega
    simpa [wops_cons, appendOp_K, appK, appendF, hg, h0, hin', hlen, hrow, hrl, hl, hb, hck, hn0, -List.length_flatMap] using this
theorem ins_own_29 (b : Nat) (l : List Ver) (x : Ver) (a : Nat) (ha : a ≤ l.length) (v : Value) (σ : CSt) (hb : b ≤ σ.n) (hown : Own b σ 33 encV v l) (j : Nat) (hj : σ.get j = some (.cells (encV x) 33 false))
    (hji : ∀ i off n c, v = .slice (some ⟨i, off, none⟩) n c → i ≠ j) (hbig : l.length < 2 ^ 40) (Q : Out → CSt → Prop)
    (h : ∀ (v' : Value) (σ' : CSt), Own b σ' 33 encV v' (l.take a ++ x :: l.drop a) → GrowB b σ σ' → Q (.ret v' false) σ') :
    W E1 (.fn 79 #[v, .int .i64 a, .slice (some ⟨j, 0, none⟩) 1 1] none) σ Q := by
  have hxl : (encV x).length = 3 := rfl
  rcases hown with ⟨rfl, rfl⟩ | ⟨i, cap, rfl, hbi, hin, hg, hcap⟩
  · have ha0 : a = 0 := by simpa using ha
    subst ha0
    rw [Int.natCast_zero, W_gam (E := E1) (f := 79) (g := insG 33 3 32) rfl rfl (v := .slice (some ⟨σ.n, 0, none⟩) 1 openCap) (σ' := σ.alloc (.cells (encV x) 33 false)) (insG_nil hj rfl rfl (by omega))]
    exact h _ _ (.inr ⟨σ.n, openCap, rfl, hb, by simp, by simp, .inl rfl⟩) ((GrowB.refl b σ).alloc hb _)
  · have hij := hji i 0 _ _ rfl
    have hrl : (l.flatMap encV).length = l.length * 3 := enc_length encV (fun _ => rfl) l
    have hck : cokL (l.flatMap encV) = true := cokL_enc (fun _ => rfl) l
    rcases hcap with rfl | ⟨rfl, rfl⟩
    · have he := insRow_enc (enc := encV) (l := l) (sz := 3) (fun _ => rfl) a ha x
      rw [W_gam (E := E1) (f := 79) (g := insG 33 3 32) rfl rfl (v := .slice (some ⟨σ.n, 0, none⟩) (l.length + 1) openCap) (σ' := (σ.put i .dead).alloc (.cells ((l.take a ++ x :: l.drop a).flatMap encV) 33 false)) (by
        rw [insG_some (sz := 3) hg hj rfl rfl (by omega) (by omega) hij (by omega) (cokL_take hck _) (by omega) (by omega) hbig, if_pos rfl, ← he]
        rfl)]
      refine h _ _ (.inr ⟨σ.n, openCap, ?_, hb, by simp, by simp, .inl rfl⟩) (((GrowB.refl b σ).put hbi _).alloc hb _)
      have : (l.take a ++ x :: l.drop a).length = l.length + 1 := by simp; omega
      rw [this]
    · have ha0 : a = 0 := by simpa using ha
      subst ha0
      rw [Int.natCast_zero, W_gam (E := E1) (f := 79) (g := insG 33 3 32) rfl rfl (v := .slice (some ⟨σ.n, 0, none⟩) 1 openCap) (σ' := σ.alloc (.cells (encV x) 33 false)) (by
        have hg' : σ.get i = some (.cells [] 33 false) := hg
        exact (insG_some (sz := 3) (n := 0) hg' hj rfl rfl (by omega) (by omega) hij (by simp) (by simp) (by omega) (by omega) (by omega)).trans ((if_neg (by simp [openCap])).trans (if_pos ⟨rfl, rfl⟩)))]
      exact h _ _ (.inr ⟨σ.n, openCap, rfl, hb, by simp, by simp, .inl rfl⟩) ((GrowB.refl b σ).alloc hb _)

end Go.Sm
/- Chains: Put, At, Purge. -/
set_option linter.unusedVariables false
set_option linter.unusedSimpArgs false
namespace Go.Sm
open Go Go.Proofs
set_option maxRecDepth 100000
set_option maxHeartbeats 1000000
theorem ordV_lt (t : Int) (v : Ver) : ordV t v < 0 ↔ v.at_ < t := by
  unfold ordV
  by_cases h1 : v.at_ < t
  · simp [h1]
  · by_cases h2 : t < v.at_ <;> simp [h1, h2]
theorem ordV_eq (t : Int) (v : Ver) : ordV t v = 0 ↔ v.at_ = t := by
  unfold ordV
  by_cases h1 : v.at_ < t
  · simp [h1]; omega
  · by_cases h2 : t < v.at_
    · simp [h1, h2]; omega
    · simp [h1, h2]; omega
theorem Cut.found {c : List Ver} {t : Int} {k : Nat} (h : Cut (ordV t) c k) : Found c t k := by
  refine ⟨h.le, fun v hv => ?_, fun v hv => ?_⟩
  · obtain ⟨j, hj, rfl⟩ := List.mem_iff_getElem.1 hv
    simp only [List.length_take] at hj
    have := h.lo j (by omega) (by omega)
    rw [ordV_lt] at this
    simpa using this
  · obtain ⟨j, hj, rfl⟩ := List.mem_iff_getElem.1 hv
    simp only [List.length_drop] at hj
    have := h.hi (k + j) (by omega) (by omega)
    simp only [List.getElem_drop]
    have h2 := ordV_lt t c[k + j]
    omega
theorem Srt.get_lt {c : List Ver} (h : Srt c) {j k : Nat} (hj : j < c.length) (hk : k < c.length) (hjk : j < k) : c[j].at_ < c[k].at_ := List.pairwise_iff_getElem.1 h j k hj hk hjk
theorem Srt.mono {c : List Ver} (h : Srt c) (t : Int) : ∀ j k (hj : j < c.length) (hk : k < c.length), j < k → ordV t c[k] < 0 → ordV t c[j] < 0 := by
  intro j k hj hk hjk ho
  rw [ordV_lt] at ho ⊢
  have := h.get_lt hj hk hjk
  omega
/-- Where a version of a time stands. -/
theorem find_chain (c : List Ver) (hs : Srt c) (v : Value) (t : Int) (σ : CSt) (hsl : Sl σ 33 3 encV v c) (hbig : c.length < 2 ^ 40) (Q : Out → CSt → Prop)
    (h : ∀ (k : Nat) (σ' : CSt), Found c t k → Grow σ σ' → Q (.ret (.tuple #[.int .i64 k, .bool (decide (∃ h : k < c.length, c[k].at_ = t))]) false) σ') :
    W E1 (.fn 77 #[v, .int .u64 t, .func (.func 78) #[] #[]] none) σ Q := by
  refine search_29 c v _ rfl (ordV t) σ hsl hbig (fun x σ Q h => order_spec t x σ Q h) (hs.mono t) Q fun k σ' hc hg => ?_
  have := h k σ' hc.found hg
  simpa only [ordV_eq] using this
theorem put_spec (c : List Ver) (hs : Srt c) (v : Value) (x : Ver) (σ : CSt) (hsl : Sl σ 33 3 encV v c) (hbig : c.length < 2 ^ 39) (Q : Out → CSt → Prop)
    (h : ∀ (v' : Value) (σ' : CSt), Own σ.n σ' 33 encV v' (putL c x) → Grow σ σ' → Q (.ret v' false) σ') : W E1 (.fn 66 #[v, .agg (encV x).toArray] none) σ Q := by
  rw [W_fn (fn := Tryz.f66) Tryz.func66 rfl rfl rfl]
  simp [wops_cons, encV]
  refine find_chain c hs v x.at_ _ (hsl.grow ((Grow.refl σ).alloc _)) (by omega) _ fun k σ1 hf hg1 => ?_
  have hg1' : Grow σ σ1 := ((Grow.refl σ).alloc _).trans hg1
  have hb1 : σ1.get σ.n = some (.cells (encV x) 33 false) := hg1.get (by simp [encV]) (by simp)
  simp [wops_cons]
  refine clone_29 c v σ1 (hsl.grow hg1') (by omega) _ fun v2 σ2 hown hg2 => ?_
  have hb2 : σ2.get σ.n = some (.cells (encV x) 33 false) := hg2.get hb1 (by have := hg1.n; simp at this; omega)
  have hn1 : σ.n + 1 ≤ σ1.n := by have := hg1.n; simpa using this
  have hg2' := hg1'.trans hg2
  by_cases hfo : ∃ hk : k < c.length, c[k].at_ = x.at_
  · obtain ⟨hk, he⟩ := hfo
    rw [decide_eq_true ⟨hk, he⟩]
    rcases hown with ⟨rfl, rfl⟩ | ⟨i, cap, rfl, hbi, hin, hgi, hcap⟩
    · simp at hk
    · have hki : (k : Int) < c.length := by omega
      have hlen : k * 3 + 3 ≤ (c.flatMap encV).length := by rw [enc_length encV (n := 3) (fun _ => rfl)]; omega
      have hset := enc_set encV (n := 3) (fun _ => rfl) c k x hk
      simp only [encV] at hset hb2
      simp [wops_cons, hgi, hk, hb2, hlen, -List.length_flatMap, -List.append_assoc, -List.cons_append]
      rw [hset]
      rw [hf.put_set hs hk he] at h
      have hl : (c.set k x).length = c.length := by simp
      refine h _ _ (.inr ⟨i, cap, by rw [hl], by omega, by simpa using hin, by simp, ?_⟩) (hg2'.put (by omega) _)
      rcases hcap with rfl | ⟨rfl, rfl⟩
      · exact .inl rfl
      · simp at hk
  · rw [decide_eq_false hfo]
    simp only [encV] at hb2
    simp [wops_cons, hb2]
    rw [hf.put_ins hs (fun hk he => hfo ⟨hk, he⟩)] at h
    have hji : ∀ i off n c, v2 = .slice (some ⟨i, off, none⟩) n c → i ≠ σ2.n := by
      rintro i off n c rfl
      rcases hown with ⟨h0, _⟩ | ⟨i', cap, h0, _, h1, _⟩
      · cases h0
      · cases h0; omega
    refine ins_own_29 σ1.n c x k hf.le v2 _ (by simp; have := hg2.n; omega) (hown.grow ((Grow.refl σ2).alloc _)) σ2.n (by simp [encV]) hji (by omega) _ fun v3 σ3 ho3 hg3 => ?_
    simp [wops_cons]
    refine h _ _ (ho3.weaken (by omega)) (Grow.thenB (hg2'.alloc _) hg3 (by omega))
end Go.Sm
/- Versions by small numbers; chains made of them; rows of versions compared. -/
set_option linter.unusedVariables false
set_option linter.unusedSimpArgs false
namespace Go.Sm
open Go Go.Proofs
set_option maxRecDepth 100000
set_option maxHeartbeats 1000000
structure VV where
  at_ : Int
  v : Int
  gone : Bool
def encU (x : VV) : List Value := [.int .u8 x.at_, .int .u8 x.v, .bool x.gone]
def nameOf : Nat → ByteArray
  | 0 => ⟨#[]⟩
  | 1 => ⟨#[120]⟩
  | 2 => ⟨#[121, 121]⟩
  | _ => ⟨#[118, 97, 108, 117, 101]⟩
def VV.ok (x : VV) : Prop := (0 ≤ x.at_ ∧ x.at_ < 256) ∧ 0 ≤ x.v ∧ x.v < 256
def verOf (x : VV) : Ver := if x.gone then ⟨x.at_, ⟨#[]⟩, true⟩ else ⟨x.at_, nameOf (x.v.tmod 4).toNat, false⟩
theorem verOf_at (x : VV) : (verOf x).at_ = x.at_ := by unfold verOf; split <;> rfl
theorem vmake_spec (x : VV) (hx : x.ok) (σ : CSt) (Q : Out → CSt → Prop) (h : ∀ σ', Grow σ σ' → Q (.ret (.agg (encV (verOf x)).toArray) false) σ') : W E1 (.fn 54 #[.agg (encU x).toArray] none) σ Q := by
  rw [W_fn (fn := Tryz.f54) Tryz.func54 rfl rfl rfl]
  obtain ⟨⟨ha0, ha1⟩, hv0, hv1⟩ := hx
  have hw : IntKind.u64.wrap x.at_ = x.at_ := IntWalk.u64_in _ (by omega)
  have g0 : Grow σ ((σ.alloc (.cells (encU x) 78 false)).alloc (.cells [.int .u64 0, .string ⟨#[]⟩, .bool false] 33 false)) := ((Grow.refl σ).alloc _).alloc _
  simp [wops_cons, encU]
  cases hgo : x.gone
  · simp
    refine W_drawn (l := [0, 1, 2, 4, 5, 6, 3, 7, 8, 9, 10]) (b := #[0, 1, 3, 0, 0, 16, 48, 120, 248, 511, 1023]) (by kernel_rfl) (by kernel_rfl) (by kernel_rfl) ?_
    have h1 : 0 ≤ x.v.tmod 4 := Int.tmod_nonneg 4 hv0
    have h2 : x.v.tmod 4 < 4 := Int.tmod_lt_of_pos x.v (by decide)
    obtain ⟨k, hk⟩ : ∃ k : Nat, x.v.tmod 4 = k := ⟨(x.v.tmod 4).toNat, by omega⟩
    have h4 : k < 4 := by omega
    have fin := fun g => h _ (((g0.alloc (.cells [.string ⟨#[]⟩, .string ⟨#[120]⟩, .string ⟨#[121, 121]⟩, .string ⟨#[118, 97, 108, 117, 101]⟩] 9 false))).put (i := σ.n + 1) (by omega) g)
    simp only [verOf, hgo, hk, Int.toNat_natCast, encV] at fin
    match k, hk, h4 with
    | 0, hk, _ =>
      have := fin (.cells [.int .u64 x.at_, .string ⟨#[]⟩, .bool false] 33 false)
      simpa [dopsR_cons, opAt, isEff, again, befBits, isRead, Nat.add_assoc, hk, hw, encU, nameOf, hgo] using this
    | 1, hk, _ =>
      have := fin (.cells [.int .u64 x.at_, .string ⟨#[120]⟩, .bool false] 33 false)
      simpa [dopsR_cons, opAt, isEff, again, befBits, isRead, Nat.add_assoc, hk, hw, encU, nameOf, hgo] using this
    | 2, hk, _ =>
      have := fin (.cells [.int .u64 x.at_, .string ⟨#[121, 121]⟩, .bool false] 33 false)
      simpa [dopsR_cons, opAt, isEff, again, befBits, isRead, Nat.add_assoc, hk, hw, encU, nameOf, hgo] using this
    | 3, hk, _ =>
      have := fin (.cells [.int .u64 x.at_, .string ⟨#[118, 97, 108, 117, 101]⟩, .bool false] 33 false)
      simpa [dopsR_cons, opAt, isEff, again, befBits, isRead, Nat.add_assoc, hk, hw, encU, nameOf, hgo] using this
  · have := h _ (g0.put (i := σ.n + 1) (by omega) (.cells [.int .u64 x.at_, .string ⟨#[]⟩, .bool true] 33 false))
    simp only [verOf, hgo, encV] at this
    simpa [wops_cons, hgo, hw, encU] using this
theorem make_len (l : List Ver) : (makeL l).length ≤ l.length := by
  refine rev_ind (P := fun l => (makeL l).length ≤ l.length) (by simp [makeL]) (fun l v ih => ?_) l
  rw [makeL_snoc]
  have h1 : (putL (makeL l) v).length ≤ (makeL l).length + 1 := by
    unfold putL
    have a := List.length_filter_le (fun u : Ver => decide (u.at_ < v.at_)) (makeL l)
    have : ∀ c : List Ver, (c.filter fun u => decide (u.at_ < v.at_)).length + (c.filter fun u => decide (v.at_ < u.at_)).length ≤ c.length := by
      intro c
      induction c with
      | nil => simp
      | cons x c ih =>
        simp only [List.filter_cons]
        by_cases h1 : x.at_ < v.at_
        · have h2 : ¬ v.at_ < x.at_ := by omega
          simp [h1, h2]; omega
        · by_cases h2 : v.at_ < x.at_
          · simp [h1, h2]; omega
          · simp [h1, h2]; omega
    have := this (makeL l)
    simp
    omega
  simp
  omega
end Go.Sm
/- Plain: the chain by definition. -/
set_option linter.unusedVariables false
set_option linter.unusedSimpArgs false
namespace Go.Sm
open Go Go.Proofs
set_option maxRecDepth 100000
set_option maxHeartbeats 2000000
def encO (o : Option Ver) : List Value := match o with | some v => encV v | none => [.int .u64 0, .string ⟨#[]⟩, .bool false]
def partL (L : List Ver) (k : Nat) : List Ver := (List.range k).filterMap fun t : Nat => lastAt L t
theorem partL_succ (L : List Ver) (k : Nat) : partL L (k + 1) = partL L k ++ (lastAt L k).toList := by
  simp only [partL, List.range_succ, List.filterMap_append]
  cases h : lastAt L (k : Int) <;> simp [h]
theorem partL_len (L : List Ver) (k : Nat) : (partL L k).length ≤ k := by
  have := List.length_filterMap_le (fun t : Nat => lastAt L t) (List.range k)
  simpa [partL] using this
theorem plain_spec (l : List VV) (hok : ∀ x ∈ l, x.ok) (v : Value) (σ : CSt) (hsl : Sl σ 78 3 encU v l) (hbig : l.length < 2 ^ 38) (Q : Out → CSt → Prop)
    (h : ∀ (v' : Value) (σ' : CSt), Own σ.n σ' 33 encV v' (plainL (l.map verOf)) → Grow σ σ' → Q (.ret v' false) σ') : W E1 (.fn 34 #[v] none) σ Q := by
  rw [W_fn (fn := Tryz.f34) Tryz.func34 rfl rfl rfl]
  obtain ⟨p, c, rfl⟩ := hsl.form
  simp [wops_cons]
  refine W_loop_inv (fun n a σ' => ∃ tm k v', a = ⟨tm, 33, [], false⟩ ∧ tm.get 0 = some (.slice p l.length c) ∧ tm.get 3 = some v' ∧ tm.get 9 = some (.int .i64 (k : Nat)) ∧ k ≤ 256 ∧ n = 256 - k ∧ Own σ.n σ' 33 encV v' (partL (l.map verOf) k) ∧ Grow σ σ') ?_ 256 _ _ ?_
  · rintro n a σ1 ⟨tm, k, v1, rfl, h0, h3, h9, hk, hn, hown, hgr⟩
    by_cases hlt : k < 256
    · have hk2 : (k : Int) < 256 := by omega
      have hw := i64n1 k (by omega)
      simp [wops_cons, h0, h3, h9, hk2]
      refine W_loop_inv (fun n2 a σ2 => ∃ tm j, a = ⟨tm, 33, [], false⟩ ∧ tm.get 0 = some (.slice p l.length c) ∧ tm.get 3 = some v1 ∧ tm.get 9 = some (.int .i64 (k : Nat)) ∧ tm.get 4 = some (.int .i64 (k : Nat)) ∧ tm.get 5 = some (.pointer (some ⟨σ1.n, 0, none⟩)) ∧
        tm.get 6 = some (.bool (lastAt ((l.map verOf).take j) k).isSome) ∧ tm.get 12 = some (.slice p l.length c) ∧ tm.get 13 = some (.int .i64 l.length) ∧ tm.get 14 = some (.int .i64 (j : Nat)) ∧ j ≤ l.length ∧ n2 = l.length - j ∧ σ2.get σ1.n = some (.cells (encO (lastAt ((l.map verOf).take j) k)) 33 false) ∧ σ1.n < σ2.n ∧ Grow σ1 σ2) ?_ l.length _ _ ?_
      · rintro n2 a σ2 ⟨tm, j, rfl, h0, h3, h9, h4, h5, h6, h12, h13, h14, hj, hn2, hlast, hln, hg2⟩
        by_cases hjl : j < l.length
        · obtain ⟨i, off, row, ro, rfl, hg, hin, hrow, hle⟩ := hsl.at hjl
          have hgi := (hgr.trans hg2).get hg hin
          have hld := row_get (enc := encU) (fun _ => rfl) hrow j hjl
          have hl1 := row_le hle j hjl
          have hw2 := i64n1 j (by omega)
          have hx := hok _ (List.getElem_mem hjl)
          have hwc : IntKind.i64.wrap l[j].at_ = l[j].at_ := IntWalk.i64_in _ (by have := hx.1; omega)
          have hne : ¬ (σ1.n = σ2.n) := by omega
          have hsn : (l.map verOf).take (j + 1) = (l.map verOf).take j ++ [verOf l[j]] := by rw [List.take_succ_eq_append_getElem (by simpa using hjl)]; simp
          simp [wops_cons, h0, h3, h9, h4, h5, h6, h12, h13, h14, hjl, hgi, hld, hl1]
          have hgw : Grow σ2 ((σ2.alloc (.cells [.int .u8 0, .int .u8 0, .bool false] 78 false)).put σ2.n (.cells [.int .u8 l[j].at_, .int .u8 l[j].v, .bool l[j].gone] 78 false)) := ((Grow.refl σ2).alloc _).put (Nat.le_refl _) _
          by_cases hat : l[j].at_ = k
          · simp [wops_cons, encU, h0, h3, h9, h4, h5, h6, h12, h13, h14, hwc, hat, i64n k (by omega)]
            have hv := vmake_spec l[j] hx
            simp only [encU, hat] at hv
            simp only [hat] at hgw
            refine hv _ _ fun σ3 hg3 => ?_
            have hg4 := hgw.trans hg3
            have hl3 := hg4.get hlast hln
            have hfin : lastAt ((l.map verOf).take (j + 1)) k = some (verOf l[j]) := by rw [hsn, lastAt_snoc, if_pos (by rw [verOf_at]; exact hat)]
            have hcl : (encO (lastAt ((l.map verOf).take j) k)).length = 3 := by cases lastAt ((l.map verOf).take j) k <;> rfl
            simp [wops_cons, h0, h3, h9, h4, h5, h6, h12, h13, h14, hl3, hw2, encV, hcl]
            refine ⟨_, ?_, j + 1, ?_, rfl, by omega, rfl, ?_, ?_, ?_⟩
            · omega
            · rw [hfin]; rfl
            · rw [hfin, List.drop_of_length_le (by omega)]; rfl
            · have := hg4.n; omega
            · exact (hg2.trans hg4).put (by omega) _
          · have hfin : lastAt ((l.map verOf).take (j + 1)) k = lastAt ((l.map verOf).take j) k := by rw [hsn, lastAt_snoc, if_neg (by rw [verOf_at]; exact hat)]
            simp [wops_cons, encU, h0, h3, h9, h4, h5, h6, h12, h13, h14, hwc, hat, hw2]
            refine ⟨_, ?_, j + 1, by rw [hfin], rfl, by omega, rfl, ?_, by omega, hg2.trans hgw⟩
            · omega
            · simp [hne, hfin, hlast]
        · have hjl' : j = l.length := by omega
          subst hjl'
          have hall : (l.map verOf).take l.length = l.map verOf := List.take_of_length_le (by simp)
          rw [hall] at h6 hlast
          have hpl := partL_succ (l.map verOf) k
          simp [wops_cons, h0, h3, h9, h4, h5, h6, h12, h13, h14]
          cases hla : lastAt (l.map verOf) (k : Int) with
          | none =>
            rw [hla] at hpl hlast h6
            simp [wops_cons, h0, h3, h9, hw]
            refine ⟨_, ?_, k + 1, rfl, by omega, rfl, ?_, hgr.trans hg2⟩
            · omega
            · rw [hpl]; simpa using hown.grow hg2
          | some w =>
            rw [hla] at hpl hlast h6
            simp only [encO, encV] at hlast
            simp [wops_cons, h3, h5, hlast]
            have hb := partL_len (l.map verOf) k
            have hsx : Sl (σ2.alloc (.cells (encV w) 33 false)) 33 3 encV (.slice (some ⟨σ2.n, 0, none⟩) 1 1) [w] := Sl.all (l := [w]) (ro := false) (fun _ => rfl) (by simp) (by simp) (.inr ⟨by simp, by simp [openCap]⟩)
            obtain ⟨v', σ', he, hown', hg'⟩ := append_own (P := Tryz.prog) (ts := #[28, 28]) (e := 33) (sz := 3) (enc := encV) (l := partL (l.map verOf) k) (m := [w]) (b := σ.n) ef28 (by simp) (fun _ => rfl) (fun _ => rfl) rfl (by decide) (by decide) rfl ((hown.grow hg2).grow ((Grow.refl σ2).alloc _)) (by have := hgr.n; have := hg2.n; simp; omega) hsx (by simp; omega) (by omega)
            simp only [encV] at he
            rw [he]
            simp [wops_cons, h0, h9, hw]
            refine ⟨_, ?_, k + 1, rfl, by omega, rfl, ?_, ?_⟩
            · omega
            · rw [hpl]; exact hown'
            · exact Grow.thenB ((hgr.trans hg2).alloc _) hg' (Nat.le_refl _)
      · refine ⟨_, 0, rfl, ?_⟩
        simp [h0, h3, h9]
        have e0 : lastAt ([] : List Ver) (k : Int) = none := rfl
        rw [e0]
        exact ⟨rfl, rfl, (Grow.refl σ1).alloc _⟩
    · have hk256 : k = 256 := by omega
      subst hk256
      have := h v1 σ1 hown hgr
      simpa [wops_cons, h3, h9] using this
  · refine ⟨_, 0, .slice none 0 0, rfl, ?_⟩
    simp
    exact ⟨Own.nil, Grow.refl σ⟩
end Go.Sm
/- Sorting strings: the comparison, insertion sort. -/
set_option linter.unusedVariables false
set_option linter.unusedSimpArgs false
namespace Go.Sm
open Go Go.Proofs
set_option maxRecDepth 100000
set_option maxHeartbeats 2000000
def encS (s : ByteArray) : List Value := [.string s]
theorem lenS (s : ByteArray) : (encS s).length = 1 := rfl
theorem cokS (s : ByteArray) : cokL (encS s) = true := rfl
/-- A row of strings that is sorted in place. -/
def SV (σ : CSt) (i : Nat) (pre post : List Value) (d : Array ByteArray) : Prop := σ.get i = some (.cells (rowD encS pre post d) 9 false) ∧ i < σ.n
theorem SV.put {σ : CSt} {i : Nat} {pre post : List Value} {d : Array ByteArray} (h : SV σ i pre post d) (d' : Array ByteArray) : SV (σ.put i (.cells (rowD encS pre post d') 9 false)) i pre post d' := ⟨by simp, h.2⟩
theorem rowS_get {pre post : List Value} {d : Array ByteArray} {j : Nat} (hj : j < d.size) : (rowD encS pre post d)[pre.length + j]? = some (.string (aget d j)) := rowD_get (v := Value.string) (fun _ => rfl) hj
theorem rowS_st {pre post : List Value} {d : Array ByteArray} {j : Nat} (hj : j < d.size) (x : ByteArray) : st (rowD encS pre post d) (pre.length + j) [.string x] = some (rowD encS pre post (aset d j x)) := rowD_st1 (v := Value.string) (fun _ => rfl) hj x
theorem isNaN_s (x : ByteArray) (σ : CSt) (Q : Out → CSt → Prop) (h : Q (.ret (.bool false) false) σ) : W E1 (.fn 135 #[.string x] none) σ Q := by
  rw [W_fn (fn := Tryz.f135) Tryz.func135 rfl rfl rfl]
  simpa [wops_cons] using h
theorem less_s (x y : ByteArray) (σ : CSt) (Q : Out → CSt → Prop) (h : Q (.ret (.bool (klt x y)) false) σ) : W E1 (.fn 114 #[.string x, .string y] none) σ Q := by
  rw [W_fn (fn := Tryz.f114) Tryz.func114 rfl rfl rfl]
  simp [wops_cons]
  refine isNaN_s _ _ _ ?_
  simpa [wops_cons, wops_if', dstOf] using h
theorem insSort_s (d : Array ByteArray) (i cap : Nat) (pre post : List Value) (a b : Nat) (σ : CSt) (hv : SV σ i pre post d) (hb : b ≤ d.size) (hbig : d.size < 2 ^ 40) (ha : a ≤ b) (Q : Out → CSt → Prop)
    (h : ∀ σ', SV σ' i pre post (Sort.insertionSort klt d a b) → But i σ σ' → Q (.ret (.tuple #[]) false) σ') :
    W E1 (.fn 108 #[.slice (some ⟨i, pre.length, none⟩) d.size cap, .int .i64 a, .int .i64 b] none) σ Q := by
  rw [W_fn (fn := Tryz.f108) Tryz.func108 rfl rfl rfl]
  have hwa := i64n1 a (by omega)
  simp [wops_cons, hwa]
  refine W_loop_inv (fun n A σ' => ∃ tm k d', A = ⟨tm, 49, [], false⟩ ∧ tm.get 0 = some (.slice (some ⟨i, pre.length, none⟩) d.size cap) ∧ tm.get 1 = some (.int .i64 a) ∧ tm.get 2 = some (.int .i64 b) ∧ tm.get 6 = some (.int .i64 (k : Nat)) ∧ a ≤ k ∧ n = b - k ∧ d'.size = d.size ∧ Sort.insOuter klt a b k d' = Sort.insertionSort klt d a b ∧ SV σ' i pre post d' ∧ But i σ σ') ?_ (b - (a + 1)) _ _ ?_
  · rintro n A σ1 ⟨tm, k, d1, rfl, e0, e1, e2, e6, hak, hn, hsz, hfin, hv1, hg1⟩
    by_cases hkb : k < b
    · have hout : Sort.insOuter klt a b (k + 1) (Sort.insInner klt a k d1) = Sort.insertionSort klt d a b := by
        rw [← hfin]
        conv => rhs; rw [Sort.insOuter]
        rw [if_pos hkb]
      simp [wops_cons, e0, e1, e2, e6, hkb]
      refine W_loop_inv (fun n' A σ' => ∃ tm j d', A = ⟨tm, 49, [], false⟩ ∧ tm.get 0 = some (.slice (some ⟨i, pre.length, none⟩) d.size cap) ∧ tm.get 1 = some (.int .i64 a) ∧ tm.get 2 = some (.int .i64 b) ∧ tm.get 6 = some (.int .i64 (k : Nat)) ∧ tm.get 7 = some (.int .i64 (j : Nat)) ∧ a ≤ j ∧ j ≤ k ∧ n' = j ∧ d'.size = d.size ∧ Sort.insInner klt a j d' = Sort.insInner klt a k d1 ∧ SV σ' i pre post d' ∧ But i σ σ') ?_ k _ _ ?_
      · rintro n' A σ2 ⟨tm, j, d2, rfl, e0, e1, e2, e6, e7, haj, hjk, hn', hsz2, hin, hv2, hg2⟩
        have hwk := i64n1 k (by omega)
        have hstop : (¬ a < j ∨ ∃ j', j = j' + 1 ∧ klt (aget d2 j) (aget d2 j') = false) → d2 = Sort.insInner klt a k d1 := by
          intro hh
          rw [← hin]
          cases j with
          | zero => rfl
          | succ j =>
            rw [Sort.insInner, if_neg]
            rcases hh with h1 | ⟨j', h1, h2⟩
            · simp; omega
            · cases h1
              unfold aget at h2
              simp [h2]
        by_cases hja : a < j
        · obtain ⟨j, rfl⟩ : ∃ j', j = j' + 1 := ⟨j - 1, by omega⟩
          have hj1 : j + 1 < d2.size := by omega
          have hj0 : j < d2.size := by omega
          have hj1' : j + 1 < d.size := by omega
          have hj0' : j < d.size := by omega
          have hwj := i64n j (by omega)
          have hr1 := rowS_get (pre := pre) (post := post) hj1
          have hr0 := rowS_get (pre := pre) (post := post) hj0
          have hja' : (a : Int) < (j : Int) + 1 := by omega
          have hi1 : (j : Int) + 1 < d.size := by omega
          have hi0 : (0 : Int) ≤ (j : Int) + 1 := by omega
          have hgi := hv2.1
          simp [wops_cons, e0, e1, e2, e6, e7, hja, hja', -Nat.not_lt]
          refine W_calm (by kernel_rfl) ?_
          simp [dops_cons, dops_if, dstOf, e0, e1, e2, e6, e7, hja, hja', hj1', hj0', hi1, hi0, hwj, hgi, hr1, hr0]
          refine less_s _ _ _ _ ?_
          cases hlt : klt (aget d2 (j + 1)) (aget d2 j)
          · have := hstop (.inr ⟨j, rfl, hlt⟩)
            subst this
            simp [wops_cons, dops_cons, dops_if, dstOf, e0, e1, e2, e6, e7, hlt, hwk]
            exact ⟨_, by omega, k + 1, rfl, by omega, rfl, _, hsz2, hout, hv2, hg2⟩
          · have hst1 := rowS_st (pre := pre) (post := post) hj1 (aget d2 j)
            have hst0 := rowS_st (pre := pre) (post := post) (d := aset d2 (j + 1) (aget d2 j)) (j := j) (by simpa using hj0) (aget d2 (j + 1))
            simp [wops_cons, dops_cons, dops_if, dstOf, e0, e1, e2, e6, e7, hlt, -st_eq, -ld_eq]
            refine W_calm (by kernel_rfl) ?_
            simp [wops_cons, dops_cons, dops_if, dstOf, e0, e1, e2, e6, e7, hj1', hj0', hi1, hi0, hwj, hgi, hr1, hr0, hst1, hst0, -st_eq, -ld_eq]
            rw [← swp_aset]
            refine ⟨_, ?_, j, rfl, by omega, by omega, rfl, _, ?_, ?_, (hv2.put _).put _, (hg2.putL _).putL _⟩
            · omega
            · simpa using hsz2
            · rw [← hin, Sort.insInner, if_pos]
              unfold aget at hlt
              simp [hlt]; omega
        · have := hstop (.inl hja)
          subst this
          have hja' : ¬ (a : Int) < j := by omega
          simp [wops_cons, e0, e1, e2, e6, e7, hja, hja', -Nat.not_lt]
          refine W_calm (by kernel_rfl) ?_
          simp [wops_cons, dops_cons, dops_if, dstOf, e0, e1, e2, e6, e7, hja, hja', hwk, -Nat.not_lt]
          exact ⟨_, by omega, k + 1, rfl, by omega, rfl, _, hsz2, hout, hv2, hg2⟩
      · refine ⟨_, k, d1, rfl, ?_⟩
        simp [e0, e1, e2, e6]
        exact ⟨hak, hsz, hv1, hg1⟩
    · have : Sort.insOuter klt a b k d1 = d1 := by rw [Sort.insOuter, if_neg hkb]
      rw [this] at hfin
      subst hfin
      have hkb' : ¬ (k : Int) < b := by omega
      simp [wops_cons, e0, e1, e2, e6, hkb, -Nat.not_lt]
      exact h σ1 hv1 hg1
  · refine ⟨_, a + 1, d, rfl, ?_⟩
    simp
    exact ⟨rfl, hv, But.refl i σ⟩
theorem insSort_n (n0 : Nat) (d : Array ByteArray) (hn0 : d.size = n0) (i cap : Nat) (pre post : List Value) (a b : Nat) (σ : CSt) (hv : SV σ i pre post d) (hb : b ≤ n0) (hbig : n0 < 2 ^ 40) (ha : a ≤ b) (Q : Out → CSt → Prop)
    (h : ∀ σ', SV σ' i pre post (Sort.insertionSort klt d a b) → But i σ σ' → Q (.ret (.tuple #[]) false) σ') :
    W E1 (.fn 108 #[.slice (some ⟨i, pre.length, none⟩) n0 cap, .int .i64 a, .int .i64 b] none) σ Q := by
  subst hn0
  exact insSort_s d i cap pre post a b σ hv hb hbig ha Q h
end Go.Sm
/- Sorting strings: the heap. -/
set_option linter.unusedVariables false
set_option linter.unusedSimpArgs false
namespace Go.Sm
open Go Go.Proofs
set_option maxRecDepth 100000
set_option maxHeartbeats 4000000
theorem sift_unf {lt : ByteArray → ByteArray → Bool} {hi first r c ch cc : Nat} {d : Array ByteArray} (hc : c = 2 * r + 1) (hlt : c < hi) (hch : (ch = c ∧ ¬ (c + 1 < hi ∧ lt (aget d (first + c)) (aget d (first + c + 1)) = true)) ∨ (ch = c + 1 ∧ c + 1 < hi ∧ lt (aget d (first + c)) (aget d (first + c + 1)) = true)) (hcc : cc = first + ch) :
    Sort.siftDown lt hi first r d = if lt (aget d (first + r)) (aget d cc) = true then Sort.siftDown lt hi first ch (Sort.swp d (first + r) cc) else d := by
  subst hc; subst hcc
  conv => lhs; rw [Sort.siftDown]
  rw [dif_neg (by omega)]
  unfold aget at hch ⊢
  rcases hch with ⟨rfl, h⟩ | ⟨rfl, h1, h2⟩
  · rw [if_neg (by simpa using h)]
    cases lt d[first + r]! d[first + (2 * r + 1)]! <;> simp
  · have h2' : lt d[first + (2 * r + 1)]! d[first + (2 * r + 1) + 1]! = true := h2
    have e : 2 * r + 1 + 1 = 2 * r + 2 := rfl
    rw [if_pos (by simp [h2']; omega)]
    rw [dif_pos (by omega), e]
    cases lt d[first + r]! d[first + (2 * r + 2)]! <;> simp
theorem sift_s (n0 : Nat) (d : Array ByteArray) (hn0 : d.size = n0) (i cap : Nat) (pre post : List Value) (lo hi first : Nat) (σ : CSt) (hv : SV σ i pre post d) (hb : first + hi ≤ n0) (hbig : n0 < 2 ^ 40) (hlo : lo ≤ n0) (Q : Out → CSt → Prop)
    (h : ∀ σ', SV σ' i pre post (Sort.siftDown klt hi first lo d) → But i σ σ' → Q (.ret (.tuple #[]) false) σ') :
    W E1 (.fn 130 #[.slice (some ⟨i, pre.length, none⟩) n0 cap, .int .i64 lo, .int .i64 hi, .int .i64 first] none) σ Q := by
  rw [W_fn (fn := Tryz.f130) Tryz.func130 rfl rfl rfl]
  simp [wops_cons]
  refine W_loop_inv (fun n A σ' => ∃ tm r d', A = ⟨tm, 76, [], false⟩ ∧ tm.get 0 = some (.slice (some ⟨i, pre.length, none⟩) n0 cap) ∧ tm.get 1 = some (.int .i64 lo) ∧ tm.get 2 = some (.int .i64 hi) ∧ tm.get 3 = some (.int .i64 first) ∧ tm.get 8 = some (.int .i64 (r : Nat)) ∧ r ≤ n0 ∧ n = 2 ^ 40 - r ∧ Sort.siftDown klt hi first r d' = Sort.siftDown klt hi first lo d ∧ d'.size = n0 ∧ SV σ' i pre post d' ∧ But i σ σ') ?_ (2 ^ 40 - lo) _ _ ?_
  · rintro n A σ1 ⟨tm, r, d1, rfl, e0, e1, e2, e3, e8, hr, rfl, hfin, hsz, hv1, hg1⟩
    obtain ⟨c, hc⟩ : ∃ c, c = 2 * r + 1 := ⟨_, rfl⟩
    have hw2 : IntKind.i64.wrap (2 * (r : Int)) = 2 * (r : Int) := IntWalk.i64_in _ (by omega)
    have hwc : IntKind.i64.wrap (2 * (r : Int) + 1) = (c : Int) := by rw [IntWalk.i64_in _ (by omega)]; omega
    by_cases hch : c < hi
    · have hch' : ¬ (hi : Int) ≤ c := by omega
      have hwc1 : IntKind.i64.wrap ((c : Int) + 1) = ((c + 1 : Nat) : Int) := i64n1 c (by omega)
      obtain ⟨c1, hc1⟩ : ∃ c1, c1 = c + 1 := ⟨_, rfl⟩
      rw [← hc1] at hwc1
      obtain ⟨p, hp⟩ : ∃ p, p = first + r := ⟨_, rfl⟩
      obtain ⟨q, hq⟩ : ∃ q, q = first + c := ⟨_, rfl⟩
      obtain ⟨q1, hq1⟩ : ∃ q1, q1 = q + 1 := ⟨_, rfl⟩
      have hwp : IntKind.i64.wrap ((first : Int) + r) = (p : Int) := by rw [IntWalk.i64_in _ (by omega)]; omega
      have hwq : IntKind.i64.wrap ((first : Int) + c) = (q : Int) := by rw [IntWalk.i64_in _ (by omega)]; omega
      have hwqc : IntKind.i64.wrap ((first : Int) + c1) = (q1 : Int) := by rw [IntWalk.i64_in _ (by omega)]; omega
      have hwq1 : IntKind.i64.wrap ((q : Int) + 1) = (q1 : Int) := by rw [IntWalk.i64_in _ (by omega)]; omega
      have hgi := hv1.1
      have hpd : p < n0 := by omega
      have hqd : q < n0 := by omega
      have hunf : ∀ ch cc, cc = first + ch → ((ch = c ∧ ¬ (c + 1 < hi ∧ klt (aget d1 (first + c)) (aget d1 (first + c + 1)) = true)) ∨ (ch = c + 1 ∧ c + 1 < hi ∧ klt (aget d1 (first + c)) (aget d1 (first + c + 1)) = true)) → Sort.siftDown klt hi first r d1 = if klt (aget d1 p) (aget d1 cc) = true then Sort.siftDown klt hi first ch (Sort.swp d1 p cc) else d1 := fun ch cc h1 h2 => by rw [hp]; exact sift_unf hc hch h2 h1
      rw [← hq, ← hq1] at hunf
      by_cases hc1h : c1 < hi
      · have hq1d : q1 < n0 := by omega
        have hc1h' : (c1 : Int) < hi := by omega
        have hrq := rowS_get (pre := pre) (post := post) (d := d1) (j := q) (by omega)
        have hrq1 := rowS_get (pre := pre) (post := post) (d := d1) (j := q1) (by omega)
        simp [wops_cons, dops_cons, dops_if, dstOf, -st_eq, -ld_eq, -Nat.not_lt, e0, e1, e2, e3, e8, hw2, hwc, hch, hch']
        refine W_calm (by kernel_rfl) ?_
        simp [wops_cons, dops_cons, dops_if, dstOf, -st_eq, -ld_eq, -Nat.not_lt, e0, e1, e2, e3, e8, hwc1, hc1h, hc1h', hwq, hwq1, hqd, hq1d, hgi, hrq, hrq1]
        refine less_s _ _ _ _ ?_
        cases hl1 : klt (aget d1 q) (aget d1 q1)
        ·
          have hrp := rowS_get (pre := pre) (post := post) (d := d1) (j := p) (by omega)
          have hrch := rowS_get (pre := pre) (post := post) (d := d1) (j := q) (by omega)
          try simp [wops_cons, dops_cons, dops_if, dstOf, -st_eq, -ld_eq, -Nat.not_lt, e0, e1, e2, e3, e8, hwc1]
          refine W_calm (by kernel_rfl) ?_
          simp [wops_cons, dops_cons, dops_if, dstOf, -st_eq, -ld_eq, -Nat.not_lt, e0, e1, e2, e3, e8, hwp, hwq, hwq1, hpd, hqd, hqd, hgi, hrp, hrch, hwc1]
          refine less_s _ _ _ _ ?_
          cases hl2 : klt (aget d1 p) (aget d1 q)
          · simp [wops_cons, dops_cons, dops_if, dstOf, -st_eq, -ld_eq, -Nat.not_lt, e0, e1, e2, e3, e8, hl2]
            refine h σ1 ?_ hg1
            rw [← hfin, hunf c q hq (.inl ⟨rfl, by simp [hl1]⟩), hl2]
            simpa using hv1
          ·
            have hst1 := rowS_st (pre := pre) (post := post) (d := d1) (j := p) (by first | omega | (simp; omega)) (aget d1 q)
            have hst2 := rowS_st (pre := pre) (post := post) (d := aset d1 p (aget d1 q)) (j := q) (by first | omega | (simp; omega)) (aget d1 p)
            simp [wops_cons, dops_cons, dops_if, dstOf, -st_eq, -ld_eq, -Nat.not_lt, e0, e1, e2, e3, e8, hl2]
            refine W_calm (by kernel_rfl) ?_
            simp [wops_cons, dops_cons, dops_if, dstOf, -st_eq, -ld_eq, -Nat.not_lt, e0, e1, e2, e3, e8, hwp, hwq, hwq1, hpd, hqd, hqd, hgi, hrp, hrch, hst1, hst2, hwc1]
            rw [← swp_aset]
            refine ⟨_, ?_, c, rfl, by omega, rfl, _, ?_, by simpa using hsz, (hv1.put _).put _, (hg1.putL _).putL _⟩
            · omega
            · rw [← hfin, hunf c q hq (.inl ⟨rfl, by simp [hl1]⟩), hl2]
              simp
        ·
          have hrp := rowS_get (pre := pre) (post := post) (d := d1) (j := p) (by omega)
          have hrch := rowS_get (pre := pre) (post := post) (d := d1) (j := q1) (by omega)
          try simp [wops_cons, dops_cons, dops_if, dstOf, -st_eq, -ld_eq, -Nat.not_lt, e0, e1, e2, e3, e8, hwc1]
          refine W_calm (by kernel_rfl) ?_
          simp [wops_cons, dops_cons, dops_if, dstOf, -st_eq, -ld_eq, -Nat.not_lt, e0, e1, e2, e3, e8, hwp, hwq, hwq1, hpd, hqd, hq1d, hwqc, hgi, hrp, hrch, hwc1]
          refine less_s _ _ _ _ ?_
          cases hl2 : klt (aget d1 p) (aget d1 q1)
          · simp [wops_cons, dops_cons, dops_if, dstOf, -st_eq, -ld_eq, -Nat.not_lt, e0, e1, e2, e3, e8, hl2]
            refine h σ1 ?_ hg1
            rw [← hfin, hunf c1 q1 (by omega) (.inr ⟨hc1, by omega, hl1⟩), hl2]
            simpa using hv1
          ·
            have hst1 := rowS_st (pre := pre) (post := post) (d := d1) (j := p) (by first | omega | (simp; omega)) (aget d1 q1)
            have hst2 := rowS_st (pre := pre) (post := post) (d := aset d1 p (aget d1 q1)) (j := q1) (by first | omega | (simp; omega)) (aget d1 p)
            simp [wops_cons, dops_cons, dops_if, dstOf, -st_eq, -ld_eq, -Nat.not_lt, e0, e1, e2, e3, e8, hl2]
            refine W_calm (by kernel_rfl) ?_
            simp [wops_cons, dops_cons, dops_if, dstOf, -st_eq, -ld_eq, -Nat.not_lt, e0, e1, e2, e3, e8, hwp, hwq, hwq1, hpd, hqd, hq1d, hwqc, hgi, hrp, hrch, hst1, hst2, hwc1]
            rw [← swp_aset]
            refine ⟨_, ?_, c1, rfl, by omega, rfl, _, ?_, by simpa using hsz, (hv1.put _).put _, (hg1.putL _).putL _⟩
            · omega
            · rw [← hfin, hunf c1 q1 (by omega) (.inr ⟨hc1, by omega, hl1⟩), hl2]
              simp
      · have hc1h' : ¬ (c1 : Int) < hi := by omega
        simp [wops_cons, dops_cons, dops_if, dstOf, -st_eq, -ld_eq, -Nat.not_lt, e0, e1, e2, e3, e8, hw2, hwc, hch, hch']
        refine W_calm (by kernel_rfl) ?_
        simp [wops_cons, dops_cons, dops_if, dstOf, -st_eq, -ld_eq, -Nat.not_lt, e0, e1, e2, e3, e8, hwc1, hc1h, hc1h', hwq, hwq1, hqd, hgi]
        have hrp := rowS_get (pre := pre) (post := post) (d := d1) (j := p) (by omega)
        have hrch := rowS_get (pre := pre) (post := post) (d := d1) (j := q) (by omega)
        try simp [wops_cons, dops_cons, dops_if, dstOf, -st_eq, -ld_eq, -Nat.not_lt, e0, e1, e2, e3, e8, hwc1]
        refine W_calm (by kernel_rfl) ?_
        simp [wops_cons, dops_cons, dops_if, dstOf, -st_eq, -ld_eq, -Nat.not_lt, e0, e1, e2, e3, e8, hwp, hwq, hwq1, hpd, hqd, hqd, hgi, hrp, hrch, hwc1]
        refine less_s _ _ _ _ ?_
        cases hl2 : klt (aget d1 p) (aget d1 q)
        · simp [wops_cons, dops_cons, dops_if, dstOf, -st_eq, -ld_eq, -Nat.not_lt, e0, e1, e2, e3, e8, hl2]
          refine h σ1 ?_ hg1
          rw [← hfin, hunf c q hq (.inl ⟨rfl, by omega⟩), hl2]
          simpa using hv1
        ·
          have hst1 := rowS_st (pre := pre) (post := post) (d := d1) (j := p) (by first | omega | (simp; omega)) (aget d1 q)
          have hst2 := rowS_st (pre := pre) (post := post) (d := aset d1 p (aget d1 q)) (j := q) (by first | omega | (simp; omega)) (aget d1 p)
          simp [wops_cons, dops_cons, dops_if, dstOf, -st_eq, -ld_eq, -Nat.not_lt, e0, e1, e2, e3, e8, hl2]
          refine W_calm (by kernel_rfl) ?_
          simp [wops_cons, dops_cons, dops_if, dstOf, -st_eq, -ld_eq, -Nat.not_lt, e0, e1, e2, e3, e8, hwp, hwq, hwq1, hpd, hqd, hqd, hgi, hrp, hrch, hst1, hst2, hwc1]
          rw [← swp_aset]
          refine ⟨_, ?_, c, rfl, by omega, rfl, _, ?_, by simpa using hsz, (hv1.put _).put _, (hg1.putL _).putL _⟩
          · omega
          · rw [← hfin, hunf c q hq (.inl ⟨rfl, by omega⟩), hl2]
            simp
    · have hch' : (hi : Int) ≤ c := by omega
      have : Sort.siftDown klt hi first r d1 = d1 := by rw [Sort.siftDown, dif_pos (by omega)]
      rw [this] at hfin
      subst hfin
      simp [wops_cons, dops_cons, dops_if, dstOf, -st_eq, -ld_eq, -Nat.not_lt, e0, e1, e2, e3, e8, hw2, hwc, hch, hch']
      exact h σ1 hv1 hg1
  · refine ⟨_, lo, d, rfl, ?_⟩
    simp
    exact ⟨hlo, hn0, hv, But.refl i σ⟩
end Go.Sm
/- Sorting strings: the heap; the row turned round. -/
set_option linter.unusedVariables false
set_option linter.unusedSimpArgs false
namespace Go.Sm
open Go Go.Proofs
set_option maxRecDepth 100000
set_option maxHeartbeats 4000000
theorem sift_size (lt : ByteArray → ByteArray → Bool) (hi first r : Nat) (d : Array ByteArray) : (Sort.siftDown lt hi first r d).size = d.size := by
  fun_induction Sort.siftDown lt hi first r d <;> simp_all
theorem heap_s (n0 : Nat) (d : Array ByteArray) (hn0 : d.size = n0) (i cap : Nat) (pre post : List Value) (a b : Nat) (σ : CSt) (hv : SV σ i pre post d) (hb : b ≤ n0) (hbig : n0 < 2 ^ 40) (ha : a ≤ b) (Q : Out → CSt → Prop)
    (h : ∀ σ', SV σ' i pre post (Sort.heapSort klt d a b) → But i σ σ' → Q (.ret (.tuple #[]) false) σ') :
    W E1 (.fn 109 #[.slice (some ⟨i, pre.length, none⟩) n0 cap, .int .i64 a, .int .i64 b] none) σ Q := by
  rw [W_fn (fn := Tryz.f109) Tryz.func109 rfl rfl rfl]
  obtain ⟨hi, hhi⟩ : ∃ hi, hi = b - a := ⟨_, rfl⟩
  obtain ⟨K, hK⟩ : ∃ K, K = (hi - 1) / 2 + 1 := ⟨_, rfl⟩
  have hw1 : IntKind.i64.wrap ((b : Int) - a) = (hi : Int) := by rw [IntWalk.i64_in _ (by omega)]; omega
  have hw2 : IntKind.i64.wrap ((hi : Int) - 1) = (hi : Int) - 1 := IntWalk.i64_in _ (by omega)
  have hw3 : IntKind.i64.wrap (((hi : Int) - 1).tdiv 2) = (K : Int) - 1 := by
    rw [IntWalk.i64_quo' _ _ (by omega)]
    by_cases h0 : hi = 0
    · rw [hK, h0]; decide
    · have e : (hi : Int) - 1 = ((hi - 1 : Nat) : Int) := by omega
      rw [e, Int.tdiv_eq_ediv_of_nonneg (by omega)]
      omega
  have hpost : Sort.heapSort klt d a b = Sort.heapPop klt a hi (Sort.heapBuild klt hi a K d) := by rw [Sort.heapSort, hK, hhi]
  simp [wops_cons, dops_cons, dops_if, dstOf, -st_eq, -ld_eq, -Nat.not_lt, hw1, hw2, hw3]
  refine W_loop_inv (fun n A σ' => ∃ tm k d', A = ⟨tm, 56, [], false⟩ ∧ tm.get 0 = some (.slice (some ⟨i, pre.length, none⟩) n0 cap) ∧ tm.get 6 = some (.int .i64 (a : Nat)) ∧ tm.get 7 = some (.int .i64 0) ∧ tm.get 8 = some (.int .i64 (hi : Nat)) ∧ tm.get 9 = some (.int .i64 ((k : Nat) - 1)) ∧ k ≤ K ∧ n = k ∧ Sort.heapBuild klt hi a k d' = Sort.heapBuild klt hi a K d ∧ d'.size = n0 ∧ SV σ' i pre post d' ∧ But i σ σ') ?_ K _ _ ?_
  · rintro n A σ1 ⟨tm, k, d1, rfl, e0, e6, e7, e8, e9, hk, hn, hfin, hsz, hv1, hg1⟩
    cases k with
    | zero =>
      rw [Sort.heapBuild] at hfin
      subst hfin
      have hm : ¬ (0 : Int) ≤ -1 := by omega
      simp [wops_cons, dops_cons, dops_if, dstOf, -st_eq, -ld_eq, -Nat.not_lt, e0, e6, e7, e8, e9, hw2, hm]
      refine W_loop_inv (fun n A σ' => ∃ tm k d', A = ⟨tm, 56, [], false⟩ ∧ tm.get 0 = some (.slice (some ⟨i, pre.length, none⟩) n0 cap) ∧ tm.get 6 = some (.int .i64 (a : Nat)) ∧ tm.get 7 = some (.int .i64 0) ∧ tm.get 10 = some (.int .i64 ((k : Nat) - 1)) ∧ k ≤ hi ∧ n = k ∧ Sort.heapPop klt a k d' = Sort.heapSort klt d a b ∧ d'.size = n0 ∧ SV σ' i pre post d' ∧ But i σ σ') ?_ hi _ _ ?_
      · rintro n A σ2 ⟨tm, k, d2, rfl, e0, e6, e7, e10, hk, hn, hfin2, hsz2, hv2, hg2⟩
        cases k with
        | zero =>
          rw [Sort.heapPop] at hfin2
          subst hfin2
          simp [wops_cons, dops_cons, dops_if, dstOf, -st_eq, -ld_eq, -Nat.not_lt, e0, e6, e7, e10]
          exact h σ2 hv2 hg2
        | succ k =>
          have ek : ((k + 1 : Nat) : Int) - 1 = (k : Int) := by omega
          rw [ek] at e10
          obtain ⟨p, hp⟩ : ∃ p, p = a + k := ⟨_, rfl⟩
          have hwp : IntKind.i64.wrap ((a : Int) + k) = (p : Int) := by rw [IntWalk.i64_in _ (by omega)]; omega
          have hwk : IntKind.i64.wrap ((k : Int) - 1) = (k : Int) - 1 := IntWalk.i64_in _ (by omega)
          have hpd : p < n0 := by omega
          have had : a < n0 := by omega
          have hgi := hv2.1
          have hrp := rowS_get (pre := pre) (post := post) (d := d2) (j := p) (by omega)
          have hra := rowS_get (pre := pre) (post := post) (d := d2) (j := a) (by omega)
          have hst1 := rowS_st (pre := pre) (post := post) (d := d2) (j := a) (by first | omega | (simp; omega)) (aget d2 p)
          have hst2 := rowS_st (pre := pre) (post := post) (d := aset d2 a (aget d2 p)) (j := p) (by first | omega | (simp; omega)) (aget d2 a)
          simp [wops_cons, dops_cons, dops_if, dstOf, -st_eq, -ld_eq, -Nat.not_lt, e0, e6, e7, e10]
          refine W_calm (by kernel_rfl) ?_
          simp [wops_cons, dops_cons, dops_if, dstOf, -st_eq, -ld_eq, -Nat.not_lt, e0, e6, e7, e10, hwp, hpd, had, hgi, hrp, hra, hst1, hst2]
          rw [← swp_aset]
          have hsz3 : (Sort.swp d2 a p).size = n0 := by simp [hsz2]
          refine sift_s n0 (Sort.swp d2 a p) hsz3 i cap pre post 0 k a _ ((hv2.put (aset d2 a (aget d2 p))).put _) (by omega) (by omega) (by omega) _ fun σ3 hv3 hg3 => ?_
          simp [wops_cons, dops_cons, dops_if, dstOf, -st_eq, -ld_eq, -Nat.not_lt, e0, e6, e7, e10, hwk]
          refine ⟨k, by omega, k, rfl, by omega, rfl, _, ?_, ?_, hv3, ((hg2.putL _).putL _).trans hg3⟩
          · rw [← hfin2, Sort.heapPop, hp]
          · rw [sift_size]; exact hsz3
      · refine ⟨_, hi, Sort.heapBuild klt hi a K d, rfl, ?_⟩
        simp [e0, e6, e7]
        exact ⟨hpost.symm, hsz, hv1, hg1⟩
    | succ k =>
      have ek : ((k + 1 : Nat) : Int) - 1 = (k : Int) := by omega
      rw [ek] at e9
      have hwk : IntKind.i64.wrap ((k : Int) - 1) = (k : Int) - 1 := IntWalk.i64_in _ (by omega)
      simp [wops_cons, dops_cons, dops_if, dstOf, -st_eq, -ld_eq, -Nat.not_lt, e0, e6, e7, e8, e9]
      refine sift_s n0 d1 hsz i cap pre post k hi a _ hv1 (by omega) (by omega) (by omega) _ fun σ3 hv3 hg3 => ?_
      simp [wops_cons, dops_cons, dops_if, dstOf, -st_eq, -ld_eq, -Nat.not_lt, e0, e6, e7, e8, e9, hwk]
      refine ⟨k, by omega, k, rfl, by omega, rfl, _, ?_, ?_, hv3, hg1.trans hg3⟩
      · rw [← hfin, Sort.heapBuild]
      · rw [sift_size]; exact hsz
  · refine ⟨_, K, d, rfl, ?_⟩
    simp
    exact ⟨hn0, hv, But.refl i σ⟩
theorem rev_s (n0 : Nat) (d : Array ByteArray) (hn0 : d.size = n0) (i cap : Nat) (pre post : List Value) (a b : Nat) (σ : CSt) (hv : SV σ i pre post d) (hb : b ≤ n0) (hbig : n0 < 2 ^ 40) (ha : a < b) (Q : Out → CSt → Prop)
    (h : ∀ σ', SV σ' i pre post (Sort.reverseRange d a b) → But i σ σ' → Q (.ret (.tuple #[]) false) σ') :
    W E1 (.fn 112 #[.slice (some ⟨i, pre.length, none⟩) n0 cap, .int .i64 a, .int .i64 b] none) σ Q := by
  rw [W_fn (fn := Tryz.f112) Tryz.func112 rfl rfl rfl]
  have hw1 : IntKind.i64.wrap ((b : Int) - 1) = ((b - 1 : Nat) : Int) := i64p b (by omega) (by omega)
  simp [wops_cons, dops_cons, dops_if, dstOf, -st_eq, -ld_eq, -Nat.not_lt, hw1]
  refine W_loop_inv (fun n A σ' => ∃ tm x y d', A = ⟨tm, 32, [], false⟩ ∧ tm.get 0 = some (.slice (some ⟨i, pre.length, none⟩) n0 cap) ∧ tm.get 6 = some (.int .i64 (x : Nat)) ∧ tm.get 7 = some (.int .i64 (y : Nat)) ∧ y < b ∧ x ≤ b ∧ n = y ∧ Sort.reverseLoop x y d' = Sort.reverseRange d a b ∧ d'.size = n0 ∧ SV σ' i pre post d' ∧ But i σ σ') ?_ (b - 1) _ _ ?_
  · rintro n A σ1 ⟨tm, x, y, d1, rfl, e0, e6, e7, hy, hx, hn, hfin, hsz, hv1, hg1⟩
    by_cases hxy : x < y
    · have hxy' : (x : Int) < y := by omega
      have hxd : x < n0 := by omega
      have hyd : y < n0 := by omega
      have hw2 := i64n1 x (by omega)
      have hw3 := i64p y (by omega) (by omega)
      have hgi := hv1.1
      have hrx := rowS_get (pre := pre) (post := post) (d := d1) (j := x) (by omega)
      have hry := rowS_get (pre := pre) (post := post) (d := d1) (j := y) (by omega)
      have hst1 := rowS_st (pre := pre) (post := post) (d := d1) (j := x) (by first | omega | (simp; omega)) (aget d1 y)
      have hst2 := rowS_st (pre := pre) (post := post) (d := aset d1 x (aget d1 y)) (j := y) (by first | omega | (simp; omega)) (aget d1 x)
      simp [wops_cons, dops_cons, dops_if, dstOf, -st_eq, -ld_eq, -Nat.not_lt, e0, e6, e7, hxy, hxy']
      refine W_calm (by kernel_rfl) ?_
      simp [wops_cons, dops_cons, dops_if, dstOf, -st_eq, -ld_eq, -Nat.not_lt, e0, e6, e7, hxd, hyd, hgi, hrx, hry, hst1, hst2, hw2, hw3]
      rw [← swp_aset]
      refine ⟨y - 1, by omega, x + 1, rfl, y - 1, rfl, by omega, by omega, rfl, _, ?_, by simp [hsz], (hv1.put _).put _, (hg1.putL _).putL _⟩
      rw [← hfin]
      conv => rhs; rw [Sort.reverseLoop]
      rw [if_pos hxy]
    · have hxy' : ¬ (x : Int) < y := by omega
      rw [Sort.reverseLoop, if_neg hxy] at hfin
      subst hfin
      simp [wops_cons, dops_cons, dops_if, dstOf, -st_eq, -ld_eq, -Nat.not_lt, e0, e6, e7, hxy, hxy']
      exact h σ1 hv1 hg1
  · refine ⟨_, a, b - 1, d, rfl, ?_⟩
    simp
    exact ⟨by omega, by omega, rfl, hn0, hv, But.refl i σ⟩
end Go.Sm
/- Sorting: bits.Len, the draws, the patterns broken. -/
set_option linter.unusedVariables false
set_option linter.unusedSimpArgs false
namespace Go.Sm
open Go Go.Proofs
set_option maxRecDepth 100000
set_option maxHeartbeats 4000000
def len8 : ByteArray := ⟨#[0, 1, 2, 2, 3, 3, 3, 3, 4, 4, 4, 4, 4, 4, 4, 4, 5, 5, 5, 5, 5, 5, 5, 5, 5, 5, 5, 5, 5, 5, 5, 5, 6, 6, 6, 6, 6, 6, 6, 6, 6, 6, 6, 6, 6, 6, 6, 6, 6, 6, 6, 6, 6, 6, 6, 6, 6, 6, 6, 6, 6, 6, 6, 6, 7, 7, 7, 7, 7, 7, 7, 7, 7, 7, 7, 7, 7, 7, 7, 7, 7, 7, 7, 7, 7, 7, 7, 7, 7, 7, 7, 7, 7, 7, 7, 7, 7, 7, 7, 7, 7, 7, 7, 7, 7, 7, 7, 7, 7, 7, 7, 7, 7, 7, 7, 7, 7, 7, 7, 7, 7, 7, 7, 7, 7, 7, 7, 7, 8, 8, 8, 8, 8, 8, 8, 8, 8, 8, 8, 8, 8, 8, 8, 8, 8, 8, 8, 8, 8, 8, 8, 8, 8, 8, 8, 8, 8, 8, 8, 8, 8, 8, 8, 8, 8, 8, 8, 8, 8, 8, 8, 8, 8, 8, 8, 8, 8, 8, 8, 8, 8, 8, 8, 8, 8, 8, 8, 8, 8, 8, 8, 8, 8, 8, 8, 8, 8, 8, 8, 8, 8, 8, 8, 8, 8, 8, 8, 8, 8, 8, 8, 8, 8, 8, 8, 8, 8, 8, 8, 8, 8, 8, 8, 8, 8, 8, 8, 8, 8, 8, 8, 8, 8, 8, 8, 8, 8, 8, 8, 8, 8, 8, 8, 8, 8, 8, 8, 8, 8, 8, 8, 8, 8, 8, 8, 8]⟩
theorem len8_ok : ∀ b : Fin 256, len8[b.val]? = some (UInt8.ofNat (Sort.bitsLen b.val)) ∧ Sort.bitsLen b.val ≤ 8 := by decide +kernel
theorem bitsLen_shift (k x : Nat) (h : 2 ^ k ≤ x) : Sort.bitsLen x = Sort.bitsLen (x / 2 ^ k) + k := by
  have hp : 0 < 2 ^ k := Nat.two_pow_pos k
  have key : ∀ m, Sort.bitsLen x ≤ m + k ↔ Sort.bitsLen (x / 2 ^ k) ≤ m := fun m => by
    rw [Sort.bitsLen_le_iff, Sort.bitsLen_le_iff, Nat.div_lt_iff_lt_mul hp, Nat.pow_add]
  have hk : k < Sort.bitsLen x := by
    apply Nat.lt_of_not_le
    rw [Sort.bitsLen_le_iff]
    omega
  have h1 := (key (Sort.bitsLen (x / 2 ^ k))).2 (Nat.le_refl _)
  have h2 := (key (Sort.bitsLen x - k)).1 (by omega)
  omega
theorem fdiv_nat (x m : Nat) : ((x : Nat) : Int).fdiv (m : Int) = ((x / m : Nat) : Int) := by rw [Int.fdiv_eq_ediv_of_nonneg _ (by omega)]; rfl
theorem len64_spec (x : Nat) (hx : x < 2 ^ 62) (σ : CSt) (Q : Out → CSt → Prop) (h : Q (.ret (.int .i64 (Sort.bitsLen x)) false) σ) : W E1 (.fn 118 #[.int .u64 x] none) σ Q := by
  rw [W_fn (fn := Tryz.f118) Tryz.func118 rfl rfl rfl]
  have s32 : ((x : Nat) : Int).fdiv (2 ^ min 32 IntKind.u64.bits) = ((x / 4294967296 : Nat) : Int) := fdiv_nat x 4294967296
  have fin : ∀ (y c : Nat), y < 256 → Sort.bitsLen x = Sort.bitsLen y + c → c < 100 → len8[y]? = some (UInt8.ofNat (Sort.bitsLen y)) ∧ IntKind.u8.wrap (y : Int) = y ∧ IntKind.i64.wrap ((Sort.bitsLen y : Nat) : Int) = (Sort.bitsLen y : Nat) ∧ IntKind.i64.wrap ((c : Int) + (Sort.bitsLen y : Nat)) = (Sort.bitsLen x : Nat) ∧ ((UInt8.ofNat (Sort.bitsLen y)).toNat = Sort.bitsLen y) := by
    intro y c hy hb hc
    obtain ⟨h1, h2⟩ := len8_ok ⟨y, hy⟩
    simp only at h1 h2
    refine ⟨h1, IntWalk.u8_in _ (by omega), IntWalk.i64_in _ (by omega), by rw [IntWalk.i64_in _ (by omega)]; omega, ?_⟩
    rw [UInt8.toNat_ofNat_of_lt' (by show _ < 256; omega)]
  unfold len8 at fin
  have w8 : IntKind.i64.wrap 8 = 8 := by decide
  have w16 : IntKind.i64.wrap 16 = 16 := by decide
  have w24 : IntKind.i64.wrap 24 = 24 := by decide
  have w32 : IntKind.i64.wrap 32 = 32 := by decide
  have w40 : IntKind.i64.wrap 40 = 40 := by decide
  have w48 : IntKind.i64.wrap 48 = 48 := by decide
  have w56 : IntKind.i64.wrap 56 = 56 := by decide
  by_cases h32 : 4294967296 ≤ x
  · have b32 := bitsLen_shift 32 x (by simpa using h32)
    have h32' : (4294967296 : Int) ≤ x := by omega
    obtain ⟨y, hy⟩ : ∃ y, y = x / 4294967296 := ⟨_, rfl⟩
    rw [← hy] at s32
    simp only [Nat.reducePow] at b32
    rw [← hy] at b32
    have hyx : y < 2 ^ 32 := by omega
    have s16 : ((y : Nat) : Int).fdiv (2 ^ min 16 IntKind.u64.bits) = ((y / 65536 : Nat) : Int) := fdiv_nat y 65536
    by_cases h16 : 65536 ≤ y
    · have b16 := bitsLen_shift 16 y (by simpa using h16)
      have h16' : (65536 : Int) ≤ y := by omega
      obtain ⟨z, hz⟩ : ∃ z, z = y / 65536 := ⟨_, rfl⟩
      rw [← hz] at s16
      simp only [Nat.reducePow] at b16
      rw [← hz] at b16
      have hzx : z < 65536 := by omega
      have s8 : ((z : Nat) : Int).fdiv (2 ^ min 8 IntKind.u64.bits) = ((z / 256 : Nat) : Int) := fdiv_nat z 256
      by_cases h8 : 256 ≤ z
      · have b8 := bitsLen_shift 8 z (by simpa using h8)
        have h8' : (256 : Int) ≤ z := by omega
        obtain ⟨u, hu⟩ : ∃ u, u = z / 256 := ⟨_, rfl⟩
        rw [← hu] at s8
        simp only [Nat.reducePow] at b8
        rw [← hu] at b8
        obtain ⟨f1, f2, f3, f4, f5⟩ := fin u (32 + 16 + 8) (by omega) (by omega) (by omega)
        simp at f4
        simp [wops_cons, idxS, h32, h32', h16, h16', h8, h8', s32, s16, s8, f1, f2, f3, f4, f5, w8, w16, w24, w32, w40, w48, w56]
        exact h
      · have h8' : ¬ (256 : Int) ≤ z := by omega
        obtain ⟨f1, f2, f3, f4, f5⟩ := fin z (32 + 16) (by omega) (by omega) (by omega)
        simp at f4
        simp [wops_cons, idxS, h32, h32', h16, h16', h8, h8', s32, s16, s8, f1, f2, f3, f4, f5, w8, w16, w24, w32, w40, w48, w56]
        exact h
    · have h16' : ¬ (65536 : Int) ≤ y := by omega
      have b16 : Sort.bitsLen y = Sort.bitsLen y + 0 := rfl
      have hzx : y < 65536 := by omega
      have s8 : ((y : Nat) : Int).fdiv (2 ^ min 8 IntKind.u64.bits) = ((y / 256 : Nat) : Int) := fdiv_nat y 256
      by_cases h8 : 256 ≤ y
      · have b8 := bitsLen_shift 8 y (by simpa using h8)
        have h8' : (256 : Int) ≤ y := by omega
        obtain ⟨u, hu⟩ : ∃ u, u = y / 256 := ⟨_, rfl⟩
        rw [← hu] at s8
        simp only [Nat.reducePow] at b8
        rw [← hu] at b8
        obtain ⟨f1, f2, f3, f4, f5⟩ := fin u (32 + 8) (by omega) (by omega) (by omega)
        simp at f4
        simp [wops_cons, idxS, h32, h32', h16, h16', h8, h8', s32, s16, s8, f1, f2, f3, f4, f5, w8, w16, w24, w32, w40, w48, w56]
        exact h
      · have h8' : ¬ (256 : Int) ≤ y := by omega
        obtain ⟨f1, f2, f3, f4, f5⟩ := fin y (32) (by omega) (by omega) (by omega)
        simp at f4
        simp [wops_cons, idxS, h32, h32', h16, h16', h8, h8', s32, s16, s8, f1, f2, f3, f4, f5, w8, w16, w24, w32, w40, w48, w56]
        exact h
  · have h32' : ¬ (4294967296 : Int) ≤ x := by omega
    have b32 : Sort.bitsLen x = Sort.bitsLen x + 0 := rfl
    have hyx : x < 2 ^ 32 := by omega
    have s16 : ((x : Nat) : Int).fdiv (2 ^ min 16 IntKind.u64.bits) = ((x / 65536 : Nat) : Int) := fdiv_nat x 65536
    by_cases h16 : 65536 ≤ x
    · have b16 := bitsLen_shift 16 x (by simpa using h16)
      have h16' : (65536 : Int) ≤ x := by omega
      obtain ⟨z, hz⟩ : ∃ z, z = x / 65536 := ⟨_, rfl⟩
      rw [← hz] at s16
      simp only [Nat.reducePow] at b16
      rw [← hz] at b16
      have hzx : z < 65536 := by omega
      have s8 : ((z : Nat) : Int).fdiv (2 ^ min 8 IntKind.u64.bits) = ((z / 256 : Nat) : Int) := fdiv_nat z 256
      by_cases h8 : 256 ≤ z
      · have b8 := bitsLen_shift 8 z (by simpa using h8)
        have h8' : (256 : Int) ≤ z := by omega
        obtain ⟨u, hu⟩ : ∃ u, u = z / 256 := ⟨_, rfl⟩
        rw [← hu] at s8
        simp only [Nat.reducePow] at b8
        rw [← hu] at b8
        obtain ⟨f1, f2, f3, f4, f5⟩ := fin u (0 + 16 + 8) (by omega) (by omega) (by omega)
        simp at f4
        simp [wops_cons, idxS, h32, h32', h16, h16', h8, h8', s32, s16, s8, f1, f2, f3, f4, f5, w8, w16, w24, w32, w40, w48, w56]
        exact h
      · have h8' : ¬ (256 : Int) ≤ z := by omega
        obtain ⟨f1, f2, f3, f4, f5⟩ := fin z (0 + 16) (by omega) (by omega) (by omega)
        simp at f4
        simp [wops_cons, idxS, h32, h32', h16, h16', h8, h8', s32, s16, s8, f1, f2, f3, f4, f5, w8, w16, w24, w32, w40, w48, w56]
        exact h
    · have h16' : ¬ (65536 : Int) ≤ x := by omega
      have b16 : Sort.bitsLen x = Sort.bitsLen x + 0 := rfl
      have hzx : x < 65536 := by omega
      have s8 : ((x : Nat) : Int).fdiv (2 ^ min 8 IntKind.u64.bits) = ((x / 256 : Nat) : Int) := fdiv_nat x 256
      by_cases h8 : 256 ≤ x
      · have b8 := bitsLen_shift 8 x (by simpa using h8)
        have h8' : (256 : Int) ≤ x := by omega
        obtain ⟨u, hu⟩ : ∃ u, u = x / 256 := ⟨_, rfl⟩
        rw [← hu] at s8
        simp only [Nat.reducePow] at b8
        rw [← hu] at b8
        obtain ⟨f1, f2, f3, f4, f5⟩ := fin u (0 + 8) (by omega) (by omega) (by omega)
        simp at f4
        simp [wops_cons, idxS, h32, h32', h16, h16', h8, h8', s32, s16, s8, f1, f2, f3, f4, f5, w8, w16, w24, w32, w40, w48, w56]
        exact h
      · have h8' : ¬ (256 : Int) ≤ x := by omega
        obtain ⟨f1, f2, f3, f4, f5⟩ := fin x (0) (by omega) (by omega) (by omega)
        simp at f4
        simp [wops_cons, idxS, h32, h32', h16, h16', h8, h8', s32, s16, s8, f1, f2, f3, f4, f5, w8, w16, w24, w32, w40, w48, w56]
        exact h
theorem len_spec (x : Nat) (hx : x < 2 ^ 62) (σ : CSt) (Q : Out → CSt → Prop) (h : Q (.ret (.int .i64 (Sort.bitsLen x)) false) σ) : W E1 (.fn 93 #[.int .u64 x] none) σ Q := by
  rw [W_fn (fn := Tryz.f93) Tryz.func93 rfl rfl rfl]
  simp [wops_cons]
  refine len64_spec x hx _ _ ?_
  simpa [wops_cons] using h
theorem nextPow_spec (x : Nat) (h0 : 0 < x) (hx : x < 2 ^ 40) (σ : CSt) (Q : Out → CSt → Prop) (h : ∀ m : Nat, 0 < m → m ≤ 2 * x → Q (.ret (.int .u64 m) false) σ) : W E1 (.fn 131 #[.int .i64 x] none) σ Q := by
  rw [W_fn (fn := Tryz.f131) Tryz.func131 rfl rfl rfl]
  have hw : IntKind.u64.wrap (x : Int) = x := IntWalk.u64_in _ (by omega)
  simp [wops_cons, hw]
  refine len_spec x (by omega) _ _ ?_
  have h1 := Sort.two_pow_bitsLen_le h0
  have h2 : Sort.bitsLen x ≤ 40 := (Sort.bitsLen_le_iff x 40).2 hx
  have h3 : min (Sort.bitsLen x) IntKind.u64.bits = Sort.bitsLen x := Nat.min_eq_left (by show _ ≤ 64; omega)
  have h4 : IntKind.u64.wrap ((2 : Int) ^ Sort.bitsLen x) = ((2 ^ Sort.bitsLen x : Nat) : Int) := by
    have e : (2 : Int) ^ Sort.bitsLen x = ((2 ^ Sort.bitsLen x : Nat) : Int) := by simp
    rw [e]
    generalize 2 ^ Sort.bitsLen x = m at h1
    exact IntWalk.u64_in _ (by omega)
  have h5 := Nat.two_pow_pos (Sort.bitsLen x)
  generalize hm : 2 ^ Sort.bitsLen x = m at h1 h4 h5
  have := h m h5 h1
  simpa [wops_cons, h3, h4] using this
theorem next_spec (p : Nat) (r : Int) (σ : CSt) (hp : σ.get p = some (.cells [.int .u64 r] 218 false)) (Q : Out → CSt → Prop)
    (h : ∀ (r' : Int) (σ' : CSt), 0 ≤ r' → r' < 2 ^ 64 → σ'.get p = some (.cells [.int .u64 r'] 218 false) → σ'.n = σ.n → (∀ j, j ≠ p → σ'.get j = σ.get j) → Q (.ret (.int .u64 r') false) σ') : W E1 (.fn 132 #[.pointer (some ⟨p, 0, none⟩)] none) σ Q := by
  rw [W_fn (fn := Tryz.f132) Tryz.func132 rfl rfl rfl]
  simp [wops_cons]
  refine W_calm (by kernel_rfl) ?_
  simp [wops_cons, dops_cons, hp]
  refine W_calm (by kernel_rfl) ?_
  simp [wops_cons, dops_cons, hp]
  refine W_calm (by kernel_rfl) ?_
  simp [wops_cons, dops_cons, hp]
  refine h _ _ ?_ ?_ (by simp) (by simp) (fun j hj => by simp [CSt.get_put, hj])
  · exact (u64_rng _).1
  · exact (u64_rng _).2
theorem andI_lt (a : Int) (m : Nat) (h0 : 0 ≤ a) (ha : a < 2 ^ 64) (hm : 0 < m) (hb : m < 2 ^ 62) : ∃ r : Nat, andI .u64 a ((m - 1 : Nat) : Int) = r ∧ r < m := by
  refine ⟨a.toNat &&& (m - 1), ?_, Nat.lt_of_le_of_lt Nat.and_le_right (by omega)⟩
  unfold andI
  have e1 : (BitVec.ofInt IntKind.u64.bits a).toNat = a.toNat := by
    rw [BitVec.toNat_ofInt]
    show (a % ((2 ^ 64 : Nat) : Int)).toNat = _
    rw [Int.emod_eq_of_lt h0 (by simpa using ha)]
  have e2 : (BitVec.ofInt IntKind.u64.bits ((m - 1 : Nat) : Int)).toNat = m - 1 := by
    rw [BitVec.toNat_ofInt]
    show (((m - 1 : Nat) : Int) % ((2 ^ 64 : Nat) : Int)).toNat = _
    rw [Int.emod_eq_of_lt (by omega) (by omega)]
    rfl
  rw [BitVec.toNat_and, e1, e2]
  have := Nat.and_le_right (n := a.toNat) (m := m - 1)
  exact IntWalk.u64_in _ (by omega)
theorem swp_permS {d : Array ByteArray} {a b i j : Nat} (h1 : a ≤ i) (h2 : i < b) (h3 : a ≤ j) (h4 : j < b) (h5 : b ≤ d.size) : Sort.PermIn a b d (Sort.swp d i j) := Sort.swp_permIn d a b i j h1 h2 h3 h4 h5
theorem break_s (n0 : Nat) (d : Array ByteArray) (hn0 : d.size = n0) (i cap : Nat) (pre post : List Value) (a b : Nat) (σ : CSt) (hv : SV σ i pre post d) (hb : b ≤ n0) (hbig : n0 < 2 ^ 40) (ha : a ≤ b) (Q : Out → CSt → Prop)
    (h : ∀ σ' d', Sort.PermIn a b d d' → SV σ' i pre post d' → But i σ σ' → Q (.ret (.tuple #[]) false) σ') :
    W E1 (.fn 110 #[.slice (some ⟨i, pre.length, none⟩) n0 cap, .int .i64 a, .int .i64 b] none) σ Q := by
  rw [W_fn (fn := Tryz.f110) Tryz.func110 rfl rfl rfl]
  obtain ⟨len, hlen⟩ : ∃ len, len = b - a := ⟨_, rfl⟩
  have hw1 : IntKind.i64.wrap ((b : Int) - a) = (len : Int) := by rw [IntWalk.i64_in _ (by omega)]; omega
  by_cases h8 : 8 ≤ len
  · have h8' : (8 : Int) ≤ len := by omega
    obtain ⟨q, hq⟩ : ∃ q, q = len / 4 := ⟨_, rfl⟩
    have hw2 : IntKind.u64.wrap (len : Int) = len := IntWalk.u64_in _ (by omega)
    have hw3 : IntKind.i64.wrap ((len : Int).tdiv 4) = (q : Int) := by rw [IntWalk.i64_quo _ _ (by omega)]; omega
    have hw3' : IntKind.i64.wrap ((len : Int) / 4) = (q : Int) := by rw [IntWalk.i64_in _ (by omega)]; omega
    have hw4 : IntKind.i64.wrap ((q : Int) * 2) = (q : Int) * 2 := IntWalk.i64_in _ (by omega)
    have hw5 : IntKind.i64.wrap ((a : Int) + (q : Int) * 2) = ((a + q * 2 : Nat) : Int) := by rw [IntWalk.i64_in _ (by omega)]; omega
    obtain ⟨m0, hm0⟩ : ∃ m0, m0 = a + q * 2 := ⟨_, rfl⟩
    rw [← hm0] at hw5
    have hw6 : IntKind.i64.wrap ((m0 : Int) - 1) = ((m0 - 1 : Nat) : Int) := i64p m0 (by omega) (by omega)
    have hw7 : IntKind.i64.wrap ((m0 : Int) + 1) = ((m0 + 1 : Nat) : Int) := i64n1 m0 (by omega)
    simp [wops_cons, dops_cons, dops_if, dstOf, -Nat.not_lt, hw1, h8, h8', hw2]
    have hga : But i σ ((σ.alloc (.cells [.int .u64 0] 218 false)).put σ.n (.cells [.int .u64 len] 218 false)) := ((But.refl i σ).alloc _).put (Nat.le_refl _) _
    have hin := hv.2
    refine nextPow_spec len (by omega) (by omega) _ _ fun m hm hm2 => ?_
    simp [wops_cons, dops_cons, dops_if, dstOf, -st_eq, -ld_eq, -Nat.not_lt, hw1, hw3, hw3', hw4, hw5, hw6]
    refine W_loop_inv (fun n A σ' => ∃ tm k d' r, A = ⟨tm, 65, [], false⟩ ∧ tm.get 0 = some (.slice (some ⟨i, pre.length, none⟩) n0 cap) ∧ tm.get 1 = some (.int .i64 (a : Nat)) ∧ tm.get 6 = some (.int .i64 (len : Nat)) ∧ tm.get 7 = some (.pointer (some ⟨σ.n, 0, none⟩)) ∧ tm.get 8 = some (.int .u64 (m : Nat)) ∧ tm.get 9 = some (.int .i64 (k : Nat)) ∧ m0 - 1 ≤ k ∧ n = m0 + 2 - k ∧ k ≤ m0 + 2 ∧ Sort.PermIn a b d d' ∧ d'.size = n0 ∧ σ'.get σ.n = some (.cells [.int .u64 r] 218 false) ∧ SV σ' i pre post d' ∧ But i σ σ') ?_ 3 _ _ ?_
    · rintro n A σ1 ⟨tm, k, d1, r, rfl, e0, e1, e6, e7, e8, e9, hk, hn, hk2, hpm, hsz, hx, hv1, hg1⟩
      by_cases hkm : k ≤ m0 + 1
      · have hkm' : (k : Int) ≤ ((m0 + 1 : Nat) : Int) := by omega
        have hkm2 : (k : Int) ≤ (m0 : Int) + 1 := by omega
        simp [wops_cons, dops_cons, dops_if, dstOf, -st_eq, -ld_eq, -Nat.not_lt, e0, e1, e6, e7, e8, e9, hw3, hw3', hw4, hw5, hw7, hkm, hkm', hkm2]
        refine next_spec σ.n r σ1 hx _ fun r' σ2 hr0 hr1 hx2 hn2 hoth => ?_
        have hm1 : IntKind.u64.wrap ((m : Int) - 1) = ((m - 1 : Nat) : Int) := by rw [IntWalk.u64_in _ (by omega)]; omega
        obtain ⟨o, ho, hom⟩ := andI_lt r' m hr0 hr1 hm (by omega)
        have hwo : IntKind.i64.wrap (o : Int) = (o : Int) := IntWalk.i64_in _ (by omega)
        have hv2 : SV σ2 i pre post d1 := ⟨by rw [hoth i (by omega)]; exact hv1.1, by rw [hn2]; exact hv1.2⟩
        have hg2 : But i σ σ2 := ⟨by rw [hn2]; exact hg1.1, fun j hj hne => by rw [hoth j (by omega)]; exact hg1.2 j hj hne⟩
        have hgi := hv2.1
        have hwk := i64n1 k (by omega)
        by_cases hol : len ≤ o
        · have hol' : (len : Int) ≤ o := by omega
          obtain ⟨o2, ho2⟩ : ∃ o2, o2 = o - len := ⟨_, rfl⟩
          have hwo2 : IntKind.i64.wrap ((o : Int) - len) = (o2 : Int) := by rw [IntWalk.i64_in _ (by omega)]; omega
          simp [wops_cons, dops_cons, dops_if, dstOf, -st_eq, -ld_eq, -Nat.not_lt, e0, e1, e6, e7, e8, e9, hm1, ho, hwo, hol, hol', hwo2]
          refine W_calm (by kernel_rfl) ?_
          obtain ⟨p, hp⟩ : ∃ p, p = a + o2 := ⟨_, rfl⟩
          have hwp : IntKind.i64.wrap ((a : Int) + (o2 : Nat)) = (p : Int) := by rw [IntWalk.i64_in _ (by omega)]; omega
          have hpd : p < n0 := by omega
          have hkd : k < n0 := by omega
          have hrp := rowS_get (pre := pre) (post := post) (d := d1) (j := p) (by omega)
          have hrk := rowS_get (pre := pre) (post := post) (d := d1) (j := k) (by omega)
          have hst1 := rowS_st (pre := pre) (post := post) (d := d1) (j := k) (by first | omega | (simp; omega)) (aget d1 p)
          have hst2 := rowS_st (pre := pre) (post := post) (d := aset d1 k (aget d1 p)) (j := p) (by first | omega | (simp; omega)) (aget d1 k)
          simp [wops_cons, dops_cons, dops_if, dstOf, -st_eq, -ld_eq, -Nat.not_lt, e0, e1, e6, e7, e8, e9, hwp, hpd, hkd, hgi, hrp, hrk, hst1, hst2, hwk]
          rw [← swp_aset]
          refine ⟨m0 + 2 - (k + 1), by omega, k + 1, rfl, by omega, rfl, by omega, _, Sort.permIn_trans _ _ _ _ _ hpm (swp_permS (by omega) (by omega) (by omega) (by omega) (by omega)), by simp [hsz], ⟨r', ?_⟩, (hv2.put _).put _, (hg2.putL _).putL _⟩
          rw [if_neg (by omega), if_neg (by omega)]
          exact hx2
        · have hol' : ¬ (len : Int) ≤ o := by omega
          simp [wops_cons, dops_cons, dops_if, dstOf, -st_eq, -ld_eq, -Nat.not_lt, e0, e1, e6, e7, e8, e9, hm1, ho, hwo, hol, hol']
          refine W_calm (by kernel_rfl) ?_
          obtain ⟨p, hp⟩ : ∃ p, p = a + o := ⟨_, rfl⟩
          have hwp : IntKind.i64.wrap ((a : Int) + (o : Nat)) = (p : Int) := by rw [IntWalk.i64_in _ (by omega)]; omega
          have hpd : p < n0 := by omega
          have hkd : k < n0 := by omega
          have hrp := rowS_get (pre := pre) (post := post) (d := d1) (j := p) (by omega)
          have hrk := rowS_get (pre := pre) (post := post) (d := d1) (j := k) (by omega)
          have hst1 := rowS_st (pre := pre) (post := post) (d := d1) (j := k) (by first | omega | (simp; omega)) (aget d1 p)
          have hst2 := rowS_st (pre := pre) (post := post) (d := aset d1 k (aget d1 p)) (j := p) (by first | omega | (simp; omega)) (aget d1 k)
          simp [wops_cons, dops_cons, dops_if, dstOf, -st_eq, -ld_eq, -Nat.not_lt, e0, e1, e6, e7, e8, e9, hwp, hpd, hkd, hgi, hrp, hrk, hst1, hst2, hwk]
          rw [← swp_aset]
          refine ⟨m0 + 2 - (k + 1), by omega, k + 1, rfl, by omega, rfl, by omega, _, Sort.permIn_trans _ _ _ _ _ hpm (swp_permS (by omega) (by omega) (by omega) (by omega) (by omega)), by simp [hsz], ⟨r', ?_⟩, (hv2.put _).put _, (hg2.putL _).putL _⟩
          rw [if_neg (by omega), if_neg (by omega)]
          exact hx2
      · have hkm' : ¬ (k : Int) ≤ ((m0 + 1 : Nat) : Int) := by omega
        have hkm2 : ¬ (k : Int) ≤ (m0 : Int) + 1 := by omega
        simp [wops_cons, dops_cons, dops_if, dstOf, -st_eq, -ld_eq, -Nat.not_lt, e0, e1, e6, e7, e8, e9, hw3, hw3', hw4, hw5, hw7, hkm, hkm', hkm2]
        exact h σ1 d1 hpm hv1 hg1
    · refine ⟨_, m0 - 1, d, len, rfl, ?_⟩
      simp
      exact ⟨by omega, by omega, Sort.permIn_refl d a b, hn0, ⟨by rw [CSt.get_put, if_neg (by omega), CSt.get_alloc, if_neg (by omega)]; exact hv.1, by simp; omega⟩, hga⟩
  · have h8' : ¬ (8 : Int) ≤ len := by omega
    simp [wops_cons, dops_cons, dops_if, dstOf, -st_eq, -ld_eq, -Nat.not_lt, hw1, h8, h8']
    exact h σ d (Sort.permIn_refl d a b) hv (But.refl i σ)
end Go.Sm
/- Sorting strings: the pivot. -/
set_option linter.unusedVariables false
set_option linter.unusedSimpArgs false
namespace Go.Sm
open Go Go.Proofs
set_option maxRecDepth 100000
set_option maxHeartbeats 4000000
/-- But for a counter. -/
def Cnt (p : Nat) (σ σ' : CSt) : Prop := σ'.n = σ.n ∧ (∀ j, j ≠ p → σ'.get j = σ.get j) ∧ ∃ s : Int, σ'.get p = some (.cells [.int .i64 s] 3 false)
theorem Cnt.trans {p : Nat} {a b c : CSt} (h : Cnt p a b) (h' : Cnt p b c) : Cnt p a c := ⟨by rw [h'.1, h.1], fun j hj => by rw [h'.2.1 j hj, h.2.1 j hj], h'.2.2⟩
theorem SV.cnt {p i : Nat} {pre post : List Value} {d : Array ByteArray} {σ σ' : CSt} (h : SV σ i pre post d) (hs : Cnt p σ σ') (hne : i ≠ p) : SV σ' i pre post d := ⟨by rw [hs.2.1 i hne]; exact h.1, by rw [hs.1]; exact h.2⟩
theorem order2_s (n0 : Nat) (d : Array ByteArray) (hn0 : d.size = n0) (i cap : Nat) (pre post : List Value) (a b p : Nat) (σ : CSt) (hv : SV σ i pre post d) (ha : a < n0) (hb : b < n0) (hip : i ≠ p) (s : Int) (hp : σ.get p = some (.cells [.int .i64 s] 3 false)) (Q : Out → CSt → Prop)
    (h : ∀ (x y : Nat) σ', (x = a ∧ y = b) ∨ (x = b ∧ y = a) → Cnt p σ σ' → Q (.ret (.tuple #[.int .i64 x, .int .i64 y]) false) σ') :
    W E1 (.fn 147 #[.slice (some ⟨i, pre.length, none⟩) n0 cap, .int .i64 a, .int .i64 b, .pointer (some ⟨p, 0, none⟩)] none) σ Q := by
  rw [W_fn (fn := Tryz.f147) Tryz.func147 rfl rfl rfl]
  have hgi := hv.1
  have hra := rowS_get (pre := pre) (post := post) (d := d) (j := a) (by omega)
  have hrb := rowS_get (pre := pre) (post := post) (d := d) (j := b) (by omega)
  simp [wops_cons, dops_cons, dops_if, dstOf, -st_eq, -ld_eq, -Nat.not_lt]
  refine W_calm (by kernel_rfl) ?_
  simp [wops_cons, dops_cons, dops_if, dstOf, -st_eq, -ld_eq, -Nat.not_lt, ha, hb, hgi, hra, hrb]
  refine less_s _ _ _ _ ?_
  cases hl : klt (aget d b) (aget d a)
  · simp [wops_cons, dops_cons, dops_if, dstOf, -st_eq, -ld_eq, -Nat.not_lt]
    exact h a b σ (.inl ⟨rfl, rfl⟩) ⟨rfl, fun _ _ => rfl, s, hp⟩
  · simp [wops_cons, dops_cons, dops_if, dstOf, -Nat.not_lt, hp]
    refine h b a _ (.inr ⟨rfl, rfl⟩) ⟨by simp, fun j hj => by simp [CSt.get_put, hj], ?_⟩
    exact ⟨_, by rw [CSt.get_put, if_pos rfl]⟩
theorem median_s (n0 : Nat) (d : Array ByteArray) (hn0 : d.size = n0) (i cap : Nat) (pre post : List Value) (a b c p : Nat) (σ : CSt) (hv : SV σ i pre post d) (ha : a < n0) (hb : b < n0) (hc : c < n0) (hip : i ≠ p) (s : Int) (hp : σ.get p = some (.cells [.int .i64 s] 3 false)) (Q : Out → CSt → Prop)
    (h : ∀ (x : Nat) σ', x = a ∨ x = b ∨ x = c → Cnt p σ σ' → Q (.ret (.int .i64 x) false) σ') :
    W E1 (.fn 134 #[.slice (some ⟨i, pre.length, none⟩) n0 cap, .int .i64 a, .int .i64 b, .int .i64 c, .pointer (some ⟨p, 0, none⟩)] none) σ Q := by
  rw [W_fn (fn := Tryz.f134) Tryz.func134 rfl rfl rfl]
  simp [wops_cons, dops_cons, dops_if, dstOf, -st_eq, -ld_eq, -Nat.not_lt]
  refine order2_s n0 d hn0 i cap pre post a b p σ hv ha hb hip s hp _ fun x y σ1 hxy h1 => ?_
  obtain ⟨s1, hs1⟩ := h1.2.2
  simp [wops_cons, dops_cons, dops_if, dstOf, -st_eq, -ld_eq, -Nat.not_lt]
  refine order2_s n0 d hn0 i cap pre post y c p σ1 (hv.cnt h1 hip) (by omega) hc hip s1 hs1 _ fun z w σ2 hzw h2 => ?_
  obtain ⟨s2, hs2⟩ := h2.2.2
  simp [wops_cons, dops_cons, dops_if, dstOf, -st_eq, -ld_eq, -Nat.not_lt]
  refine order2_s n0 d hn0 i cap pre post x z p σ2 (hv.cnt (h1.trans h2) hip) (by omega) (by omega) hip s2 hs2 _ fun u v σ3 huv h3 => ?_
  simp [wops_cons, dops_cons, dops_if, dstOf, -st_eq, -ld_eq, -Nat.not_lt]
  exact h v σ3 (by omega) ((h1.trans h2).trans h3)
theorem medadj_s (n0 : Nat) (d : Array ByteArray) (hn0 : d.size = n0) (i cap : Nat) (pre post : List Value) (a p : Nat) (σ : CSt) (hv : SV σ i pre post d) (ha0 : 0 < a) (ha : a + 1 < n0) (hbig : n0 < 2 ^ 40) (hip : i ≠ p) (s : Int) (hp : σ.get p = some (.cells [.int .i64 s] 3 false)) (Q : Out → CSt → Prop)
    (h : ∀ (x : Nat) σ', a - 1 ≤ x → x ≤ a + 1 → Cnt p σ σ' → Q (.ret (.int .i64 x) false) σ') :
    W E1 (.fn 133 #[.slice (some ⟨i, pre.length, none⟩) n0 cap, .int .i64 a, .pointer (some ⟨p, 0, none⟩)] none) σ Q := by
  rw [W_fn (fn := Tryz.f133) Tryz.func133 rfl rfl rfl]
  have hw1 := i64p a (by omega) (by omega)
  obtain ⟨a1, ha1⟩ : ∃ a1, a1 = a + 1 := ⟨_, rfl⟩
  have hw2 : IntKind.i64.wrap ((a : Int) + 1) = (a1 : Int) := by rw [i64n1 a (by omega), ha1]
  simp [wops_cons, dops_cons, dops_if, dstOf, -st_eq, -ld_eq, -Nat.not_lt, hw1, hw2]
  refine median_s n0 d hn0 i cap pre post (a - 1) a a1 p σ hv (by omega) (by omega) (by omega) hip s hp _ fun x σ1 hx h1 => ?_
  simp [wops_cons, dops_cons, dops_if, dstOf, -st_eq, -ld_eq, -Nat.not_lt]
  exact h x σ1 (by omega) (by omega) h1
theorem piv_ar {n0 a b len q x y z : Nat} (hb : b ≤ n0) (hlen : len = b - a) (hq : q = len / 4) (hx : x = a + q) (hy : y = a + q * 2) (hz : z = a + q * 3) (hab : a < b) : a ≤ x ∧ a ≤ y ∧ a ≤ z ∧ x < b ∧ y < b ∧ z < b ∧ x < n0 ∧ y < n0 ∧ z < n0 ∧ (8 ≤ len → a < x ∧ a < y ∧ a < z ∧ 0 < x ∧ 0 < y ∧ 0 < z ∧ x + 1 < b ∧ y + 1 < b ∧ z + 1 < b ∧ x + 1 < n0 ∧ y + 1 < n0 ∧ z + 1 < n0) := by omega
theorem piv_in {n0 a b x x' : Nat} (hb : b ≤ n0) (h1 : a < x) (h2 : x + 1 < b) (h3 : x - 1 ≤ x') (h4 : x' ≤ x + 1) : a ≤ x' ∧ x' < b ∧ x' < n0 := by omega
theorem piv_or {a b x y z u : Nat} (hu : u = x ∨ u = y ∨ u = z) (hx : a ≤ x ∧ x < b) (hy : a ≤ y ∧ y < b) (hz : a ≤ z ∧ z < b) : a ≤ u ∧ u < b := by omega
theorem pivot_s (n0 : Nat) (d : Array ByteArray) (hn0 : d.size = n0) (i cap : Nat) (pre post : List Value) (a b : Nat) (σ : CSt) (hv : SV σ i pre post d) (hb : b ≤ n0) (hbig : n0 < 2 ^ 40) (hab : a < b) (Q : Out → CSt → Prop)
    (h : ∀ (x : Nat) (hint : Int) σ', a ≤ x → x < b → (hint = 0 ∨ hint = 1 ∨ hint = 2) → SV σ' i pre post d → But i σ σ' → Q (.ret (.tuple #[.int .i64 x, .int .i64 hint]) false) σ') :
    W E1 (.fn 111 #[.slice (some ⟨i, pre.length, none⟩) n0 cap, .int .i64 a, .int .i64 b] none) σ Q := by
  rw [W_fn (fn := Tryz.f111) Tryz.func111 rfl rfl rfl]
  obtain ⟨len, hlen⟩ : ∃ len, len = b - a := ⟨_, rfl⟩
  have hw1 : IntKind.i64.wrap ((b : Int) - a) = (len : Int) := by rw [IntWalk.i64_in _ (by omega)]; omega
  obtain ⟨q, hq⟩ : ∃ q, q = len / 4 := ⟨_, rfl⟩
  have hw3 : IntKind.i64.wrap ((len : Int).tdiv 4) = (q : Int) := by rw [IntWalk.i64_quo _ _ (by omega)]; omega
  have hw3' : IntKind.i64.wrap ((len : Int) / 4) = (q : Int) := by rw [IntWalk.i64_in _ (by omega)]; omega
  obtain ⟨x, hx⟩ : ∃ x, x = a + q := ⟨_, rfl⟩
  obtain ⟨y, hy⟩ : ∃ y, y = a + q * 2 := ⟨_, rfl⟩
  obtain ⟨z, hz⟩ : ∃ z, z = a + q * 3 := ⟨_, rfl⟩
  have hm1 : IntKind.i64.wrap (q : Int) = (q : Int) := IntWalk.i64_in _ (by omega)
  have hm1' : IntKind.i64.wrap ((q : Int) * 1) = (q : Int) := by rw [IntWalk.i64_in _ (by omega)]; omega
  have hm2 : IntKind.i64.wrap ((q : Int) * 2) = (q : Int) * 2 := IntWalk.i64_in _ (by omega)
  have hm3 : IntKind.i64.wrap ((q : Int) * 3) = (q : Int) * 3 := IntWalk.i64_in _ (by omega)
  have hwx : IntKind.i64.wrap ((a : Int) + q) = (x : Int) := by rw [IntWalk.i64_in _ (by omega)]; omega
  have hwy : IntKind.i64.wrap ((a : Int) + (q : Int) * 2) = (y : Int) := by rw [IntWalk.i64_in _ (by omega)]; omega
  have hwz : IntKind.i64.wrap ((a : Int) + (q : Int) * 3) = (z : Int) := by rw [IntWalk.i64_in _ (by omega)]; omega
  obtain ⟨ax, ay, az, xb, yb, zb, xn, yn, zn, hA⟩ := piv_ar hb hlen hq hx hy hz hab
  have hin := hv.2
  have hip : i ≠ σ.n := Nat.ne_of_lt hin
  have hga : But i σ (σ.alloc (.cells [.int .i64 0] 3 false)) := (But.refl i σ).alloc _
  have hva : SV (σ.alloc (.cells [.int .i64 0] 3 false)) i pre post d := ⟨by rw [CSt.get_alloc, if_neg hip]; exact hv.1, by simp; omega⟩
  have hpa : (σ.alloc (.cells [.int .i64 0] 3 false)).get σ.n = some (.cells [.int .i64 0] 3 false) := by simp
  have hsw : ∀ {s : CSt}, Cnt σ.n (σ.alloc (.cells [.int .i64 0] 3 false)) s → But i σ s := fun hs => ⟨by rw [hs.1]; exact hga.1, fun j hj hne => by rw [hs.2.1 j (by omega)]; exact hga.2 j hj hne⟩
  have hend : ∀ (u : Nat) (s1 : CSt) (s : Int), a ≤ u → u < b → Cnt σ.n (σ.alloc (.cells [.int .i64 0] 3 false)) s1 → (s = 0 ∨ s = 1 ∨ s = 2) → Q (.ret (.tuple #[.int .i64 u, .int .i64 s]) false) s1 := fun u s1 s h1 h2 h3 h4 => h u s s1 h1 h2 h4 (hva.cnt h3 hip) (hsw h3)
  by_cases h8 : 8 ≤ len
  · have h8' : (8 : Int) ≤ len := by omega
    obtain ⟨lax, lay, laz, x0, y0, z0, x1b, y1b, z1b, x1n, y1n, z1n⟩ := hA h8
    by_cases h50 : 50 ≤ len
    · have h50' : (50 : Int) ≤ len := by omega
      simp [wops_cons, dops_cons, dops_if, dstOf, -st_eq, -ld_eq, -Nat.not_lt, hw1, hw3, hw3', hm1, hm1', hm2, hm3, hwx, hwy, hwz, h8, h8', h50, h50']
      refine medadj_s n0 d hn0 i cap pre post x σ.n _ hva x0 x1n hbig hip 0 hpa _ fun x' σ1 hx1 hx2 h1 => ?_
      obtain ⟨s1, hs1⟩ := h1.2.2
      simp [wops_cons, dops_cons, dops_if, dstOf, -st_eq, -ld_eq, -Nat.not_lt]
      refine medadj_s n0 d hn0 i cap pre post y σ.n _ (hva.cnt h1 hip) y0 y1n hbig hip s1 hs1 _ fun y' σ2 hy1 hy2 h2 => ?_
      obtain ⟨s2, hs2⟩ := h2.2.2
      have h12 := h1.trans h2
      simp [wops_cons, dops_cons, dops_if, dstOf, -st_eq, -ld_eq, -Nat.not_lt]
      refine medadj_s n0 d hn0 i cap pre post z σ.n _ (hva.cnt h12 hip) z0 z1n hbig hip s2 hs2 _ fun z' σ3 hz1 hz2 h3 => ?_
      obtain ⟨s3, hs3⟩ := h3.2.2
      have h13 := h12.trans h3
      simp [wops_cons, dops_cons, dops_if, dstOf, -st_eq, -ld_eq, -Nat.not_lt]
      obtain ⟨k1, k2, k3⟩ := piv_in hb lax x1b hx1 hx2
      obtain ⟨k4, k5, k6⟩ := piv_in hb lay y1b hy1 hy2
      obtain ⟨k7, k8, k9⟩ := piv_in hb laz z1b hz1 hz2
      have hpb := fun u hu => piv_or (u := u) hu ⟨k1, k2⟩ ⟨k4, k5⟩ ⟨k7, k8⟩
      refine median_s n0 d hn0 i cap pre post x' y' z' σ.n _ (hva.cnt h13 hip) k3 k6 k9 hip s3 hs3 _ fun u σ4 hu h4 => ?_
      obtain ⟨s4, hs4⟩ := ((h13.trans h4)).2.2
      replace hpb := hpb u hu
      by_cases h0 : s4 = 0
      · simp [wops_cons, dops_cons, dops_if, dstOf, -Nat.not_lt, hs4, h0]
        exact hend u σ4 1 hpb.1 hpb.2 (h13.trans h4) (.inr (.inl rfl))
      · by_cases h12' : s4 = 12
        · simp [wops_cons, dops_cons, dops_if, dstOf, -Nat.not_lt, hs4, h0, h12']
          exact hend u σ4 2 hpb.1 hpb.2 (h13.trans h4) (.inr (.inr rfl))
        · simp [wops_cons, dops_cons, dops_if, dstOf, -Nat.not_lt, hs4, h0, h12']
          exact hend u σ4 0 hpb.1 hpb.2 (h13.trans h4) (.inl rfl)
    · have h50' : ¬ (50 : Int) ≤ len := by omega
      simp [wops_cons, dops_cons, dops_if, dstOf, -st_eq, -ld_eq, -Nat.not_lt, hw1, hw3, hw3', hm1, hm1', hm2, hm3, hwx, hwy, hwz, h8, h8', h50, h50']
      have hpb := fun u hu => piv_or (u := u) hu ⟨ax, xb⟩ ⟨ay, yb⟩ ⟨az, zb⟩
      refine median_s n0 d hn0 i cap pre post x y z σ.n _ hva xn yn zn hip 0 hpa _ fun u σ4 hu h4 => ?_
      obtain ⟨s4, hs4⟩ := (h4).2.2
      replace hpb := hpb u hu
      by_cases h0 : s4 = 0
      · simp [wops_cons, dops_cons, dops_if, dstOf, -Nat.not_lt, hs4, h0]
        exact hend u σ4 1 hpb.1 hpb.2 h4 (.inr (.inl rfl))
      · by_cases h12' : s4 = 12
        · simp [wops_cons, dops_cons, dops_if, dstOf, -Nat.not_lt, hs4, h0, h12']
          exact hend u σ4 2 hpb.1 hpb.2 h4 (.inr (.inr rfl))
        · simp [wops_cons, dops_cons, dops_if, dstOf, -Nat.not_lt, hs4, h0, h12']
          exact hend u σ4 0 hpb.1 hpb.2 h4 (.inl rfl)
  · have h8' : ¬ (8 : Int) ≤ len := by omega
    simp [wops_cons, dops_cons, dops_if, dstOf, -st_eq, -ld_eq, -Nat.not_lt, hw1, hw3, hw3', hm1, hm1', hm2, hm3, hwx, hwy, hwz, h8, h8']
    exact hend y _ 1 ay yb ⟨rfl, fun _ _ => rfl, 0, hpa⟩ (.inr (.inl rfl))
end Go.Sm
/- Sorting strings: partial insertion sort. -/
set_option linter.unusedVariables false
set_option linter.unusedSimpArgs false
namespace Go.Sm
open Go Go.Proofs
set_option maxRecDepth 100000
set_option maxHeartbeats 4000000
section
variable {lt : ByteArray → ByteArray → Bool}
theorem shiftDown_size : ∀ (j : Nat) (d : Array ByteArray), (Sort.shiftDown lt j d).size = d.size
  | 0, d => rfl
  | j + 1, d => by
    rw [Sort.shiftDown]
    split
    · rfl
    · rw [shiftDown_size j]; simp
theorem shiftUp_size (b j : Nat) (d : Array ByteArray) : (Sort.shiftUp lt b j d).size = d.size := by
  fun_induction Sort.shiftUp lt b j d <;> simp_all
theorem scanSorted_rng (d : Array ByteArray) (b i : Nat) : i ≤ b → i ≤ Sort.scanSorted lt d b i ∧ Sort.scanSorted lt d b i ≤ b := by
  fun_induction Sort.scanSorted lt d b i with
  | case1 i h ih => intro h1; simp at h; have := ih (by omega); omega
  | case2 i h => intro h1; omega
end
theorem pins_ar {a b n0 k s2 : Nat} (h1 : a + 1 ≤ k) (h2 : k < b) (h3 : b ≤ n0) : 0 < k ∧ k < n0 ∧ k - 1 < n0 ∧ k ≤ n0 := by omega
theorem partIns_s (n0 : Nat) (d : Array ByteArray) (hn0 : d.size = n0) (i cap : Nat) (pre post : List Value) (a b : Nat) (σ : CSt) (hv : SV σ i pre post d) (hb : b ≤ n0) (hbig : n0 < 2 ^ 40) (hab : a < b) (Q : Out → CSt → Prop)
    (h : ∀ σ', SV σ' i pre post (Sort.partialInsertionSort klt d a b).1 → But i σ σ' → Q (.ret (.bool (Sort.partialInsertionSort klt d a b).2) false) σ') :
    W E1 (.fn 113 #[.slice (some ⟨i, pre.length, none⟩) n0 cap, .int .i64 a, .int .i64 b] none) σ Q := by
  rw [W_fn (fn := Tryz.f113) Tryz.func113 rfl rfl rfl]
  unfold Sort.partialInsertionSort at h
  have hwa := i64n1 a (by omega)
  simp [wops_cons, dops_cons, dops_if, dstOf, -st_eq, -ld_eq, -Nat.not_lt, hwa]
  refine W_loop_inv (fun n A σ' => ∃ tm k s d', A = ⟨tm, 133, [], false⟩ ∧ tm.get 0 = some (.slice (some ⟨i, pre.length, none⟩) n0 cap) ∧ tm.get 1 = some (.int .i64 a) ∧ tm.get 2 = some (.int .i64 b) ∧ tm.get 6 = some (.bool false) ∧ tm.get 7 = some (.int .i64 (k : Nat)) ∧ tm.get 8 = some (.int .i64 (s : Nat)) ∧ a + 1 ≤ k ∧ k ≤ b ∧ s ≤ 5 ∧ n = 5 - s ∧ d'.size = n0 ∧ Sort.partialIns klt a b (5 - s) k d' = Sort.partialIns klt a b 5 (a + 1) d ∧ SV σ' i pre post d' ∧ But i σ σ') ?_ 5 _ _ ?_
  · rintro n A σ1 ⟨tm, k, s, d1, rfl, e0, e1, e2, e6, e7, e8, hak, hkb, hs5, hn, hsz, hfin, hv1, hg1⟩
    by_cases hs : s < 5
    · have hs' : (s : Int) < 5 := by omega
      obtain ⟨s', hs'5⟩ : ∃ s', 5 - s = s' + 1 := ⟨4 - s, by omega⟩
      rw [hs'5, Sort.partialIns] at hfin
      have hsc := scanSorted_rng (lt := klt) d1 b k hkb
      simp [wops_cons, dops_cons, dops_if, dstOf, -st_eq, -ld_eq, -Nat.not_lt, e0, e1, e2, e6, e7, e8, hs, hs']
      refine W_loop_J (fun n' A σ' => ∃ tm k', A = ⟨tm, 133, [], false⟩ ∧ tm.get 0 = some (.slice (some ⟨i, pre.length, none⟩) n0 cap) ∧ tm.get 1 = some (.int .i64 a) ∧ tm.get 2 = some (.int .i64 b) ∧ tm.get 6 = some (.bool false) ∧ tm.get 7 = some (.int .i64 (k' : Nat)) ∧ tm.get 8 = some (.int .i64 (s : Nat)) ∧ a + 1 ≤ k' ∧ k' ≤ b ∧ n' = b - k' ∧ Sort.scanSorted klt d1 b k' = Sort.scanSorted klt d1 b k ∧ σ' = σ1)
        (fun o σ' => ∃ tm, o = .code (.exit 2) ⟨tm, 133, [], false⟩ ∧ tm.get 0 = some (.slice (some ⟨i, pre.length, none⟩) n0 cap) ∧ tm.get 1 = some (.int .i64 a) ∧ tm.get 2 = some (.int .i64 b) ∧ tm.get 6 = some (.bool false) ∧ tm.get 7 = some (.int .i64 (Sort.scanSorted klt d1 b k : Nat)) ∧ tm.get 8 = some (.int .i64 (s : Nat)) ∧ σ' = σ1) ?_ (b - k) _ _ ?_ ?_
      · rintro n' A σ2 ⟨tm, k', rfl, e0, e1, e2, e6, e7, e8, hak', hkb', hn', hsc', rfl⟩
        have hgi := hv1.1
        by_cases hkb2 : k' < b
        · have hkb2' : (k' : Int) < b := by omega
          obtain ⟨r0, r1, r2, r3⟩ := pins_ar (s2 := 0) hak' hkb2 hb
          have hwk := i64p k' (by omega) (by omega)
          have hwk1 := i64n1 k' (by omega)
          have hr1 := rowS_get (pre := pre) (post := post) (d := d1) (j := k') (by omega)
          have hr0 := rowS_get (pre := pre) (post := post) (d := d1) (j := k' - 1) (by omega)
          simp [wops_cons, dops_cons, dops_if, dstOf, -st_eq, -ld_eq, -Nat.not_lt, e0, e1, e2, e6, e7, e8, hkb2, hkb2']
          refine W_calm (by kernel_rfl) ?_
          simp [wops_cons, dops_cons, dops_if, dstOf, -st_eq, -ld_eq, -Nat.not_lt, e0, e1, e2, e6, e7, e8, hkb2, hkb2', hwk, r1, r2, hgi, hr1, hr0]
          refine less_s _ _ _ _ ?_
          cases hl : klt (aget d1 k') (aget d1 (k' - 1))
          · simp [wops_cons, dops_cons, dops_if, dstOf, -st_eq, -ld_eq, -Nat.not_lt, e0, e1, e2, e6, e7, e8, hl, hwk1]
            refine ⟨_, ?_, k' + 1, rfl, by omega, by omega, rfl, ?_⟩
            · omega
            · rw [← hsc']
              conv => rhs; rw [Sort.scanSorted]
              unfold aget at hl
              rw [if_pos (by simp [hl, hkb2])]
          · simp [wops_cons, dops_cons, dops_if, dstOf, -st_eq, -ld_eq, -Nat.not_lt, e0, e1, e2, e6, e7, e8, hl]
            rw [← hsc', Sort.scanSorted, if_neg]
            unfold aget at hl
            simp [hl]
        · have hkb2' : ¬ (k' : Int) < b := by omega
          simp [wops_cons, dops_cons, dops_if, dstOf, -st_eq, -ld_eq, -Nat.not_lt, e0, e1, e2, e6, e7, e8, hkb2, hkb2']
          refine W_calm (by kernel_rfl) ?_
          simp [wops_cons, dops_cons, dops_if, dstOf, -st_eq, -ld_eq, -Nat.not_lt, e0, e1, e2, e6, e7, e8, hkb2, hkb2']
          rw [← hsc', Sort.scanSorted, if_neg]
          simp [hkb2]
      · refine ⟨_, k, rfl, ?_⟩
        simp [e0, e1, e2, e6, e7, e8]
        exact ⟨hak, hkb⟩
      · rintro o σ2 ⟨tm, rfl, e0, e1, e2, e6, e7, e8, rfl⟩
        generalize hsk : Sort.scanSorted klt d1 b k = m at hsc hfin e7
        obtain ⟨hm0, hm1⟩ := hsc
        by_cases hmb : m = b
        · rw [if_pos hmb] at hfin
          rw [← hfin] at h
          simp only at h
          simp [wops_cons, dops_cons, dops_if, dstOf, -st_eq, -ld_eq, -Nat.not_lt, e0, e1, e2, e6, e7, e8, hmb]
          exact h σ2 hv1 hg1
        · have hmb' : ¬ (m : Int) = b := by omega
          have hmb2 : m < b := by omega
          rw [if_neg hmb] at hfin
          have hwba : IntKind.i64.wrap ((b : Int) - a) = ((b - a : Nat) : Int) := by rw [IntWalk.i64_in _ (by omega)]; omega
          by_cases h50 : b - a < 50
          · rw [if_pos h50] at hfin
            rw [← hfin] at h
            simp only at h
            have h50' : ((b - a : Nat) : Int) < 50 := by omega
            simp [wops_cons, dops_cons, dops_if, dstOf, -st_eq, -ld_eq, -Nat.not_lt, e0, e1, e2, e6, e7, e8, hmb, hmb', hwba, h50']
            exact h σ2 hv1 hg1
          · rw [if_neg h50] at hfin
            have h50' : ¬ ((b - a : Nat) : Int) < 50 := by omega
            obtain ⟨r0, r1, r2, r3⟩ := pins_ar (s2 := 0) (show a + 1 ≤ m by omega) hmb2 hb
            have hwm := i64p m (by omega) (by omega)
            have hwm1 := i64n1 m (by omega)
            have hws := i64n1 s (by omega)
            have hwma : IntKind.i64.wrap ((m : Int) - a) = ((m - a : Nat) : Int) := by rw [IntWalk.i64_in _ (by omega)]; omega
            have hwbm : IntKind.i64.wrap ((b : Int) - m) = ((b - m : Nat) : Int) := by rw [IntWalk.i64_in _ (by omega)]; omega
            have hgi := hv1.1
            have hr1 := rowS_get (pre := pre) (post := post) (d := d1) (j := m) (by omega)
            have hr0 := rowS_get (pre := pre) (post := post) (d := d1) (j := m - 1) (by omega)
            have hst1 := rowS_st (pre := pre) (post := post) (d := d1) (j := m) (by first | omega | (simp; omega)) (aget d1 (m - 1))
            have hst2 := rowS_st (pre := pre) (post := post) (d := aset d1 m (aget d1 (m - 1))) (j := (m - 1)) (by first | omega | (simp; omega)) (aget d1 m)
            simp [wops_cons, dops_cons, dops_if, dstOf, -st_eq, -ld_eq, -Nat.not_lt, e0, e1, e2, e6, e7, e8, hmb, hmb', hwba, h50']
            refine W_calm (by kernel_rfl) ?_
            simp [wops_cons, dops_cons, dops_if, dstOf, -st_eq, -ld_eq, -Nat.not_lt, e0, e1, e2, e6, e7, e8, hwm, r1, r2, hgi, hr1, hr0, hst1, hst2, hwma]
            rw [← swp_aset]
            have hv3 : SV ((σ2.put i (.cells (rowD encS pre post (aset d1 m (aget d1 (m - 1)))) 9 false)).put i (.cells (rowD encS pre post (Sort.swp d1 m (m - 1))) 9 false)) i pre post (Sort.swp d1 m (m - 1)) := (hv1.put _).put _
            have hg3 : But i σ ((σ2.put i (.cells (rowD encS pre post (aset d1 m (aget d1 (m - 1)))) 9 false)).put i (.cells (rowD encS pre post (Sort.swp d1 m (m - 1))) 9 false)) := (hg1.putL _).putL _
            generalize ((σ2.put i (.cells (rowD encS pre post (aset d1 m (aget d1 (m - 1)))) 9 false)).put i (.cells (rowD encS pre post (Sort.swp d1 m (m - 1))) 9 false)) = σ3 at hv3 hg3 ⊢
            have hsz3 : (Sort.swp d1 m (m - 1)).size = n0 := by simp [hsz]
            generalize Sort.swp d1 m (m - 1) = d3 at hv3 hsz3 hfin
            simp only [ge_iff_le] at hfin
            by_cases hma : 2 ≤ m - a
            · have hma' : (2 : Int) ≤ ((m - a : Nat) : Int) := by omega
              rw [if_pos hma] at hfin
              simp [wops_cons, dops_cons, dops_if, dstOf, -st_eq, -ld_eq, -Nat.not_lt, e0, e1, e2, e6, e7, e8, hma, hma', hwm]
              refine W_loop_J (fun n' A σ' => ∃ tm j d', A = ⟨tm, 133, [], false⟩ ∧ tm.get 0 = some (.slice (some ⟨i, pre.length, none⟩) n0 cap) ∧ tm.get 1 = some (.int .i64 a) ∧ tm.get 2 = some (.int .i64 b) ∧ tm.get 6 = some (.bool false) ∧ tm.get 7 = some (.int .i64 (m : Nat)) ∧ tm.get 8 = some (.int .i64 (s : Nat)) ∧ tm.get 9 = some (.int .i64 (j : Nat)) ∧ j ≤ m - 1 ∧ n' = j ∧ d'.size = n0 ∧ Sort.shiftDown klt j d' = Sort.shiftDown klt (m - 1) d3 ∧ SV σ' i pre post d' ∧ But i σ σ')
                (fun o σ' => ∃ tm, o = .code (.exit 4) ⟨tm, 133, [], false⟩ ∧ tm.get 0 = some (.slice (some ⟨i, pre.length, none⟩) n0 cap) ∧ tm.get 1 = some (.int .i64 a) ∧ tm.get 2 = some (.int .i64 b) ∧ tm.get 6 = some (.bool false) ∧ tm.get 7 = some (.int .i64 (m : Nat)) ∧ tm.get 8 = some (.int .i64 (s : Nat)) ∧ SV σ' i pre post (Sort.shiftDown klt (m - 1) d3) ∧ But i σ σ') ?_ (m - 1) _ _ ?_ ?_
              · rintro n' A σ4 ⟨tm, j, d4, rfl, e0, e1, e2, e6, e7, e8, e9, hj, hn', hsz4, hfin4, hv4, hg4⟩
                cases j with
                | zero =>
                  rw [Sort.shiftDown] at hfin4
                  rw [hfin4] at hv4
                  simp [wops_cons, dops_cons, dops_if, dstOf, -st_eq, -ld_eq, -Nat.not_lt, e0, e1, e2, e6, e7, e8, e9]
                  exact ⟨hv4, hg4⟩
                | succ j =>
                  have hj1 : j + 1 < n0 := by omega
                  have hj0 : j < n0 := by omega
                  have hwj := i64n j (by omega)
                  have hi1 : (j : Int) + 1 < n0 := by omega
                  have hi0 : (0 : Int) ≤ (j : Int) + 1 := by omega
                  have hi2 : (1 : Int) ≤ (j : Int) + 1 := by omega
                  have hgi := hv4.1
                  have hr1 := rowS_get (pre := pre) (post := post) (d := d4) (j := j + 1) (by omega)
                  have hr0 := rowS_get (pre := pre) (post := post) (d := d4) (j := j) (by omega)
                  have hst1 := rowS_st (pre := pre) (post := post) (d := d4) (j := (j + 1)) (by first | omega | (simp; omega)) (aget d4 j)
                  have hst2 := rowS_st (pre := pre) (post := post) (d := aset d4 (j + 1) (aget d4 j)) (j := j) (by first | omega | (simp; omega)) (aget d4 (j + 1))
                  simp [wops_cons, dops_cons, dops_if, dstOf, -st_eq, -ld_eq, -Nat.not_lt, e0, e1, e2, e6, e7, e8, e9, hi2]
                  refine W_calm (by kernel_rfl) ?_
                  simp [wops_cons, dops_cons, dops_if, dstOf, -st_eq, -ld_eq, -Nat.not_lt, e0, e1, e2, e6, e7, e8, e9, hj1, hj0, hwj, hi1, hi0, hgi, hr1, hr0]
                  refine less_s _ _ _ _ ?_
                  rw [Sort.shiftDown] at hfin4
                  cases hl : klt (aget d4 (j + 1)) (aget d4 j)
                  · unfold aget at hl
                    rw [if_pos (by simp [hl])] at hfin4
                    rw [hfin4] at hv4
                    simp [wops_cons, dops_cons, dops_if, dstOf, -st_eq, -ld_eq, -Nat.not_lt, e0, e1, e2, e6, e7, e8, e9]
                    exact ⟨hv4, hg4⟩
                  · have hl2 := hl
                    unfold aget at hl2
                    rw [if_neg (by simp [hl2])] at hfin4
                    simp [wops_cons, dops_cons, dops_if, dstOf, -st_eq, -ld_eq, -Nat.not_lt, e0, e1, e2, e6, e7, e8, e9, hl]
                    refine W_calm (by kernel_rfl) ?_
                    simp [wops_cons, dops_cons, dops_if, dstOf, -st_eq, -ld_eq, -Nat.not_lt, e0, e1, e2, e6, e7, e8, e9, hj1, hj0, hwj, hi1, hi0, hgi, hr1, hr0, hst1, hst2]
                    rw [← swp_aset]
                    exact ⟨j, by omega, j, rfl, by omega, rfl, _, by simp [hsz4], hfin4, (hv4.put _).put _, (hg4.putL _).putL _⟩
              · refine ⟨_, m - 1, d3, rfl, ?_⟩
                simp [e0, e1, e2, e6, e7, e8]
                exact ⟨hsz3, hv3, hg3⟩
              · rintro o σ4 ⟨tm, rfl, e0, e1, e2, e6, e7, e8, hv4, hg4⟩
                have hsz4 : (Sort.shiftDown klt (m - 1) d3).size = n0 := by rw [shiftDown_size]; exact hsz3
                generalize Sort.shiftDown klt (m - 1) d3 = d4 at hv4 hsz4 hfin
                by_cases hbm : 2 ≤ b - m
                · have hbm' : (2 : Int) ≤ ((b - m : Nat) : Int) := by omega
                  rw [if_pos hbm] at hfin
                  simp [wops_cons, dops_cons, dops_if, dstOf, -st_eq, -ld_eq, -Nat.not_lt, e0, e1, e2, e6, e7, e8, hwbm, hbm, hbm', hwm1]
                  refine W_loop_J (fun n' A σ' => ∃ tm j d', A = ⟨tm, 133, [], false⟩ ∧ tm.get 0 = some (.slice (some ⟨i, pre.length, none⟩) n0 cap) ∧ tm.get 1 = some (.int .i64 a) ∧ tm.get 2 = some (.int .i64 b) ∧ tm.get 6 = some (.bool false) ∧ tm.get 7 = some (.int .i64 (m : Nat)) ∧ tm.get 8 = some (.int .i64 (s : Nat)) ∧ tm.get 10 = some (.int .i64 (j : Nat)) ∧ m + 1 ≤ j ∧ j ≤ b ∧ n' = b - j ∧ d'.size = n0 ∧ Sort.shiftUp klt b j d' = Sort.shiftUp klt b (m + 1) d4 ∧ SV σ' i pre post d' ∧ But i σ σ')
                    (fun o σ' => ∃ tm, o = .code (.exit 6) ⟨tm, 133, [], false⟩ ∧ tm.get 0 = some (.slice (some ⟨i, pre.length, none⟩) n0 cap) ∧ tm.get 1 = some (.int .i64 a) ∧ tm.get 2 = some (.int .i64 b) ∧ tm.get 6 = some (.bool false) ∧ tm.get 7 = some (.int .i64 (m : Nat)) ∧ tm.get 8 = some (.int .i64 (s : Nat)) ∧ SV σ' i pre post (Sort.shiftUp klt b (m + 1) d4) ∧ But i σ σ') ?_ (b - (m + 1)) _ _ ?_ ?_
                  · rintro n' A σ5 ⟨tm, j, d5, rfl, e0, e1, e2, e6, e7, e8, e10, hj, hjb, hn', hsz5, hfin5, hv5, hg5⟩
                    by_cases hjlt : j < b
                    · have hjlt' : (j : Int) < b := by omega
                      have hj1 : j < n0 := by omega
                      have hj0 : j - 1 < n0 := by omega
                      have hwj := i64p j (by omega) (by omega)
                      have hwj1 := i64n1 j (by omega)
                      have hgi := hv5.1
                      have hr1 := rowS_get (pre := pre) (post := post) (d := d5) (j := j) (by omega)
                      have hr0 := rowS_get (pre := pre) (post := post) (d := d5) (j := j - 1) (by omega)
                      have hst1 := rowS_st (pre := pre) (post := post) (d := d5) (j := j) (by first | omega | (simp; omega)) (aget d5 (j - 1))
                      have hst2 := rowS_st (pre := pre) (post := post) (d := aset d5 j (aget d5 (j - 1))) (j := (j - 1)) (by first | omega | (simp; omega)) (aget d5 j)
                      simp [wops_cons, dops_cons, dops_if, dstOf, -st_eq, -ld_eq, -Nat.not_lt, e0, e1, e2, e6, e7, e8, e10, hjlt, hjlt']
                      refine W_calm (by kernel_rfl) ?_
                      simp [wops_cons, dops_cons, dops_if, dstOf, -st_eq, -ld_eq, -Nat.not_lt, e0, e1, e2, e6, e7, e8, e10, hj1, hj0, hwj, hgi, hr1, hr0]
                      refine less_s _ _ _ _ ?_
                      rw [Sort.shiftUp, if_pos hjlt] at hfin5
                      cases hl : klt (aget d5 j) (aget d5 (j - 1))
                      · unfold aget at hl
                        rw [if_pos (by simp [hl])] at hfin5
                        rw [hfin5] at hv5
                        simp [wops_cons, dops_cons, dops_if, dstOf, -st_eq, -ld_eq, -Nat.not_lt, e0, e1, e2, e6, e7, e8, e10]
                        exact ⟨hv5, hg5⟩
                      · have hl2 := hl
                        unfold aget at hl2
                        rw [if_neg (by simp [hl2])] at hfin5
                        simp [wops_cons, dops_cons, dops_if, dstOf, -st_eq, -ld_eq, -Nat.not_lt, e0, e1, e2, e6, e7, e8, e10, hl]
                        refine W_calm (by kernel_rfl) ?_
                        simp [wops_cons, dops_cons, dops_if, dstOf, -st_eq, -ld_eq, -Nat.not_lt, e0, e1, e2, e6, e7, e8, e10, hj1, hj0, hwj, hwj1, hgi, hr1, hr0, hst1, hst2]
                        rw [← swp_aset]
                        exact ⟨b - (j + 1), by omega, j + 1, rfl, by omega, by omega, rfl, _, by simp [hsz5], hfin5, (hv5.put _).put _, (hg5.putL _).putL _⟩
                    · have hjlt' : ¬ (j : Int) < b := by omega
                      rw [Sort.shiftUp, if_neg hjlt] at hfin5
                      rw [hfin5] at hv5
                      simp [wops_cons, dops_cons, dops_if, dstOf, -st_eq, -ld_eq, -Nat.not_lt, e0, e1, e2, e6, e7, e8, e10, hjlt, hjlt']
                      exact ⟨hv5, hg5⟩
                  · refine ⟨_, m + 1, d4, rfl, ?_⟩
                    simp [e0, e1, e2, e6, e7, e8]
                    exact ⟨by omega, hsz4, hv4, hg4⟩
                  · rintro o σ5 ⟨tm, rfl, e0, e1, e2, e6, e7, e8, hv5, hg5⟩
                    have hsz5 : (Sort.shiftUp klt b (m + 1) d4).size = n0 := by rw [shiftUp_size]; exact hsz4
                    simp [wops_cons, dops_cons, dops_if, dstOf, -st_eq, -ld_eq, -Nat.not_lt, e0, e1, e2, e6, e7, e8, hws]
                    exact ⟨n - 1, by omega, m, rfl, s + 1, rfl, by omega, by omega, by omega, by omega, _, hsz5, by rw [← hfin]; congr 1; omega, hv5, hg5⟩
                · have hbm' : ¬ (2 : Int) ≤ ((b - m : Nat) : Int) := by omega
                  rw [if_neg hbm] at hfin
                  simp [wops_cons, dops_cons, dops_if, dstOf, -st_eq, -ld_eq, -Nat.not_lt, e0, e1, e2, e6, e7, e8, hwbm, hbm, hbm', hws]
                  exact ⟨n - 1, by omega, m, rfl, s + 1, rfl, by omega, by omega, by omega, by omega, _, hsz4, by rw [← hfin]; congr 1; omega, hv4, hg4⟩
            · have hma' : ¬ (2 : Int) ≤ ((m - a : Nat) : Int) := by omega
              rw [if_neg hma] at hfin
              simp [wops_cons, dops_cons, dops_if, dstOf, -st_eq, -ld_eq, -Nat.not_lt, e0, e1, e2, e6, e7, e8, hma, hma']
              have hv4 := hv3
              have hg4 := hg3
              have hsz4 := hsz3
              generalize d3 = d4 at hv4 hsz4 hfin
              generalize σ3 = σ4 at hv4 hg4 ⊢
              by_cases hbm : 2 ≤ b - m
              · have hbm' : (2 : Int) ≤ ((b - m : Nat) : Int) := by omega
                rw [if_pos hbm] at hfin
                simp [wops_cons, dops_cons, dops_if, dstOf, -st_eq, -ld_eq, -Nat.not_lt, e0, e1, e2, e6, e7, e8, hwbm, hbm, hbm', hwm1]
                refine W_loop_J (fun n' A σ' => ∃ tm j d', A = ⟨tm, 133, [], false⟩ ∧ tm.get 0 = some (.slice (some ⟨i, pre.length, none⟩) n0 cap) ∧ tm.get 1 = some (.int .i64 a) ∧ tm.get 2 = some (.int .i64 b) ∧ tm.get 6 = some (.bool false) ∧ tm.get 7 = some (.int .i64 (m : Nat)) ∧ tm.get 8 = some (.int .i64 (s : Nat)) ∧ tm.get 10 = some (.int .i64 (j : Nat)) ∧ m + 1 ≤ j ∧ j ≤ b ∧ n' = b - j ∧ d'.size = n0 ∧ Sort.shiftUp klt b j d' = Sort.shiftUp klt b (m + 1) d4 ∧ SV σ' i pre post d' ∧ But i σ σ')
                  (fun o σ' => ∃ tm, o = .code (.exit 6) ⟨tm, 133, [], false⟩ ∧ tm.get 0 = some (.slice (some ⟨i, pre.length, none⟩) n0 cap) ∧ tm.get 1 = some (.int .i64 a) ∧ tm.get 2 = some (.int .i64 b) ∧ tm.get 6 = some (.bool false) ∧ tm.get 7 = some (.int .i64 (m : Nat)) ∧ tm.get 8 = some (.int .i64 (s : Nat)) ∧ SV σ' i pre post (Sort.shiftUp klt b (m + 1) d4) ∧ But i σ σ') ?_ (b - (m + 1)) _ _ ?_ ?_
                · rintro n' A σ5 ⟨tm, j, d5, rfl, e0, e1, e2, e6, e7, e8, e10, hj, hjb, hn', hsz5, hfin5, hv5, hg5⟩
                  by_cases hjlt : j < b
                  · have hjlt' : (j : Int) < b := by omega
                    have hj1 : j < n0 := by omega
                    have hj0 : j - 1 < n0 := by omega
                    have hwj := i64p j (by omega) (by omega)
                    have hwj1 := i64n1 j (by omega)
                    have hgi := hv5.1
                    have hr1 := rowS_get (pre := pre) (post := post) (d := d5) (j := j) (by omega)
                    have hr0 := rowS_get (pre := pre) (post := post) (d := d5) (j := j - 1) (by omega)
                    have hst1 := rowS_st (pre := pre) (post := post) (d := d5) (j := j) (by first | omega | (simp; omega)) (aget d5 (j - 1))
                    have hst2 := rowS_st (pre := pre) (post := post) (d := aset d5 j (aget d5 (j - 1))) (j := (j - 1)) (by first | omega | (simp; omega)) (aget d5 j)
                    simp [wops_cons, dops_cons, dops_if, dstOf, -st_eq, -ld_eq, -Nat.not_lt, e0, e1, e2, e6, e7, e8, e10, hjlt, hjlt']
                    refine W_calm (by kernel_rfl) ?_
                    simp [wops_cons, dops_cons, dops_if, dstOf, -st_eq, -ld_eq, -Nat.not_lt, e0, e1, e2, e6, e7, e8, e10, hj1, hj0, hwj, hgi, hr1, hr0]
                    refine less_s _ _ _ _ ?_
                    rw [Sort.shiftUp, if_pos hjlt] at hfin5
                    cases hl : klt (aget d5 j) (aget d5 (j - 1))
                    · unfold aget at hl
                      rw [if_pos (by simp [hl])] at hfin5
                      rw [hfin5] at hv5
                      simp [wops_cons, dops_cons, dops_if, dstOf, -st_eq, -ld_eq, -Nat.not_lt, e0, e1, e2, e6, e7, e8, e10]
                      exact ⟨hv5, hg5⟩
                    · have hl2 := hl
                      unfold aget at hl2
                      rw [if_neg (by simp [hl2])] at hfin5
                      simp [wops_cons, dops_cons, dops_if, dstOf, -st_eq, -ld_eq, -Nat.not_lt, e0, e1, e2, e6, e7, e8, e10, hl]
                      refine W_calm (by kernel_rfl) ?_
                      simp [wops_cons, dops_cons, dops_if, dstOf, -st_eq, -ld_eq, -Nat.not_lt, e0, e1, e2, e6, e7, e8, e10, hj1, hj0, hwj, hwj1, hgi, hr1, hr0, hst1, hst2]
                      rw [← swp_aset]
                      exact ⟨b - (j + 1), by omega, j + 1, rfl, by omega, by omega, rfl, _, by simp [hsz5], hfin5, (hv5.put _).put _, (hg5.putL _).putL _⟩
                  · have hjlt' : ¬ (j : Int) < b := by omega
                    rw [Sort.shiftUp, if_neg hjlt] at hfin5
                    rw [hfin5] at hv5
                    simp [wops_cons, dops_cons, dops_if, dstOf, -st_eq, -ld_eq, -Nat.not_lt, e0, e1, e2, e6, e7, e8, e10, hjlt, hjlt']
                    exact ⟨hv5, hg5⟩
                · refine ⟨_, m + 1, d4, rfl, ?_⟩
                  simp [e0, e1, e2, e6, e7, e8]
                  exact ⟨by omega, hsz4, hv4, hg4⟩
                · rintro o σ5 ⟨tm, rfl, e0, e1, e2, e6, e7, e8, hv5, hg5⟩
                  have hsz5 : (Sort.shiftUp klt b (m + 1) d4).size = n0 := by rw [shiftUp_size]; exact hsz4
                  simp [wops_cons, dops_cons, dops_if, dstOf, -st_eq, -ld_eq, -Nat.not_lt, e0, e1, e2, e6, e7, e8, hws]
                  exact ⟨n - 1, by omega, m, rfl, s + 1, rfl, by omega, by omega, by omega, by omega, _, hsz5, by rw [← hfin]; congr 1; omega, hv5, hg5⟩
              · have hbm' : ¬ (2 : Int) ≤ ((b - m : Nat) : Int) := by omega
                rw [if_neg hbm] at hfin
                simp [wops_cons, dops_cons, dops_if, dstOf, -st_eq, -ld_eq, -Nat.not_lt, e0, e1, e2, e6, e7, e8, hwbm, hbm, hbm', hws]
                exact ⟨n - 1, by omega, m, rfl, s + 1, rfl, by omega, by omega, by omega, by omega, _, hsz4, by rw [← hfin]; congr 1; omega, hv4, hg4⟩
    · have hs' : ¬ (s : Int) < 5 := by omega
      have hs0 : 5 - s = 0 := by omega
      rw [hs0, Sort.partialIns] at hfin
      rw [← hfin] at h
      simp only at h
      simp [wops_cons, dops_cons, dops_if, dstOf, -st_eq, -ld_eq, -Nat.not_lt, e0, e1, e2, e6, e7, e8, hs, hs']
      exact h σ1 hv1 hg1
  · refine ⟨_, a + 1, 0, d, rfl, ?_⟩
    simp
    exact ⟨by omega, hn0, hv, But.refl i σ⟩
end Go.Sm
/- Sorting strings: the partitions. -/
set_option linter.unusedVariables false
set_option linter.unusedSimpArgs false
namespace Go.Sm
open Go Go.Proofs
set_option maxRecDepth 100000
set_option maxHeartbeats 4000000
theorem guard_ar {i j i2 j2 : Nat} (h1 : i ≤ i2) (h2 : j2 ≤ j) (h : ¬ j2 < i2) : (j2 - 1) + 1 - (i2 + 1) < j + 1 - i := by omega
theorem part_s (n0 : Nat) (d : Array ByteArray) (hn0 : d.size = n0) (i cap : Nat) (pre post : List Value) (a b pv : Nat) (σ : CSt) (hv : SV σ i pre post d) (hb : b ≤ n0) (hbig : n0 < 2 ^ 40) (hab : a < b) (hpv : pv < b) (Q : Out → CSt → Prop)
    (h : ∀ σ', SV σ' i pre post (Sort.partition klt d a b pv).2.2 → But i σ σ' → Q (.ret (.tuple #[.int .i64 (Sort.partition klt d a b pv).1, .bool (Sort.partition klt d a b pv).2.1]) false) σ') :
    W E1 (.fn 116 #[.slice (some ⟨i, pre.length, none⟩) n0 cap, .int .i64 a, .int .i64 b, .int .i64 pv] none) σ Q := by
  rw [W_fn (fn := Tryz.f116) Tryz.func116 rfl rfl rfl]
  have had : a < n0 := by omega
  have hpd : pv < n0 := by omega
  have hwb := i64p b (by omega) (by omega)
  obtain ⟨a1, ha1⟩ : ∃ a1, a1 = a + 1 := ⟨_, rfl⟩
  have hwa : IntKind.i64.wrap ((a : Int) + 1) = (a1 : Int) := by rw [i64n1 a (by omega), ha1]
  obtain ⟨b1, hb1⟩ : ∃ b1, b1 = b - 1 := ⟨_, rfl⟩
  rw [← hb1] at hwb
  have hb1n : b1 < n0 := by omega
  have h1a : 1 ≤ a1 := by omega
  have hgi := hv.1
  have hra := rowS_get (pre := pre) (post := post) (d := d) (j := a) (by omega)
  have hrp := rowS_get (pre := pre) (post := post) (d := d) (j := pv) (by omega)
  have hst1 := rowS_st (pre := pre) (post := post) (d := d) (j := a) (by first | omega | (simp; omega)) (aget d pv)
  have hst2 := rowS_st (pre := pre) (post := post) (d := aset d a (aget d pv)) (j := pv) (by first | omega | (simp; omega)) (aget d a)
  unfold Sort.partition at h
  rw [← ha1, ← hb1] at h
  simp [wops_cons, dops_cons, dops_if, dstOf, -st_eq, -ld_eq, -Nat.not_lt]
  refine W_calm (by kernel_rfl) ?_
  simp [wops_cons, dops_cons, dops_if, dstOf, -st_eq, -ld_eq, -Nat.not_lt, had, hpd, hgi, hra, hrp, hst1, hst2, hwa, hwb]
  rw [← swp_aset]
  have hv1 : SV ((σ.put i (.cells (rowD encS pre post (aset d a (aget d pv))) 9 false)).put i (.cells (rowD encS pre post (Sort.swp d a pv)) 9 false)) i pre post (Sort.swp d a pv) := (hv.put _).put _
  have hg1 : But i σ ((σ.put i (.cells (rowD encS pre post (aset d a (aget d pv))) 9 false)).put i (.cells (rowD encS pre post (Sort.swp d a pv)) 9 false)) := (((But.refl i σ)).putL _).putL _
  have hsz1 : (Sort.swp d a pv).size = n0 := by simp [hn0]
  generalize ((σ.put i (.cells (rowD encS pre post (aset d a (aget d pv))) 9 false)).put i (.cells (rowD encS pre post (Sort.swp d a pv)) 9 false)) = σ1 at hv1 hg1 ⊢
  generalize Sort.swp d a pv = d1 at hv1 hsz1 h
  clear hst1 hst2
  have e0 := True.intro
  have e1 := True.intro
  have eI := True.intro
  have eJ := True.intro
  refine W_loop_J (fun n A s => ∃ tm k, A = ⟨tm, 168, [], false⟩ ∧ tm.get 0 = some (.slice (some ⟨i, pre.length, none⟩) n0 cap) ∧ tm.get 1 = some (.int .i64 a) ∧ tm.get 10 = some (.int .i64 (k : Nat)) ∧ tm.get 11 = some (.int .i64 (b1 : Nat)) ∧ a1 ≤ k ∧ k ≤ max a1 (b1 + 1) ∧ n = b1 + 1 - k ∧ Sort.scanUp (fun x => klt x d1[a]!) d1 b1 k = Sort.scanUp (fun x => klt x d1[a]!) d1 b1 a1 ∧ s = σ1)
    (fun o s => ∃ tm x, o = .code (.exit 0) ⟨tm, 168, [], false⟩ ∧ tm.get 0 = some (.slice (some ⟨i, pre.length, none⟩) n0 cap) ∧ tm.get 1 = some (.int .i64 a) ∧ tm.get 10 = some (.int .i64 (x : Nat)) ∧ tm.get 11 = some (.int .i64 (b1 : Nat)) ∧ x = Sort.scanUp (fun x => klt x d1[a]!) d1 b1 a1 ∧ a1 ≤ x ∧ x ≤ max a1 (b1 + 1) ∧ s = σ1) ?_ (b1 + 1 - a1) _ _ ?_ ?_
  · rintro n A s ⟨tm, k, rfl, e0, e1, eI, eJ, hk0, hk1, hn, hsc, hs⟩
    rw [hs]
    have hgi := hv1.1
    by_cases hkj : k ≤ b1
    · have hkj' : (k : Int) ≤ (b1 : Nat) := by omega
      have hkd : k < n0 := by omega
      have hwk := i64n1 k (by omega)
      have hrk := rowS_get (pre := pre) (post := post) (d := d1) (j := k) (by omega)
      have hra := rowS_get (pre := pre) (post := post) (d := d1) (j := a) (by omega)
      simp [wops_cons, dops_cons, dops_if, dstOf, -st_eq, -ld_eq, -Nat.not_lt, e0, e1, eI, eJ, hkj, hkj']
      refine W_calm (by kernel_rfl) ?_
      simp [wops_cons, dops_cons, dops_if, dstOf, -st_eq, -ld_eq, -Nat.not_lt, e0, e1, eI, eJ, hkj, hkj', hkd, had, hgi, hrk, hra]
      refine less_s _ _ _ _ ?_
      cases hl : klt (aget d1 k) (aget d1 a)
      ·
        unfold aget at hl
        have hend : k = Sort.scanUp (fun x => klt x d1[a]!) d1 b1 a1 := by rw [← hsc, Sort.scanUp, if_neg (by simp [hl])]
        simp [wops_cons, dops_cons, dops_if, dstOf, -st_eq, -ld_eq, -Nat.not_lt, e0, e1, eI, eJ]
        exact ⟨k, rfl, hend, hk0, by omega⟩
      ·
        have hl2 := hl
        unfold aget at hl2
        have hgo : Sort.scanUp (fun x => klt x d1[a]!) d1 b1 (k + 1) = Sort.scanUp (fun x => klt x d1[a]!) d1 b1 a1 := by
          rw [← hsc]
          conv => rhs; rw [Sort.scanUp]
          rw [if_pos (by simp [hl2, hkj])]
        simp [wops_cons, dops_cons, dops_if, dstOf, -st_eq, -ld_eq, -Nat.not_lt, e0, e1, eI, eJ, hl, hwk]
        exact ⟨_, by omega, k + 1, rfl, by omega, by omega, rfl, hgo⟩
    · have hkj' : ¬ (k : Int) ≤ (b1 : Nat) := by omega
      have hend : k = Sort.scanUp (fun x => klt x d1[a]!) d1 b1 a1 := by rw [← hsc, Sort.scanUp, if_neg (by simp [hkj])]
      simp [wops_cons, dops_cons, dops_if, dstOf, -st_eq, -ld_eq, -Nat.not_lt, e0, e1, eI, eJ, hkj, hkj']
      refine W_calm (by kernel_rfl) ?_
      simp [wops_cons, dops_cons, dops_if, dstOf, -st_eq, -ld_eq, -Nat.not_lt, e0, e1, eI, eJ, hkj, hkj']
      exact ⟨k, rfl, hend, hk0, by omega⟩
  · refine ⟨_, a1, rfl, ?_⟩
    simp [e0, e1, eI, eJ]
    try omega
  rintro o s ⟨tm, x, rfl, e0, e1, eI, eJ, hx, hx0, hx1, hs⟩
  rw [hs]
  simp [wops_cons, dops_cons, dops_if, dstOf, -st_eq, -ld_eq, -Nat.not_lt]
  refine W_loop_J (fun n A s => ∃ tm k, A = ⟨tm, 168, [], false⟩ ∧ tm.get 0 = some (.slice (some ⟨i, pre.length, none⟩) n0 cap) ∧ tm.get 1 = some (.int .i64 a) ∧ tm.get 10 = some (.int .i64 (x : Nat)) ∧ tm.get 11 = some (.int .i64 (k : Nat)) ∧ k ≤ b1 ∧ n = k ∧ Sort.scanDown (fun x => !klt x d1[a]!) d1 x k = Sort.scanDown (fun x => !klt x d1[a]!) d1 x b1 ∧ s = σ1)
    (fun o s => ∃ tm y, o = .code (.exit 2) ⟨tm, 168, [], false⟩ ∧ tm.get 0 = some (.slice (some ⟨i, pre.length, none⟩) n0 cap) ∧ tm.get 1 = some (.int .i64 a) ∧ tm.get 10 = some (.int .i64 (x : Nat)) ∧ tm.get 11 = some (.int .i64 (y : Nat)) ∧ y = Sort.scanDown (fun x => !klt x d1[a]!) d1 x b1 ∧ y ≤ b1 ∧ s = σ1) ?_ (b1) _ _ ?_ ?_
  · rintro n A s ⟨tm, k, rfl, e0, e1, eI, eJ, hk0, hn, hsc, hs⟩
    rw [hs]
    have hgi := hv1.1
    by_cases hkj : x ≤ k
    · obtain ⟨k2, hk2⟩ : ∃ k2, k = k2 + 1 := ⟨k - 1, by omega⟩
      have hkj' : (x : Int) ≤ (k : Nat) := by omega
      have hkd : k < n0 := by omega
      have hwk := i64p k (by omega) (by omega)
      have hrk := rowS_get (pre := pre) (post := post) (d := d1) (j := k) (by omega)
      have hra := rowS_get (pre := pre) (post := post) (d := d1) (j := a) (by omega)
      simp [wops_cons, dops_cons, dops_if, dstOf, -st_eq, -ld_eq, -Nat.not_lt, e0, e1, eI, eJ, hkj, hkj']
      refine W_calm (by kernel_rfl) ?_
      simp [wops_cons, dops_cons, dops_if, dstOf, -st_eq, -ld_eq, -Nat.not_lt, e0, e1, eI, eJ, hkj, hkj', hkd, had, hgi, hrk, hra]
      refine less_s _ _ _ _ ?_
      cases hl : klt (aget d1 k) (aget d1 a)
      ·
        have hl2 := hl
        unfold aget at hl2
        have hgo : Sort.scanDown (fun x => !klt x d1[a]!) d1 x (k - 1) = Sort.scanDown (fun x => !klt x d1[a]!) d1 x b1 := by
          rw [← hsc, hk2]
          conv => rhs; rw [Sort.scanDown]
          rw [if_pos (by rw [← hk2]; simp [hl2, hkj])]
          rfl
        simp [wops_cons, dops_cons, dops_if, dstOf, -st_eq, -ld_eq, -Nat.not_lt, e0, e1, eI, eJ, hl, hwk]
        exact ⟨_, by omega, k - 1, rfl, by omega, rfl, hgo⟩
      ·
        unfold aget at hl
        have hend : k = Sort.scanDown (fun x => !klt x d1[a]!) d1 x b1 := by rw [← hsc, hk2, Sort.scanDown, if_neg (by rw [← hk2]; simp [hl])]
        simp [wops_cons, dops_cons, dops_if, dstOf, -st_eq, -ld_eq, -Nat.not_lt, e0, e1, eI, eJ]
        exact ⟨k, rfl, hend, hk0⟩
    · have hkj' : ¬ (x : Int) ≤ (k : Nat) := by omega
      have hend : k = Sort.scanDown (fun x => !klt x d1[a]!) d1 x b1 := by
        rw [← hsc]
        cases k with
        | zero => rfl
        | succ k => rw [Sort.scanDown, if_neg (by simp; omega)]
      simp [wops_cons, dops_cons, dops_if, dstOf, -st_eq, -ld_eq, -Nat.not_lt, e0, e1, eI, eJ, hkj, hkj']
      refine W_calm (by kernel_rfl) ?_
      simp [wops_cons, dops_cons, dops_if, dstOf, -st_eq, -ld_eq, -Nat.not_lt, e0, e1, eI, eJ, hkj, hkj']
      exact ⟨k, rfl, hend, hk0⟩
  · refine ⟨_, b1, rfl, ?_⟩
    simp [e0, e1, eI, eJ]
  rintro o s ⟨tm, y, rfl, e0, e1, eI, eJ, hy, hy1, hs⟩
  rw [hs]
  simp only [gt_iff_lt] at h
  rw [← hx, ← hy] at h
  by_cases hxy : y < x
  · have hxy' : (y : Int) < x := by omega
    rw [if_pos hxy] at h
    simp only at h
    have hyd : y < n0 := by omega
    have hgi := hv1.1
    have hra := rowS_get (pre := pre) (post := post) (d := d1) (j := a) (by omega)
    have hry := rowS_get (pre := pre) (post := post) (d := d1) (j := y) (by omega)
    have hst1 := rowS_st (pre := pre) (post := post) (d := d1) (j := y) (by first | omega | (simp; omega)) (aget d1 a)
    have hst2 := rowS_st (pre := pre) (post := post) (d := aset d1 y (aget d1 a)) (j := a) (by first | omega | (simp; omega)) (aget d1 y)
    simp [wops_cons, dops_cons, dops_if, dstOf, -st_eq, -ld_eq, -Nat.not_lt, e0, e1, eI, eJ, hxy, hxy']
    refine W_calm (by kernel_rfl) ?_
    simp [wops_cons, dops_cons, dops_if, dstOf, -st_eq, -ld_eq, -Nat.not_lt, e0, e1, eI, eJ, had, hyd, hgi, hra, hry, hst1, hst2]
    rw [← swp_aset]
    exact h _ ((hv1.put _).put _) ((hg1.putL _).putL _)
  · have hxy' : ¬ (y : Int) < x := by omega
    rw [if_neg hxy] at h
    simp only at h
    have hyd : y < n0 := by omega
    have hxd : x < n0 := by omega
    have hwx := i64n1 x (by omega)
    have hwy := i64p y (by omega) (by omega)
    have hgi := hv1.1
    have hrx := rowS_get (pre := pre) (post := post) (d := d1) (j := x) (by omega)
    have hry := rowS_get (pre := pre) (post := post) (d := d1) (j := y) (by omega)
    have hst1 := rowS_st (pre := pre) (post := post) (d := d1) (j := x) (by first | omega | (simp; omega)) (aget d1 y)
    have hst2 := rowS_st (pre := pre) (post := post) (d := aset d1 x (aget d1 y)) (j := y) (by first | omega | (simp; omega)) (aget d1 x)
    simp [wops_cons, dops_cons, dops_if, dstOf, -st_eq, -ld_eq, -Nat.not_lt, e0, e1, eI, eJ, hxy, hxy']
    refine W_calm (by kernel_rfl) ?_
    simp [wops_cons, dops_cons, dops_if, dstOf, -st_eq, -ld_eq, -Nat.not_lt, e0, e1, eI, eJ, hxd, hyd, hgi, hrx, hry, hst1, hst2, hwx, hwy]
    rw [← swp_aset]
    have hv2 : SV ((σ1.put i (.cells (rowD encS pre post (aset d1 x (aget d1 y))) 9 false)).put i (.cells (rowD encS pre post (Sort.swp d1 x y)) 9 false)) i pre post (Sort.swp d1 x y) := (hv1.put _).put _
    have hg2 : But i σ ((σ1.put i (.cells (rowD encS pre post (aset d1 x (aget d1 y))) 9 false)).put i (.cells (rowD encS pre post (Sort.swp d1 x y)) 9 false)) := ((hg1).putL _).putL _
    have hsz2 : (Sort.swp d1 x y).size = n0 := by simp [hsz1]
    generalize ((σ1.put i (.cells (rowD encS pre post (aset d1 x (aget d1 y))) 9 false)).put i (.cells (rowD encS pre post (Sort.swp d1 x y)) 9 false)) = σ2 at hv2 hg2 ⊢
    generalize Sort.swp d1 x y = d2 at hv2 hsz2 h
    clear hst1 hst2
    refine W_loop_J (fun n A s => ∃ tm u v d', A = ⟨tm, 168, [], false⟩ ∧ tm.get 0 = some (.slice (some ⟨i, pre.length, none⟩) n0 cap) ∧ tm.get 1 = some (.int .i64 a) ∧ tm.get 10 = some (.int .i64 (u : Nat)) ∧ tm.get 11 = some (.int .i64 (v : Nat)) ∧ 1 ≤ u ∧ v < n0 ∧ n = v + 1 - u ∧ d'.size = n0 ∧ Sort.partLoop klt a u v d' = Sort.partLoop klt a (x + 1) (y - 1) d2 ∧ SV s i pre post d' ∧ But i σ s)
      (fun o s => ∃ tm, o = .code (.exit 4) ⟨tm, 168, [], false⟩ ∧ tm.get 0 = some (.slice (some ⟨i, pre.length, none⟩) n0 cap) ∧ tm.get 1 = some (.int .i64 a) ∧ tm.get 11 = some (.int .i64 ((Sort.partLoop klt a (x + 1) (y - 1) d2).1 : Nat)) ∧ (Sort.partLoop klt a (x + 1) (y - 1) d2).1 < n0 ∧ (Sort.partLoop klt a (x + 1) (y - 1) d2).2.size = n0 ∧ SV s i pre post (Sort.partLoop klt a (x + 1) (y - 1) d2).2 ∧ But i σ s) ?_ (y - 1 + 1 - (x + 1)) _ _ ?_ ?_
    · rintro n A σ3 ⟨tm, u, v, d3, rfl, e0, e1, eI, eJ, hu, hvn, hn, hsz3, hfin, hv3, hg3⟩
      rw [Sort.partLoop_eq] at hfin
      simp [wops_cons, dops_cons, dops_if, dstOf, -st_eq, -ld_eq, -Nat.not_lt]
      refine W_loop_J (fun n A s => ∃ tm k, A = ⟨tm, 168, [], false⟩ ∧ tm.get 0 = some (.slice (some ⟨i, pre.length, none⟩) n0 cap) ∧ tm.get 1 = some (.int .i64 a) ∧ tm.get 10 = some (.int .i64 (k : Nat)) ∧ tm.get 11 = some (.int .i64 (v : Nat)) ∧ u ≤ k ∧ k ≤ max u (v + 1) ∧ n = v + 1 - k ∧ Sort.scanUp (fun x => klt x d3[a]!) d3 v k = Sort.scanUp (fun x => klt x d3[a]!) d3 v u ∧ s = σ3)
        (fun o s => ∃ tm x, o = .code (.exit 6) ⟨tm, 168, [], false⟩ ∧ tm.get 0 = some (.slice (some ⟨i, pre.length, none⟩) n0 cap) ∧ tm.get 1 = some (.int .i64 a) ∧ tm.get 10 = some (.int .i64 (x : Nat)) ∧ tm.get 11 = some (.int .i64 (v : Nat)) ∧ x = Sort.scanUp (fun x => klt x d3[a]!) d3 v u ∧ u ≤ x ∧ x ≤ max u (v + 1) ∧ s = σ3) ?_ (v + 1 - u) _ _ ?_ ?_
      · rintro n A s ⟨tm, k, rfl, e0, e1, eI, eJ, hk0, hk1, hn, hsc, hs⟩
        rw [hs]
        have hgi := hv3.1
        by_cases hkj : k ≤ v
        · have hkj' : (k : Int) ≤ (v : Nat) := by omega
          have hkd : k < n0 := by omega
          have hwk := i64n1 k (by omega)
          have hrk := rowS_get (pre := pre) (post := post) (d := d3) (j := k) (by omega)
          have hra := rowS_get (pre := pre) (post := post) (d := d3) (j := a) (by omega)
          simp [wops_cons, dops_cons, dops_if, dstOf, -st_eq, -ld_eq, -Nat.not_lt, e0, e1, eI, eJ, hkj, hkj']
          refine W_calm (by kernel_rfl) ?_
          simp [wops_cons, dops_cons, dops_if, dstOf, -st_eq, -ld_eq, -Nat.not_lt, e0, e1, eI, eJ, hkj, hkj', hkd, had, hgi, hrk, hra]
          refine less_s _ _ _ _ ?_
          cases hl : klt (aget d3 k) (aget d3 a)
          ·
            unfold aget at hl
            have hend : k = Sort.scanUp (fun x => klt x d3[a]!) d3 v u := by rw [← hsc, Sort.scanUp, if_neg (by simp [hl])]
            simp [wops_cons, dops_cons, dops_if, dstOf, -st_eq, -ld_eq, -Nat.not_lt, e0, e1, eI, eJ]
            exact ⟨k, rfl, hend, hk0, by omega⟩
          ·
            have hl2 := hl
            unfold aget at hl2
            have hgo : Sort.scanUp (fun x => klt x d3[a]!) d3 v (k + 1) = Sort.scanUp (fun x => klt x d3[a]!) d3 v u := by
              rw [← hsc]
              conv => rhs; rw [Sort.scanUp]
              rw [if_pos (by simp [hl2, hkj])]
            simp [wops_cons, dops_cons, dops_if, dstOf, -st_eq, -ld_eq, -Nat.not_lt, e0, e1, eI, eJ, hl, hwk]
            exact ⟨_, by omega, k + 1, rfl, by omega, by omega, rfl, hgo⟩
        · have hkj' : ¬ (k : Int) ≤ (v : Nat) := by omega
          have hend : k = Sort.scanUp (fun x => klt x d3[a]!) d3 v u := by rw [← hsc, Sort.scanUp, if_neg (by simp [hkj])]
          simp [wops_cons, dops_cons, dops_if, dstOf, -st_eq, -ld_eq, -Nat.not_lt, e0, e1, eI, eJ, hkj, hkj']
          refine W_calm (by kernel_rfl) ?_
          simp [wops_cons, dops_cons, dops_if, dstOf, -st_eq, -ld_eq, -Nat.not_lt, e0, e1, eI, eJ, hkj, hkj']
          exact ⟨k, rfl, hend, hk0, by omega⟩
      · refine ⟨_, u, rfl, ?_⟩
        simp [e0, e1, eI, eJ]
        try omega
      rintro o s ⟨tm, p, rfl, e0, e1, eI, eJ, hp, hp0, hp1, hs⟩
      rw [hs]
      simp [wops_cons, dops_cons, dops_if, dstOf, -st_eq, -ld_eq, -Nat.not_lt]
      refine W_loop_J (fun n A s => ∃ tm k, A = ⟨tm, 168, [], false⟩ ∧ tm.get 0 = some (.slice (some ⟨i, pre.length, none⟩) n0 cap) ∧ tm.get 1 = some (.int .i64 a) ∧ tm.get 10 = some (.int .i64 (p : Nat)) ∧ tm.get 11 = some (.int .i64 (k : Nat)) ∧ k ≤ v ∧ n = k ∧ Sort.scanDown (fun x => !klt x d3[a]!) d3 p k = Sort.scanDown (fun x => !klt x d3[a]!) d3 p v ∧ s = σ3)
        (fun o s => ∃ tm y, o = .code (.exit 8) ⟨tm, 168, [], false⟩ ∧ tm.get 0 = some (.slice (some ⟨i, pre.length, none⟩) n0 cap) ∧ tm.get 1 = some (.int .i64 a) ∧ tm.get 10 = some (.int .i64 (p : Nat)) ∧ tm.get 11 = some (.int .i64 (y : Nat)) ∧ y = Sort.scanDown (fun x => !klt x d3[a]!) d3 p v ∧ y ≤ v ∧ s = σ3) ?_ (v) _ _ ?_ ?_
      · rintro n A s ⟨tm, k, rfl, e0, e1, eI, eJ, hk0, hn, hsc, hs⟩
        rw [hs]
        have hgi := hv3.1
        by_cases hkj : p ≤ k
        · obtain ⟨k2, hk2⟩ : ∃ k2, k = k2 + 1 := ⟨k - 1, by omega⟩
          have hkj' : (p : Int) ≤ (k : Nat) := by omega
          have hkd : k < n0 := by omega
          have hwk := i64p k (by omega) (by omega)
          have hrk := rowS_get (pre := pre) (post := post) (d := d3) (j := k) (by omega)
          have hra := rowS_get (pre := pre) (post := post) (d := d3) (j := a) (by omega)
          simp [wops_cons, dops_cons, dops_if, dstOf, -st_eq, -ld_eq, -Nat.not_lt, e0, e1, eI, eJ, hkj, hkj']
          refine W_calm (by kernel_rfl) ?_
          simp [wops_cons, dops_cons, dops_if, dstOf, -st_eq, -ld_eq, -Nat.not_lt, e0, e1, eI, eJ, hkj, hkj', hkd, had, hgi, hrk, hra]
          refine less_s _ _ _ _ ?_
          cases hl : klt (aget d3 k) (aget d3 a)
          ·
            have hl2 := hl
            unfold aget at hl2
            have hgo : Sort.scanDown (fun x => !klt x d3[a]!) d3 p (k - 1) = Sort.scanDown (fun x => !klt x d3[a]!) d3 p v := by
              rw [← hsc, hk2]
              conv => rhs; rw [Sort.scanDown]
              rw [if_pos (by rw [← hk2]; simp [hl2, hkj])]
              rfl
            simp [wops_cons, dops_cons, dops_if, dstOf, -st_eq, -ld_eq, -Nat.not_lt, e0, e1, eI, eJ, hl, hwk]
            exact ⟨_, by omega, k - 1, rfl, by omega, rfl, hgo⟩
          ·
            unfold aget at hl
            have hend : k = Sort.scanDown (fun x => !klt x d3[a]!) d3 p v := by rw [← hsc, hk2, Sort.scanDown, if_neg (by rw [← hk2]; simp [hl])]
            simp [wops_cons, dops_cons, dops_if, dstOf, -st_eq, -ld_eq, -Nat.not_lt, e0, e1, eI, eJ]
            exact ⟨k, rfl, hend, hk0⟩
        · have hkj' : ¬ (p : Int) ≤ (k : Nat) := by omega
          have hend : k = Sort.scanDown (fun x => !klt x d3[a]!) d3 p v := by
            rw [← hsc]
            cases k with
            | zero => rfl
            | succ k => rw [Sort.scanDown, if_neg (by simp; omega)]
          simp [wops_cons, dops_cons, dops_if, dstOf, -st_eq, -ld_eq, -Nat.not_lt, e0, e1, eI, eJ, hkj, hkj']
          refine W_calm (by kernel_rfl) ?_
          simp [wops_cons, dops_cons, dops_if, dstOf, -st_eq, -ld_eq, -Nat.not_lt, e0, e1, eI, eJ, hkj, hkj']
          exact ⟨k, rfl, hend, hk0⟩
      · refine ⟨_, v, rfl, ?_⟩
        simp [e0, e1, eI, eJ]
      rintro o s ⟨tm, q, rfl, e0, e1, eI, eJ, hq, hq1, hs⟩
      rw [hs]
      rw [← hp, ← hq] at hfin
      by_cases hpq : q < p
      · have hpq' : (q : Int) < p := by omega
        rw [if_pos hpq] at hfin
        have hf1 : q = (Sort.partLoop klt a (x + 1) (y - 1) d2).1 := by rw [← hfin]
        have hf2 : d3 = (Sort.partLoop klt a (x + 1) (y - 1) d2).2 := by rw [← hfin]
        simp [wops_cons, dops_cons, dops_if, dstOf, -st_eq, -ld_eq, -Nat.not_lt, e0, e1, eI, eJ, hpq, hpq']
        rw [← hf1, ← hf2]
        exact ⟨rfl, by omega, hsz3, hv3, hg3⟩
      · have hpq' : ¬ (q : Int) < p := by omega
        rw [if_neg hpq] at hfin
        have hpd : p < n0 := by omega
        have hqd : q < n0 := by omega
        have hwp := i64n1 p (by omega)
        have hwq := i64p q (by omega) (by omega)
        have hgi := hv3.1
        have hrp := rowS_get (pre := pre) (post := post) (d := d3) (j := p) (by omega)
        have hrq := rowS_get (pre := pre) (post := post) (d := d3) (j := q) (by omega)
        have hst1 := rowS_st (pre := pre) (post := post) (d := d3) (j := p) (by first | omega | (simp; omega)) (aget d3 q)
        have hst2 := rowS_st (pre := pre) (post := post) (d := aset d3 p (aget d3 q)) (j := q) (by first | omega | (simp; omega)) (aget d3 p)
        simp [wops_cons, dops_cons, dops_if, dstOf, -st_eq, -ld_eq, -Nat.not_lt, e0, e1, eI, eJ, hpq, hpq']
        refine W_calm (by kernel_rfl) ?_
        simp [wops_cons, dops_cons, dops_if, dstOf, -st_eq, -ld_eq, -Nat.not_lt, e0, e1, eI, eJ, hpd, hqd, hgi, hrp, hrq, hst1, hst2, hwp, hwq]
        rw [← swp_aset]
        refine ⟨_, ?_, p + 1, rfl, q - 1, rfl, by omega, by omega, rfl, _, by simp [hsz3], hfin, (hv3.put _).put _, (hg3.putL _).putL _⟩
        rw [hn]
        exact guard_ar hp0 hq1 hpq
    · refine ⟨_, x + 1, y - 1, d2, rfl, ?_⟩
      simp [e0, e1]
      exact ⟨by omega, hsz2, hv2, hg2⟩
    · rintro o σ4 ⟨tm, rfl, e0, e1, eJ, hjn, hsz4, hv4, hg4⟩
      generalize (Sort.partLoop klt a (x + 1) (y - 1) d2).1 = w at hjn eJ h
      generalize (Sort.partLoop klt a (x + 1) (y - 1) d2).2 = d4 at hsz4 hv4 h
      have hgi := hv4.1
      have hra := rowS_get (pre := pre) (post := post) (d := d4) (j := a) (by omega)
      have hrw := rowS_get (pre := pre) (post := post) (d := d4) (j := w) (by omega)
      have hst1 := rowS_st (pre := pre) (post := post) (d := d4) (j := w) (by first | omega | (simp; omega)) (aget d4 a)
      have hst2 := rowS_st (pre := pre) (post := post) (d := aset d4 w (aget d4 a)) (j := a) (by first | omega | (simp; omega)) (aget d4 w)
      simp [wops_cons, dops_cons, dops_if, dstOf, -st_eq, -ld_eq, -Nat.not_lt, e0, e1, eJ]
      refine W_calm (by kernel_rfl) ?_
      simp [wops_cons, dops_cons, dops_if, dstOf, -st_eq, -ld_eq, -Nat.not_lt, e0, e1, eJ, had, hjn, hgi, hra, hrw, hst1, hst2]
      rw [← swp_aset]
      exact h _ ((hv4.put _).put _) ((hg4.putL _).putL _)
theorem partEq_s (n0 : Nat) (d : Array ByteArray) (hn0 : d.size = n0) (i cap : Nat) (pre post : List Value) (a b pv : Nat) (σ : CSt) (hv : SV σ i pre post d) (hb : b ≤ n0) (hbig : n0 < 2 ^ 40) (hab : a < b) (hpv : pv < b) (Q : Out → CSt → Prop)
    (h : ∀ σ', SV σ' i pre post (Sort.partitionEqual klt d a b pv).2 → But i σ σ' → Q (.ret (.int .i64 (Sort.partitionEqual klt d a b pv).1) false) σ') :
    W E1 (.fn 115 #[.slice (some ⟨i, pre.length, none⟩) n0 cap, .int .i64 a, .int .i64 b, .int .i64 pv] none) σ Q := by
  rw [W_fn (fn := Tryz.f115) Tryz.func115 rfl rfl rfl]
  have had : a < n0 := by omega
  have hpd : pv < n0 := by omega
  have hwb := i64p b (by omega) (by omega)
  obtain ⟨a1, ha1⟩ : ∃ a1, a1 = a + 1 := ⟨_, rfl⟩
  have hwa : IntKind.i64.wrap ((a : Int) + 1) = (a1 : Int) := by rw [i64n1 a (by omega), ha1]
  obtain ⟨b1, hb1⟩ : ∃ b1, b1 = b - 1 := ⟨_, rfl⟩
  rw [← hb1] at hwb
  have hb1n : b1 < n0 := by omega
  have h1a : 1 ≤ a1 := by omega
  have hgi := hv.1
  have hra := rowS_get (pre := pre) (post := post) (d := d) (j := a) (by omega)
  have hrp := rowS_get (pre := pre) (post := post) (d := d) (j := pv) (by omega)
  have hst1 := rowS_st (pre := pre) (post := post) (d := d) (j := a) (by first | omega | (simp; omega)) (aget d pv)
  have hst2 := rowS_st (pre := pre) (post := post) (d := aset d a (aget d pv)) (j := pv) (by first | omega | (simp; omega)) (aget d a)
  unfold Sort.partitionEqual at h
  rw [← ha1, ← hb1] at h
  simp [wops_cons, dops_cons, dops_if, dstOf, -st_eq, -ld_eq, -Nat.not_lt]
  refine W_calm (by kernel_rfl) ?_
  simp [wops_cons, dops_cons, dops_if, dstOf, -st_eq, -ld_eq, -Nat.not_lt, had, hpd, hgi, hra, hrp, hst1, hst2, hwa, hwb]
  rw [← swp_aset]
  have hv1 : SV ((σ.put i (.cells (rowD encS pre post (aset d a (aget d pv))) 9 false)).put i (.cells (rowD encS pre post (Sort.swp d a pv)) 9 false)) i pre post (Sort.swp d a pv) := (hv.put _).put _
  have hg1 : But i σ ((σ.put i (.cells (rowD encS pre post (aset d a (aget d pv))) 9 false)).put i (.cells (rowD encS pre post (Sort.swp d a pv)) 9 false)) := (((But.refl i σ)).putL _).putL _
  have hsz1 : (Sort.swp d a pv).size = n0 := by simp [hn0]
  generalize ((σ.put i (.cells (rowD encS pre post (aset d a (aget d pv))) 9 false)).put i (.cells (rowD encS pre post (Sort.swp d a pv)) 9 false)) = σ1 at hv1 hg1 ⊢
  generalize Sort.swp d a pv = d1 at hv1 hsz1 h
  clear hst1 hst2
  refine W_loop_J (fun n A s => ∃ tm u v d', A = ⟨tm, 84, [], false⟩ ∧ tm.get 0 = some (.slice (some ⟨i, pre.length, none⟩) n0 cap) ∧ tm.get 1 = some (.int .i64 a) ∧ tm.get 9 = some (.int .i64 (u : Nat)) ∧ tm.get 10 = some (.int .i64 (v : Nat)) ∧ 1 ≤ u ∧ v < n0 ∧ n = v + 1 - u ∧ d'.size = n0 ∧ Sort.partEqLoop klt a u v d' = Sort.partEqLoop klt a a1 b1 d1 ∧ SV s i pre post d' ∧ But i σ s)
    (fun o s => ∃ tm, o = .code (.exit 0) ⟨tm, 84, [], false⟩ ∧ tm.get 9 = some (.int .i64 ((Sort.partEqLoop klt a a1 b1 d1).1 : Nat)) ∧ SV s i pre post (Sort.partEqLoop klt a a1 b1 d1).2 ∧ But i σ s) ?_ (b1 + 1 - a1) _ _ ?_ ?_
  · rintro n A σ3 ⟨tm, u, v, d3, rfl, e0, e1, eI, eJ, hu, hvn, hn, hsz3, hfin, hv3, hg3⟩
    rw [Sort.partEqLoop_eq] at hfin
    simp [wops_cons, dops_cons, dops_if, dstOf, -st_eq, -ld_eq, -Nat.not_lt]
    refine W_loop_J (fun n A s => ∃ tm k, A = ⟨tm, 84, [], false⟩ ∧ tm.get 0 = some (.slice (some ⟨i, pre.length, none⟩) n0 cap) ∧ tm.get 1 = some (.int .i64 a) ∧ tm.get 9 = some (.int .i64 (k : Nat)) ∧ tm.get 10 = some (.int .i64 (v : Nat)) ∧ u ≤ k ∧ k ≤ max u (v + 1) ∧ n = v + 1 - k ∧ Sort.scanUp (fun x => !klt d3[a]! x) d3 v k = Sort.scanUp (fun x => !klt d3[a]! x) d3 v u ∧ s = σ3)
      (fun o s => ∃ tm x, o = .code (.exit 2) ⟨tm, 84, [], false⟩ ∧ tm.get 0 = some (.slice (some ⟨i, pre.length, none⟩) n0 cap) ∧ tm.get 1 = some (.int .i64 a) ∧ tm.get 9 = some (.int .i64 (x : Nat)) ∧ tm.get 10 = some (.int .i64 (v : Nat)) ∧ x = Sort.scanUp (fun x => !klt d3[a]! x) d3 v u ∧ u ≤ x ∧ x ≤ max u (v + 1) ∧ s = σ3) ?_ (v + 1 - u) _ _ ?_ ?_
    · rintro n A s ⟨tm, k, rfl, e0, e1, eI, eJ, hk0, hk1, hn, hsc, hs⟩
      rw [hs]
      have hgi := hv3.1
      by_cases hkj : k ≤ v
      · have hkj' : (k : Int) ≤ (v : Nat) := by omega
        have hkd : k < n0 := by omega
        have hwk := i64n1 k (by omega)
        have hrk := rowS_get (pre := pre) (post := post) (d := d3) (j := k) (by omega)
        have hra := rowS_get (pre := pre) (post := post) (d := d3) (j := a) (by omega)
        simp [wops_cons, dops_cons, dops_if, dstOf, -st_eq, -ld_eq, -Nat.not_lt, e0, e1, eI, eJ, hkj, hkj']
        refine W_calm (by kernel_rfl) ?_
        simp [wops_cons, dops_cons, dops_if, dstOf, -st_eq, -ld_eq, -Nat.not_lt, e0, e1, eI, eJ, hkj, hkj', hkd, had, hgi, hrk, hra]
        refine less_s _ _ _ _ ?_
        cases hl : klt (aget d3 a) (aget d3 k)
        ·
          have hl2 := hl
          unfold aget at hl2
          have hgo : Sort.scanUp (fun x => !klt d3[a]! x) d3 v (k + 1) = Sort.scanUp (fun x => !klt d3[a]! x) d3 v u := by
            rw [← hsc]
            conv => rhs; rw [Sort.scanUp]
            rw [if_pos (by simp [hl2, hkj])]
          simp [wops_cons, dops_cons, dops_if, dstOf, -st_eq, -ld_eq, -Nat.not_lt, e0, e1, eI, eJ, hl, hwk]
          exact ⟨_, by omega, k + 1, rfl, by omega, by omega, rfl, hgo⟩
        ·
          unfold aget at hl
          have hend : k = Sort.scanUp (fun x => !klt d3[a]! x) d3 v u := by rw [← hsc, Sort.scanUp, if_neg (by simp [hl])]
          simp [wops_cons, dops_cons, dops_if, dstOf, -st_eq, -ld_eq, -Nat.not_lt, e0, e1, eI, eJ]
          exact ⟨k, rfl, hend, hk0, by omega⟩
      · have hkj' : ¬ (k : Int) ≤ (v : Nat) := by omega
        have hend : k = Sort.scanUp (fun x => !klt d3[a]! x) d3 v u := by rw [← hsc, Sort.scanUp, if_neg (by simp [hkj])]
        simp [wops_cons, dops_cons, dops_if, dstOf, -st_eq, -ld_eq, -Nat.not_lt, e0, e1, eI, eJ, hkj, hkj']
        refine W_calm (by kernel_rfl) ?_
        simp [wops_cons, dops_cons, dops_if, dstOf, -st_eq, -ld_eq, -Nat.not_lt, e0, e1, eI, eJ, hkj, hkj']
        exact ⟨k, rfl, hend, hk0, by omega⟩
    · refine ⟨_, u, rfl, ?_⟩
      simp [e0, e1, eI, eJ]
      try omega
    rintro o s ⟨tm, p, rfl, e0, e1, eI, eJ, hp, hp0, hp1, hs⟩
    rw [hs]
    simp [wops_cons, dops_cons, dops_if, dstOf, -st_eq, -ld_eq, -Nat.not_lt]
    refine W_loop_J (fun n A s => ∃ tm k, A = ⟨tm, 84, [], false⟩ ∧ tm.get 0 = some (.slice (some ⟨i, pre.length, none⟩) n0 cap) ∧ tm.get 1 = some (.int .i64 a) ∧ tm.get 9 = some (.int .i64 (p : Nat)) ∧ tm.get 10 = some (.int .i64 (k : Nat)) ∧ k ≤ v ∧ n = k ∧ Sort.scanDown (fun x => klt d3[a]! x) d3 p k = Sort.scanDown (fun x => klt d3[a]! x) d3 p v ∧ s = σ3)
      (fun o s => ∃ tm y, o = .code (.exit 4) ⟨tm, 84, [], false⟩ ∧ tm.get 0 = some (.slice (some ⟨i, pre.length, none⟩) n0 cap) ∧ tm.get 1 = some (.int .i64 a) ∧ tm.get 9 = some (.int .i64 (p : Nat)) ∧ tm.get 10 = some (.int .i64 (y : Nat)) ∧ y = Sort.scanDown (fun x => klt d3[a]! x) d3 p v ∧ y ≤ v ∧ s = σ3) ?_ (v) _ _ ?_ ?_
    · rintro n A s ⟨tm, k, rfl, e0, e1, eI, eJ, hk0, hn, hsc, hs⟩
      rw [hs]
      have hgi := hv3.1
      by_cases hkj : p ≤ k
      · obtain ⟨k2, hk2⟩ : ∃ k2, k = k2 + 1 := ⟨k - 1, by omega⟩
        have hkj' : (p : Int) ≤ (k : Nat) := by omega
        have hkd : k < n0 := by omega
        have hwk := i64p k (by omega) (by omega)
        have hrk := rowS_get (pre := pre) (post := post) (d := d3) (j := k) (by omega)
        have hra := rowS_get (pre := pre) (post := post) (d := d3) (j := a) (by omega)
        simp [wops_cons, dops_cons, dops_if, dstOf, -st_eq, -ld_eq, -Nat.not_lt, e0, e1, eI, eJ, hkj, hkj']
        refine W_calm (by kernel_rfl) ?_
        simp [wops_cons, dops_cons, dops_if, dstOf, -st_eq, -ld_eq, -Nat.not_lt, e0, e1, eI, eJ, hkj, hkj', hkd, had, hgi, hrk, hra]
        refine less_s _ _ _ _ ?_
        cases hl : klt (aget d3 a) (aget d3 k)
        ·
          unfold aget at hl
          have hend : k = Sort.scanDown (fun x => klt d3[a]! x) d3 p v := by rw [← hsc, hk2, Sort.scanDown, if_neg (by rw [← hk2]; simp [hl])]
          simp [wops_cons, dops_cons, dops_if, dstOf, -st_eq, -ld_eq, -Nat.not_lt, e0, e1, eI, eJ]
          exact ⟨k, rfl, hend, hk0⟩
        ·
          have hl2 := hl
          unfold aget at hl2
          have hgo : Sort.scanDown (fun x => klt d3[a]! x) d3 p (k - 1) = Sort.scanDown (fun x => klt d3[a]! x) d3 p v := by
            rw [← hsc, hk2]
            conv => rhs; rw [Sort.scanDown]
            rw [if_pos (by rw [← hk2]; simp [hl2, hkj])]
            rfl
          simp [wops_cons, dops_cons, dops_if, dstOf, -st_eq, -ld_eq, -Nat.not_lt, e0, e1, eI, eJ, hl, hwk]
          exact ⟨_, by omega, k - 1, rfl, by omega, rfl, hgo⟩
      · have hkj' : ¬ (p : Int) ≤ (k : Nat) := by omega
        have hend : k = Sort.scanDown (fun x => klt d3[a]! x) d3 p v := by
          rw [← hsc]
          cases k with
          | zero => rfl
          | succ k => rw [Sort.scanDown, if_neg (by simp; omega)]
        simp [wops_cons, dops_cons, dops_if, dstOf, -st_eq, -ld_eq, -Nat.not_lt, e0, e1, eI, eJ, hkj, hkj']
        refine W_calm (by kernel_rfl) ?_
        simp [wops_cons, dops_cons, dops_if, dstOf, -st_eq, -ld_eq, -Nat.not_lt, e0, e1, eI, eJ, hkj, hkj']
        exact ⟨k, rfl, hend, hk0⟩
    · refine ⟨_, v, rfl, ?_⟩
      simp [e0, e1, eI, eJ]
    rintro o s ⟨tm, q, rfl, e0, e1, eI, eJ, hq, hq1, hs⟩
    rw [hs]
    rw [← hp, ← hq] at hfin
    by_cases hpq : q < p
    · have hpq' : (q : Int) < p := by omega
      rw [if_pos hpq] at hfin
      have hf1 : p = (Sort.partEqLoop klt a a1 b1 d1).1 := by rw [← hfin]
      have hf2 : d3 = (Sort.partEqLoop klt a a1 b1 d1).2 := by rw [← hfin]
      simp [wops_cons, dops_cons, dops_if, dstOf, -st_eq, -ld_eq, -Nat.not_lt, e0, e1, eI, eJ, hpq, hpq']
      rw [← hf1, ← hf2]
      exact ⟨rfl, hv3, hg3⟩
    · have hpq' : ¬ (q : Int) < p := by omega
      rw [if_neg hpq] at hfin
      have hpd : p < n0 := by omega
      have hqd : q < n0 := by omega
      have hwp := i64n1 p (by omega)
      have hwq := i64p q (by omega) (by omega)
      have hgi := hv3.1
      have hrp := rowS_get (pre := pre) (post := post) (d := d3) (j := p) (by omega)
      have hrq := rowS_get (pre := pre) (post := post) (d := d3) (j := q) (by omega)
      have hst1 := rowS_st (pre := pre) (post := post) (d := d3) (j := p) (by first | omega | (simp; omega)) (aget d3 q)
      have hst2 := rowS_st (pre := pre) (post := post) (d := aset d3 p (aget d3 q)) (j := q) (by first | omega | (simp; omega)) (aget d3 p)
      simp [wops_cons, dops_cons, dops_if, dstOf, -st_eq, -ld_eq, -Nat.not_lt, e0, e1, eI, eJ, hpq, hpq']
      refine W_calm (by kernel_rfl) ?_
      simp [wops_cons, dops_cons, dops_if, dstOf, -st_eq, -ld_eq, -Nat.not_lt, e0, e1, eI, eJ, hpd, hqd, hgi, hrp, hrq, hst1, hst2, hwp, hwq]
      rw [← swp_aset]
      refine ⟨_, ?_, p + 1, rfl, q - 1, rfl, by omega, by omega, rfl, _, by simp [hsz3], hfin, (hv3.put _).put _, (hg3.putL _).putL _⟩
      rw [hn]
      exact guard_ar hp0 hq1 hpq
  · refine ⟨_, a1, b1, d1, rfl, ?_⟩
    simp
    exact ⟨h1a, hb1n, hsz1, hv1, hg1⟩
  · rintro o σ4 ⟨tm, rfl, eI, hv4, hg4⟩
    simp [wops_cons, dops_cons, dops_if, dstOf, -st_eq, -ld_eq, -Nat.not_lt, eI]
    exact h σ4 hv4 hg4
end Go.Sm
/- Sorting strings: pdqsort. -/
set_option linter.unusedVariables false
set_option linter.unusedSimpArgs false
namespace Go.Sm
open Go Go.Proofs
set_option maxRecDepth 100000
set_option maxHeartbeats 4000000
theorem swo_klt : Sort.SWO klt where
  irrefl x := bl_irrefl _
  trans x y z h h' := bl_trans h h'
  ntrans x y z h h' := by
    cases hc : klt x z with
    | false => rfl
    | true =>
      exfalso
      cases hyx : klt y x with
      | true => exact absurd (bl_trans hyx hc) (by unfold klt at h'; rw [h']; simp)
      | false =>
        have e : x = y := ba_list_inj (bl_tri h hyx)
        rw [e, h'] at hc; cases hc
theorem pdq_ar {a b x : Nat} (h1 : a ≤ x) (h2 : x < b) : ((b - 1) - (x - a) : Nat) = b - 1 - (x - a) ∧ a ≤ b - 1 - (x - a) ∧ b - 1 - (x - a) < b := by omega
/-- What is left to be done. -/
structure Left (a b : Nat) (d : Array ByteArray) (n0 a' b' : Nat) (d' : Array ByteArray) : Prop where
  le : a' ≤ b'
  hi : b' ≤ n0
  sz : d'.size = n0
  bel : Sort.Below klt a' b' d'
  fin : ∀ R, Sort.PermIn a' b' d' R → Sort.SortedIn klt a' b' R → Sort.PermIn a b d R ∧ Sort.SortedIn klt a b R
theorem Left.perm {a b n0 a' b' : Nat} {d d' d2 : Array ByteArray} (h : Left a b d n0 a' b' d') (hp : Sort.PermIn a' b' d' d2) : Left a b d n0 a' b' d2 :=
  ⟨h.le, h.hi, by rw [hp.1]; exact h.sz, h.bel.perm (by rw [h.sz]; exact h.hi) hp, fun R h1 h2 => h.fin R (Sort.permIn_trans _ _ _ _ _ hp h1) h2⟩
theorem pdq_s (n0 i cap : Nat) (pre post : List Value) (hbig : n0 < 2 ^ 40) : ∀ (m a b l : Nat) (d : Array ByteArray) (σ : CSt) (Q : Out → CSt → Prop), b - a ≤ m → d.size = n0 → SV σ i pre post d → a ≤ b → b ≤ n0 → l < 2 ^ 40 → Sort.Below klt a b d →
    (∀ σ' d', Sort.PermIn a b d d' → Sort.SortedIn klt a b d' → SV σ' i pre post d' → But i σ σ' → Q (.ret (.tuple #[]) false) σ') →
    W E1 (.fn 92 #[.slice (some ⟨i, pre.length, none⟩) n0 cap, .int .i64 a, .int .i64 b, .int .i64 l] none) σ Q := by
  intro m
  induction m using Nat.strongRecOn with
  | _ m IH =>
  intro a b l d σ Q hm hn0 hv hab hb hl40 hbel h
  rw [W_fn (fn := Tryz.f92) Tryz.func92 rfl rfl rfl]
  simp [wops_cons, dops_cons, dops_if, dstOf, -st_eq, -ld_eq, -Nat.not_lt]
  refine W_loop_inv (fun n A s => ∃ tm a' b' l' wb wp d', A = ⟨tm, 134, [], false⟩ ∧ tm.get 0 = some (.slice (some ⟨i, pre.length, none⟩) n0 cap) ∧ tm.get 1 = some (.int .i64 (a' : Nat)) ∧ tm.get 2 = some (.int .i64 (b' : Nat)) ∧ tm.get 3 = some (.int .i64 (l' : Nat)) ∧ tm.get 8 = some (.bool wb) ∧ tm.get 9 = some (.bool wp) ∧ b' - a' ≤ m ∧ n = b' - a' ∧ l' < 2 ^ 40 ∧ Left a b d n0 a' b' d' ∧ SV s i pre post d' ∧ But i σ s) ?_ (b - a) _ _ ?_
  · rintro n A σ1 ⟨tm, a', b', l', wb, wp, d1, rfl, e0, e1, e2, e3, e8, e9, hsub, hn, hl', hL, hv1, hg1⟩
    have hab' := hL.le
    have hbn := hL.hi
    have hw1 : IntKind.i64.wrap ((b' : Int) - a') = ((b' - a' : Nat) : Int) := by rw [IntWalk.i64_in _ (by omega)]; omega
    obtain ⟨len, hlen⟩ : ∃ len, len = b' - a' := ⟨_, rfl⟩
    rw [← hlen] at hw1 hsub hn
    by_cases h12 : len ≤ 12
    · have h12' : (len : Int) ≤ 12 := by omega
      simp [wops_cons, dops_cons, dops_if, dstOf, -st_eq, -ld_eq, -Nat.not_lt, e0, e1, e2, e3, hw1, h12, h12']
      refine insSort_n n0 d1 hL.sz i cap pre post a' b' σ1 hv1 hbn hbig hab' _ fun σ2 hv2 hg2 => ?_
      have hi := Sort.insertionSort_holds (lt := klt) swo_klt d1 a' b' hab' (by rw [hL.sz]; exact hbn)
      obtain ⟨f1, f2⟩ := hL.fin _ hi.1 hi.2
      simp [wops_cons, dops_cons, dops_if, dstOf, -st_eq, -ld_eq, -Nat.not_lt]
      exact h σ2 _ f1 f2 hv2 (hg1.trans hg2)
    · have h12' : ¬ (len : Int) ≤ 12 := by omega
      by_cases hl0 : l' = 0
      · have hl0' : (l' : Int) = 0 := by omega
        simp [wops_cons, dops_cons, dops_if, dstOf, -st_eq, -ld_eq, -Nat.not_lt, e0, e1, e2, e3, hw1, h12, h12', hl0, hl0']
        refine heap_s n0 d1 hL.sz i cap pre post a' b' σ1 hv1 hbn hbig hab' _ fun σ2 hv2 hg2 => ?_
        have hi := Sort.heapSort_holds (lt := klt) swo_klt d1 a' b' hab' (by rw [hL.sz]; exact hbn)
        obtain ⟨f1, f2⟩ := hL.fin _ hi.1 hi.2
        simp [wops_cons, dops_cons, dops_if, dstOf, -st_eq, -ld_eq, -Nat.not_lt]
        exact h σ2 _ f1 f2 hv2 (hg1.trans hg2)
      · have hl0' : ¬ (l' : Int) = 0 := by omega
        have hwl := i64p l' (by omega) (by omega)
        simp [wops_cons, dops_cons, dops_if, dstOf, -st_eq, -ld_eq, -Nat.not_lt, -W_condK, W_cond_t, W_cond_f, e0, e1, e2, e3, e8, hw1, h12, h12', hl0, hl0']
        refine W_cut (fun o s => ∃ tm l'' d', o = .code .normal ⟨tm, 134, [], false⟩ ∧ tm.get 0 = some (.slice (some ⟨i, pre.length, none⟩) n0 cap) ∧ tm.get 1 = some (.int .i64 (a' : Nat)) ∧ tm.get 2 = some (.int .i64 (b' : Nat)) ∧ tm.get 3 = some (.int .i64 (l'' : Nat)) ∧ tm.get 8 = some (.bool wb) ∧ tm.get 9 = some (.bool wp) ∧ tm.get 10 = some (.int .i64 (len : Nat)) ∧ l'' < 2 ^ 40 ∧ Left a b d n0 a' b' d' ∧ SV s i pre post d' ∧ But i σ s) ?_ ?_
        · cases wb with
          | true =>
            simp [wops_cons, dops_cons, dops_if, dstOf, -st_eq, -ld_eq, -Nat.not_lt, e0, e1, e2, e3, e8, e9]
            exact ⟨l', rfl, hl', d1, hL, hv1, hg1⟩
          | false =>
            simp [wops_cons, dops_cons, dops_if, dstOf, -st_eq, -ld_eq, -Nat.not_lt, e0, e1, e2, e3, e8, e9]
            refine break_s n0 d1 hL.sz i cap pre post a' b' σ1 hv1 hbn hbig hab' _ fun σ2 d2 hp2 hv2 hg2 => ?_
            simp [wops_cons, dops_cons, dops_if, dstOf, -st_eq, -ld_eq, -Nat.not_lt, e0, e1, e2, e3, e8, e9, hwl]
            exact ⟨l' - 1, rfl, by omega, d2, hL.perm hp2, hv2, hg1.trans hg2⟩
        · clear e0 e1 e2 e3 e8 e9 hl' hL hv1 hg1 hwl hl0 hl0'
          rintro o σ2 ⟨tm, l2, d2, rfl, e0, e1, e2, e3, e8, e9, e10, hl2, hL, hv2, hg2⟩
          have hab2 : a' < b' := by omega
          simp [wops_cons, dops_cons, dops_if, dstOf, -st_eq, -ld_eq, -Nat.not_lt, -W_condK, W_cond_t, W_cond_f, e0, e1, e2]
          refine pivot_s n0 d2 hL.sz i cap pre post a' b' σ2 hv2 hbn hbig hab2 _ fun p hint σ3 hp0 hp1 hhint hv3 hg3' => ?_
          have hg3 := hg2.trans hg3'
          simp [wops_cons, dops_cons, dops_if, dstOf, -st_eq, -ld_eq, -Nat.not_lt, -W_condK, W_cond_t, W_cond_f]
          refine W_cut (fun o s => ∃ tm p' hint' d', o = .code .normal ⟨tm, 134, [], false⟩ ∧ tm.get 0 = some (.slice (some ⟨i, pre.length, none⟩) n0 cap) ∧ tm.get 1 = some (.int .i64 (a' : Nat)) ∧ tm.get 2 = some (.int .i64 (b' : Nat)) ∧ tm.get 3 = some (.int .i64 (l2 : Nat)) ∧ tm.get 8 = some (.bool wb) ∧ tm.get 9 = some (.bool wp) ∧ tm.get 10 = some (.int .i64 (len : Nat)) ∧ tm.get 11 = some (.int .i64 (p' : Nat)) ∧ tm.get 12 = some (.int .i64 hint') ∧ a' ≤ p' ∧ p' < b' ∧ Left a b d n0 a' b' d' ∧ SV s i pre post d' ∧ But i σ s) ?_ ?_
          · by_cases hh2 : hint = 2
            · subst hh2
              simp [wops_cons, dops_cons, dops_if, dstOf, -st_eq, -ld_eq, -Nat.not_lt, e0, e1, e2, e3, e8, e9, e10]
              refine rev_s n0 d2 hL.sz i cap pre post a' b' σ3 hv3 hbn hbig hab2 _ fun σ4 hv4 hg4 => ?_
              have hr := Sort.reverseRange_holds (α := ByteArray) d2 a' b' hab' (by rw [hL.sz]; exact hbn)
              obtain ⟨q0, q1, q2⟩ := pdq_ar hp0 hp1
              have hwb1 := i64p b' (by omega) (by omega)
              have hwpa : IntKind.i64.wrap ((p : Int) - a') = ((p - a' : Nat) : Int) := by rw [IntWalk.i64_in _ (by omega)]; omega
              have hwpb : IntKind.i64.wrap (((b' - 1 : Nat) : Int) - ((p - a' : Nat) : Int)) = ((b' - 1 - (p - a') : Nat) : Int) := by rw [IntWalk.i64_in _ (by omega)]; omega
              simp [wops_cons, dops_cons, dops_if, dstOf, -st_eq, -ld_eq, -Nat.not_lt, e0, e1, e2, e3, e8, e9, e10, hwb1, hwpa, hwpb]
              exact ⟨_, rfl, q1, q2, _, hL.perm hr, hv4, hg3.trans hg4⟩
            · simp [wops_cons, dops_cons, dops_if, dstOf, -st_eq, -ld_eq, -Nat.not_lt, e0, e1, e2, e3, e8, e9, e10, hh2]
              exact ⟨p, rfl, hp0, hp1, d2, hL, hv3, hg3⟩
          · clear e0 e1 e2 e3 e8 e9 e10 hL hv2 hg2 hv3 hg3 hg3' hp0 hp1 hhint
            rintro o σ4 ⟨tm, p, hint, d4, rfl, e0, e1, e2, e3, e8, e9, e10, e11, e12, hp0, hp1, hL, hv4, hg4⟩
            simp [wops_cons, dops_cons, dops_if, dstOf, -st_eq, -ld_eq, -Nat.not_lt, -W_condK, W_cond_t, W_cond_f, -W_region]
            refine W_cut (fun o s => ∃ tm g, o = .code .normal ⟨tm, 134, [], false⟩ ∧ tm.get 0 = some (.slice (some ⟨i, pre.length, none⟩) n0 cap) ∧ tm.get 1 = some (.int .i64 (a' : Nat)) ∧ tm.get 2 = some (.int .i64 (b' : Nat)) ∧ tm.get 3 = some (.int .i64 (l2 : Nat)) ∧ tm.get 8 = some (.bool wb) ∧ tm.get 9 = some (.bool wp) ∧ tm.get 10 = some (.int .i64 (len : Nat)) ∧ tm.get 11 = some (.int .i64 (p : Nat)) ∧ tm.get 68 = some (.bool g) ∧ s = σ4) ?_ ?_
            · cases wb with
              | false =>
                simp [wops_cons, dops_cons, dops_if, dstOf, -st_eq, -ld_eq, -Nat.not_lt, wops_if', e0, e1, e2, e3, e8, e9, e10, e11, e12]
              | true =>
                cases wp with
                | false => simp [wops_cons, dops_cons, dops_if, dstOf, -st_eq, -ld_eq, -Nat.not_lt, wops_if', e0, e1, e2, e3, e8, e9, e10, e11, e12]
                | true => simp [wops_cons, dops_cons, dops_if, dstOf, -st_eq, -ld_eq, -Nat.not_lt, wops_if', e0, e1, e2, e3, e8, e9, e10, e11, e12]; omega
            · clear e0 e1 e2 e3 e8 e9 e10 e11 e12
              rintro o s ⟨tm, g, rfl, e0, e1, e2, e3, e8, e9, e10, e11, e68, hs⟩
              rw [hs]
              clear hs s
              simp [wops_cons, dops_cons, dops_if, dstOf, -st_eq, -ld_eq, -Nat.not_lt, -W_condK, W_cond_t, W_cond_f, -W_region]
              refine W_cut (fun o s => (o = .code .ret ⟨.nil, 134, [], false⟩ ∧ False) ∨ (∃ tm, o = .code .ret ⟨tm, 134, [], false⟩ ∧ Q (.ret (.tuple #[]) false) s) ∨ ∃ tm d', o = .code .normal ⟨tm, 134, [], false⟩ ∧ tm.get 0 = some (.slice (some ⟨i, pre.length, none⟩) n0 cap) ∧ tm.get 1 = some (.int .i64 (a' : Nat)) ∧ tm.get 2 = some (.int .i64 (b' : Nat)) ∧ tm.get 3 = some (.int .i64 (l2 : Nat)) ∧ tm.get 8 = some (.bool wb) ∧ tm.get 9 = some (.bool wp) ∧ tm.get 10 = some (.int .i64 (len : Nat)) ∧ tm.get 11 = some (.int .i64 (p : Nat)) ∧ Left a b d n0 a' b' d' ∧ SV s i pre post d' ∧ But i σ s) ?_ ?_
              · cases g with
                | false =>
                  simp [wops_cons, dops_cons, dops_if, dstOf, -st_eq, -ld_eq, -Nat.not_lt, e0, e1, e2, e3, e8, e9, e10, e11, e68]
                  exact ⟨d4, hL, hv4, hg4⟩
                | true =>
                  simp [wops_cons, dops_cons, dops_if, dstOf, -st_eq, -ld_eq, -Nat.not_lt, e0, e1, e2, e3, e8, e9, e10, e11, e68]
                  refine partIns_s n0 d4 hL.sz i cap pre post a' b' σ4 hv4 hbn hbig hab2 _ fun σ5 hv5 hg5 => ?_
                  obtain ⟨f1, f2⟩ := Sort.partialInsertionSort_holds (lt := klt) swo_klt d4 a' b' hab2 (by rw [hL.sz]; exact hbn) hL.bel
                  generalize (Sort.partialInsertionSort klt d4 a' b').1 = d5 at f1 f2 hv5
                  generalize (Sort.partialInsertionSort klt d4 a' b').2 = r5 at f2
                  cases r5 with
                  | true =>
                    obtain ⟨f3, f4⟩ := hL.fin _ f1 (f2 rfl)
                    simp [wops_cons, dops_cons, dops_if, dstOf, -st_eq, -ld_eq, -Nat.not_lt, e0, e1, e2, e3, e8, e9, e10, e11, e68]
                    exact h σ5 d5 f3 f4 hv5 (hg4.trans hg5)
                  | false =>
                    simp [wops_cons, dops_cons, dops_if, dstOf, -st_eq, -ld_eq, -Nat.not_lt, e0, e1, e2, e3, e8, e9, e10, e11, e68]
                    exact ⟨d5, hL.perm f1, hv5, hg4.trans hg5⟩
              · clear e0 e1 e2 e3 e8 e9 e10 e11 e68 hL hv4 hg4
                rintro o σ5 (⟨rfl, h0⟩ | ⟨tm, rfl, hq⟩ | ⟨tm, d5, rfl, e0, e1, e2, e3, e8, e9, e10, e11, hL, hv5, hg5⟩)
                · exact h0.elim
                · simp [wops_cons, dops_cons, dops_if, dstOf, -st_eq, -ld_eq, -Nat.not_lt]
                  exact hq
                have hpn : p < n0 := by omega
                simp [wops_cons, dops_cons, dops_if, dstOf, -st_eq, -ld_eq, -Nat.not_lt, -W_condK, W_cond_t, W_cond_f, -W_region]
                refine W_cut (fun o s => ∃ tm g, o = .code .normal ⟨tm, 134, [], false⟩ ∧ tm.get 0 = some (.slice (some ⟨i, pre.length, none⟩) n0 cap) ∧ tm.get 1 = some (.int .i64 (a' : Nat)) ∧ tm.get 2 = some (.int .i64 (b' : Nat)) ∧ tm.get 3 = some (.int .i64 (l2 : Nat)) ∧ tm.get 8 = some (.bool wb) ∧ tm.get 9 = some (.bool wp) ∧ tm.get 10 = some (.int .i64 (len : Nat)) ∧ tm.get 11 = some (.int .i64 (p : Nat)) ∧ tm.get 87 = some (.bool g) ∧ (g = true → 0 < a' ∧ klt (aget d5 (a' - 1)) (aget d5 p) = false) ∧ s = σ5) ?_ ?_
                · refine W_calm (by kernel_rfl) ?_
                  have hgi := hv5.1
                  have hsz5 := hL.sz
                  by_cases ha0 : 0 < a'
                  · have ha0' : (0 : Int) < a' := by omega
                    have han : a' - 1 < n0 := by omega
                    have hwa := i64p a' ha0 (by omega)
                    have hra := rowS_get (pre := pre) (post := post) (d := d5) (j := a' - 1) (by omega)
                    have hrp := rowS_get (pre := pre) (post := post) (d := d5) (j := p) (by omega)
                    simp [wops_cons, dops_cons, dops_if, dstOf, -st_eq, -ld_eq, -Nat.not_lt, e0, e1, e2, e3, e8, e9, e10, e11, ha0, ha0', hwa, han, hpn, hgi, hra, hrp]
                    refine less_s _ _ _ _ ?_
                    cases hl : klt (aget d5 (a' - 1)) (aget d5 p)
                    · simp [wops_cons, dops_cons, dops_if, dstOf, -st_eq, -ld_eq, -Nat.not_lt, e0, e1, e2, e3, e8, e9, e10, e11, hl, ha0]
                    · simp [wops_cons, dops_cons, dops_if, dstOf, -st_eq, -ld_eq, -Nat.not_lt, e0, e1, e2, e3, e8, e9, e10, e11, hl, ha0]
                  · have ha0' : ¬ (0 : Int) < a' := by omega
                    simp [wops_cons, dops_cons, dops_if, dstOf, -st_eq, -ld_eq, -Nat.not_lt, e0, e1, e2, e3, e8, e9, e10, e11, ha0, ha0']
                · clear e0 e1 e2 e3 e8 e9 e10 e11
                  rintro o s ⟨tm, g, rfl, e0, e1, e2, e3, e8, e9, e10, e11, e87, hg, hs⟩
                  rw [hs]
                  clear hs s
                  cases g with
                  | true =>
                    obtain ⟨ha0, hnl⟩ := hg rfl
                    simp [wops_cons, dops_cons, dops_if, dstOf, -st_eq, -ld_eq, -Nat.not_lt, e0, e1, e2, e3, e8, e9, e10, e11, e87]
                    refine partEq_s n0 d5 hL.sz i cap pre post a' b' p σ5 hv5 hbn hbig hab2 hp1 _ fun σ6 hv6 hg6 => ?_
                    have hre := Sort.round_eq (lt := klt) (d4 := (Sort.partitionEqual klt d5 a' b' p).2) (mid := (Sort.partitionEqual klt d5 a' b' p).1) swo_klt (Sort.partitionEqual_holds klt) ha0 hp0 hp1 (by rw [hL.sz]; exact hbn) hL.bel hnl rfl
                    generalize (Sort.partitionEqual klt d5 a' b' p).2 = d6 at hre hv6
                    generalize (Sort.partitionEqual klt d5 a' b' p).1 = mid at hre
                    obtain ⟨k1, k2, k3, k4, k5⟩ := hre
                    simp [wops_cons, dops_cons, dops_if, dstOf, -st_eq, -ld_eq, -Nat.not_lt, e0, e1, e2, e3, e8, e9, e10, e11]
                    exact ⟨b' - mid, by omega, mid, rfl, b', rfl, l2, rfl, by omega, rfl, hl2, d6, ⟨k2, hbn, by rw [k3]; exact hL.sz, k4, fun R r1 r2 => hL.fin R (k5 R r1 r2).1 (k5 R r1 r2).2⟩, hv6, hg5.trans hg6⟩
                  | false =>
                    simp [wops_cons, dops_cons, dops_if, dstOf, -st_eq, -ld_eq, -Nat.not_lt, e0, e1, e2, e3, e8, e9, e10, e11, e87]
                    refine part_s n0 d5 hL.sz i cap pre post a' b' p σ5 hv5 hbn hbig hab2 hp1 _ fun σ6 hv6 hg6 => ?_
                    have hre := Sort.round_part (lt := klt) (d4 := (Sort.partition klt d5 a' b' p).2.2) (mid := (Sort.partition klt d5 a' b' p).1) (ap := (Sort.partition klt d5 a' b' p).2.1) swo_klt (Sort.partition_holds klt) hp0 hp1 (by rw [hL.sz]; exact hbn) hL.bel rfl
                    generalize (Sort.partition klt d5 a' b' p).2.2 = d6 at hre hv6
                    generalize (Sort.partition klt d5 a' b' p).2.1 = al at hre ⊢
                    generalize (Sort.partition klt d5 a' b' p).1 = mid at hre
                    obtain ⟨k1, k2, k3, k4, k5, k6, k7⟩ := hre
                    have hw5 : IntKind.i64.wrap ((mid : Int) - a') = ((mid - a' : Nat) : Int) := by rw [IntWalk.i64_in _ (by omega)]; omega
                    have hw6 : IntKind.i64.wrap ((b' : Int) - mid) = ((b' - mid : Nat) : Int) := by rw [IntWalk.i64_in _ (by omega)]; omega
                    have hw7 : IntKind.i64.wrap ((len : Int) / 8) = ((len / 8 : Nat) : Int) := by rw [IntWalk.i64_in _ (by omega)]; omega
                    obtain ⟨mid1, hm1⟩ : ∃ mid1, mid1 = mid + 1 := ⟨_, rfl⟩
                    have hw8 : IntKind.i64.wrap ((mid : Int) + 1) = (mid1 : Int) := by rw [i64n1 mid (by omega), hm1]
                    have hsz6 : d6.size = n0 := by rw [k3]; exact hL.sz
                    rw [← hm1] at k5 k6 k7
                    obtain ⟨th, hth⟩ : ∃ th, th = len / 8 := ⟨_, rfl⟩
                    rw [← hth] at hw7
                    by_cases hlr : mid - a' < b' - mid
                    · have hlr' : ((mid - a' : Nat) : Int) < ((b' - mid : Nat) : Int) := by omega
                      simp [wops_cons, dops_cons, dops_if, dstOf, -st_eq, -ld_eq, -Nat.not_lt, e0, e1, e2, e3, e8, e9, e10, e11, hw5, hw6, hw7, hlr, hlr']
                      refine IH (mid - a') (by omega) a' mid l2 d6 σ6 _ (Nat.le_refl _) hsz6 hv6 k1 (by omega) hl2 k4 fun σ7 d7 hp7 hs7 hv7 hg7 => ?_
                      obtain ⟨j1, j2⟩ := k6 d7 hp7 hs7
                      simp [wops_cons, dops_cons, dops_if, dstOf, -st_eq, -ld_eq, -Nat.not_lt, e0, e1, e2, e3, e8, e9, e10, e11, hw8]
                      exact ⟨b' - mid1, by omega, mid1, rfl, b', rfl, l2, rfl, by omega, by omega, rfl, hl2, d7, ⟨by omega, hbn, by rw [hp7.1]; exact hsz6, j1, fun R r1 r2 => hL.fin R (j2 R r1 r2).1 (j2 R r1 r2).2⟩, hv7, (hg5.trans hg6).trans hg7⟩
                    · have hlr' : ¬ ((mid - a' : Nat) : Int) < ((b' - mid : Nat) : Int) := by omega
                      simp [wops_cons, dops_cons, dops_if, dstOf, -st_eq, -ld_eq, -Nat.not_lt, e0, e1, e2, e3, e8, e9, e10, e11, hw5, hw6, hw7, hlr, hlr', hw8]
                      refine IH (b' - mid1) (by omega) mid1 b' l2 d6 σ6 _ (Nat.le_refl _) hsz6 hv6 (by omega) hbn hl2 k5 fun σ7 d7 hp7 hs7 hv7 hg7 => ?_
                      obtain ⟨j1, j2⟩ := k7 d7 hp7 hs7
                      simp [wops_cons, dops_cons, dops_if, dstOf, -st_eq, -ld_eq, -Nat.not_lt, e0, e1, e2, e3, e8, e9, e10, e11]
                      exact ⟨mid - a', by omega, a', rfl, mid, rfl, l2, rfl, by omega, by omega, rfl, hl2, d7, ⟨k1, by omega, by rw [hp7.1]; exact hsz6, j1, fun R r1 r2 => hL.fin R (j2 R r1 r2).1 (j2 R r1 r2).2⟩, hv7, (hg5.trans hg6).trans hg7⟩
  · refine ⟨_, a, b, l, true, true, d, rfl, ?_⟩
    simp
    exact ⟨by omega, hl40, ⟨hab, hb, hn0, hbel, fun R h1 h2 => ⟨h1, h2⟩⟩, hv, But.refl i σ⟩
end Go.Sm
/- Sorting strings: slices.Sort. -/
set_option linter.unusedVariables false
set_option linter.unusedSimpArgs false
namespace Go.Sm
open Go Go.Proofs
set_option maxRecDepth 100000
set_option maxHeartbeats 4000000
theorem permIn_all_list {d d' : Array ByteArray} (h : Sort.PermIn 0 d.size d d') : d'.toList.Perm d.toList := by
  have h1 := h.2.2
  have e1 : d.extract 0 d.size = d := by simp
  have e2 : d'.extract 0 d.size = d' := by rw [← h.1]; simp
  rwa [e1, e2] at h1
theorem sortedIn_all {d' : Array ByteArray} (h : Sort.SortedIn klt 0 d'.size d') : d'.toList.Pairwise fun x y => klt y x = false := by
  rw [List.pairwise_iff_getElem]
  intro i j hi hj hij
  have := h i j (Nat.zero_le _) hij (by simpa using hj)
  rw [getElem!_pos d' i (by simpa using hi), getElem!_pos d' j (by simpa using hj)] at this
  simpa using this
theorem But.growB {b i : Nat} {σ σ' : CSt} (h : But i σ σ') (hi : b ≤ i) (hb : b ≤ σ.n) : GrowB b σ σ' := ⟨h.1, fun j hj => h.2 j (by omega) (by omega)⟩
theorem sort_own (b : Nat) (l : List ByteArray) (v : Value) (σ : CSt) (hb : b ≤ σ.n) (hown : Own b σ 9 encS v l) (hbig : l.length < 2 ^ 38) (Q : Out → CSt → Prop)
    (h : ∀ (l' : List ByteArray) (σ' : CSt), l'.Perm l → (l'.Pairwise fun x y => klt y x = false) → Own b σ' 9 encS v l' → GrowB b σ σ' → Q (.ret (.tuple #[]) false) σ') :
    W E1 (.fn 73 #[v] none) σ Q := by
  rw [W_fn (fn := Tryz.f73) Tryz.func73 rfl rfl rfl]
  rcases hown with ⟨rfl, rfl⟩ | ⟨i, cap, rfl, hbi, hin, hg, hcap⟩
  · have fin := h [] σ (List.Perm.refl _) List.Pairwise.nil Own.nil (GrowB.refl b σ)
    have hw : IntKind.u64.wrap 0 = 0 := by decide
    have hl : Sort.bitsLen 0 = 0 := rfl
    have hw0 : IntKind.i64.wrap 0 = 0 := by decide
    have hwo : IntKind.i64.wrap 1 = 1 := by decide
    simp [wops_cons, hw]
    refine len_spec 0 (by omega) _ _ ?_
    simp [wops_cons, hl]
    rw [W_fn (fn := Tryz.f92) Tryz.func92 rfl rfl rfl]
    simp [wops_cons]
    rw [W_loop]
    simp [wops_cons, hw0]
    rw [W_fn (fn := Tryz.f108) Tryz.func108 rfl rfl rfl]
    simp [wops_cons]
    rw [W_loop]
    simpa [wops_cons, hwo] using fin
  · have hw : IntKind.u64.wrap (l.length : Int) = l.length := IntWalk.u64_in _ (by omega)
    have hbl : Sort.bitsLen l.length < 2 ^ 40 := by
      have := (Sort.bitsLen_le_iff l.length 40).2 (by omega)
      omega
    have hd : l.toArray.size = l.length := by simp
    have hv : SV σ i [] [] l.toArray := ⟨by simpa [rowD] using hg, hin⟩
    simp [wops_cons, hw]
    refine len_spec l.length (by omega) _ _ ?_
    simp [wops_cons]
    refine pdq_s l.length i cap [] [] (by omega) l.length 0 l.length _ l.toArray σ _ (by omega) hd hv (by omega) (Nat.le_refl _) hbl (.inl rfl) fun σ' d' hp hs hv' hg' => ?_
    simp [wops_cons]
    rw [← hd] at hp hs
    have hsz := hp.1
    rw [← hsz] at hs
    have hlen : d'.toList.length = l.length := by simp [hsz]
    refine h d'.toList σ' (by simpa using permIn_all_list hp) (sortedIn_all hs) (.inr ⟨i, cap, by rw [hlen], hbi, hv'.2, by simpa [rowD] using hv'.1, ?_⟩) (hg'.growB hbi hb)
    rcases hcap with h1 | ⟨h1, h2⟩
    · exact .inl h1
    · exact .inr ⟨List.eq_nil_of_length_eq_zero (by rw [hlen, h1]; rfl), h2⟩
end Go.Sm
/- Stores: rows; the comparison, the search; keys. -/
set_option linter.unusedVariables false
set_option linter.unusedSimpArgs false
namespace Go.Sm
open Go Go.Proofs
set_option maxRecDepth 100000
set_option maxHeartbeats 1000000
/-- A row: a key, and where its chain lies. -/
structure RV where
  key : ByteArray
  p : Option Addr
  n : Nat
  c : Nat
def encR (r : RV) : List Value := [.string r.key, .slice r.p r.n r.c]
theorem lenR (r : RV) : (encR r).length = 2 := rfl
open Classical in
noncomputable def ordR (k : ByteArray) (r : RV) : Int := if klt r.key k = true then -1 else if r.key = k then 0 else 1
theorem orderR_spec (k : ByteArray) (r : RV) (σ : CSt) (Q : Out → CSt → Prop) (h : ∀ σ', Grow σ σ' → Q (.ret (.int .i64 (ordR k r)) false) σ') : W E1 (.fn 64 #[.agg (encR r).toArray, .string k] none) σ Q := by
  rw [W_fn (fn := Tryz.f64) Tryz.func64 rfl rfl rfl]
  have hg := h _ ((Grow.refl σ).alloc (CObj.cells (encR r) 116 false))
  simp only [encR, ordR] at hg
  simp [wops_cons, encR]
  cases h1 : klt r.key k
  · by_cases h2 : r.key = k
    · have h3 : r.key.toList = k.toList := by rw [h2]
      have h4 : klt k k = false := bl_irrefl _
      simpa [h1, h2, h3, h4] using hg
    · have h3 : ¬ r.key.toList = k.toList := fun e => h2 (ba_list_inj e)
      simpa [h1, h2, h3] using hg
  · simpa [h1] using hg
theorem search_95 (l : List RV) (v key : Value) (hkey : flat0 key = true) (ord : RV → Int) (σ : CSt) (hsl : Sl σ 116 2 encR v l) (hbig : l.length < 2 ^ 40)
    (hcmp : ∀ (x : RV) (σ : CSt) (Q : Out → CSt → Prop), (∀ σ', Grow σ σ' → Q (.ret (.int .i64 (ord x)) false) σ') → W E1 (.fn 64 #[.agg (encR x).toArray, key] none) σ Q)
    (hmono : ∀ j k (hj : j < l.length) (hk : k < l.length), j < k → ord l[k] < 0 → ord l[j] < 0) (Q : Out → CSt → Prop)
    (h : ∀ (k : Nat) (σ' : CSt), Cut ord l k → Grow σ σ' → Q (.ret (.tuple #[.int .i64 k, .bool (decide (∃ h : k < l.length, ord l[k] = 0))]) false) σ') :
    W E1 (.fn 63 #[v, key, .func (.func 64) #[] #[]] none) σ Q := by
  rw [W_fn (fn := Tryz.f63) Tryz.func63 rfl rfl rfl]
  rcases hsl with ⟨rfl, rfl⟩ | ⟨i, off, cap, row, ro, rfl, hg, hin, hrow, hlen, hcap⟩
  · have := h 0 σ ⟨Nat.le_refl _, by simp, by simp⟩ (Grow.refl σ)
    simp [wops_cons]
    rw [W_loop]
    simp [wops_cons, wops_if', dstOf]
    have e : decide (∃ h : 0 < ([] : List RV).length, ord ([] : List RV)[0] = 0) = false := decide_eq_false fun ⟨h, _⟩ => absurd h (by simp)
    rw [e] at this
    exact this
  simp [wops_cons]
  refine W_loop_inv (fun n a σ' => ∃ tm lo hi, a = ⟨tm, 49, [], false⟩ ∧ tm.get 0 = some (.slice (some ⟨i, off, none⟩) l.length cap) ∧ tm.get 1 = some key ∧ tm.get 2 = some (.func (.func 64) #[] #[]) ∧ tm.get 8 = some (.int .i64 l.length) ∧ tm.get 9 = some (.int .i64 lo) ∧ tm.get 10 = some (.int .i64 hi) ∧
      (0 ≤ lo ∧ lo ≤ hi ∧ hi ≤ l.length ∧ n = (hi - lo).toNat ∧ (∀ j (h : j < l.length), (j : Int) < lo → ord l[j] < 0) ∧ (∀ j (h : j < l.length), hi ≤ j → 0 ≤ ord l[j])) ∧ Grow σ σ') ?_ l.length _ _ ?_
  · rintro n a σ' ⟨tm, lo, hi, rfl, h0, h1, h2, h8, h9, h10, ⟨hlo, hlh, hhi, hn, hl, hr⟩, hgr⟩
    have hgi := hgr.get hg hin
    by_cases hlt : lo < hi
    · have hm := mid_eq lo hi hlo hlt (by omega)
      obtain ⟨m, hmm⟩ : ∃ m : Nat, (lo + hi) / 2 = m := ⟨((lo + hi) / 2).toNat, by omega⟩
      have hm1 : m < l.length := by omega
      have hm2 : lo ≤ m ∧ (m : Int) < hi := by omega
      rw [hmm] at hm
      have hld := row_get (enc := encR) (fun _ => rfl) hrow m hm1
      have hle := row_le hlen m hm1
      have hw := i64n1 m (by omega)
      simp [wops_cons, h0, h1, h2, h8, h9, h10, hlt, hm, hm1, hgi, hld, hle, -List.length_flatMap]
      refine hcmp _ _ _ fun σ'' hgr2 => ?_
      by_cases hc : ord l[m] < 0
      · simp [wops_cons, hc, hw]
        refine ⟨_, ?_, h0, h1, h2, h8, hi, h10, ⟨by omega, by omega, hhi, rfl, fun j hjl hj => ?_, hr⟩, hgr.trans hgr2⟩
        · omega
        · by_cases hj' : j = m
          · subst hj'; exact hc
          · exact hmono j m hjl hm1 (by omega) hc
      · simp [wops_cons, hc]
        refine ⟨_, ?_, h0, h1, h2, h8, lo, h9, ⟨hlo, by omega, by omega, rfl, hl, fun j hjl hj => ?_⟩, hgr.trans hgr2⟩
        · omega
        · by_cases hj' : j = m
          · subst hj'; omega
          · have := hmono m j hm1 hjl (by omega)
            omega
    · obtain ⟨k, rfl⟩ := Int.eq_ofNat_of_zero_le hlo
      have hk : hi = k := by omega
      have hcut : Cut ord l k := ⟨by omega, fun j hj h => hl j hj (by omega), fun j hj h => hr j hj (by omega)⟩
      by_cases hkl : k < l.length
      · have hld := row_get (enc := encR) (fun _ => rfl) hrow k hkl
        have hle := row_le hlen k hkl
        simp [wops_cons, wops_if', dstOf, h0, h1, h2, h8, h9, h10, hlt, hkl, hgi, hld, hle, -List.length_flatMap]
        refine hcmp _ _ _ fun σ'' hgr2 => ?_
        have := h k σ'' hcut (hgr.trans hgr2)
        simp [wops_cons, wops_if', dstOf, hkl] at this ⊢
        exact this
      · have := h k σ' hcut hgr
        simp [wops_cons, wops_if', dstOf, h0, h1, h2, h8, h9, h10, hlt, hkl] at this ⊢
        exact this
  · refine ⟨_, 0, l.length, rfl, ?_⟩
    simp
    exact ⟨⟨fun j _ h => by omega, fun j h1 h2 => by omega⟩, Grow.refl σ⟩

end Go.Sm
/- Stores: a row more; the store itself. -/
set_option linter.unusedVariables false
set_option linter.unusedSimpArgs false
namespace Go.Sm
open Go Go.Proofs
set_option maxRecDepth 100000
set_option maxHeartbeats 1000000
theorem ins_own_95 (b : Nat) (l : List RV) (x : RV) (a : Nat) (ha : a ≤ l.length) (v : Value) (σ : CSt) (hb : b ≤ σ.n) (hown : OwnZ b σ 116 encR v l) (j : Nat) (hj : σ.get j = some (.cells (encR x) 116 false))
    (hji : ∀ i off n c, v = .slice (some ⟨i, off, none⟩) n c → i ≠ j) (hbig : l.length < 2 ^ 40) (Q : Out → CSt → Prop)
    (h : ∀ (v' : Value) (σ' : CSt), Own b σ' 116 encR v' (l.take a ++ x :: l.drop a) → Fr (fun t => t = 116) b σ σ' → Q (.ret v' false) σ') :
    W E1 (.fn 65 #[v, .int .i64 a, .slice (some ⟨j, 0, none⟩) 1 1] none) σ Q := by
  have hxl : (encR x).length = 2 := rfl
  rcases hown with ⟨rfl, rfl⟩ | ⟨i, cap, zs, rfl, hbi, hin, hg, hzs, hcap⟩
  · have ha0 : a = 0 := by simpa using ha
    subst ha0
    rw [Int.natCast_zero, W_gam (E := E1) (f := 65) (g := insG 116 2 40) rfl rfl (v := .slice (some ⟨σ.n, 0, none⟩) 1 openCap) (σ' := σ.alloc (.cells (encR x) 116 false)) (insG_nil hj rfl rfl (by omega))]
    exact h _ _ (.inr ⟨σ.n, openCap, rfl, hb, by simp, by simp, .inl rfl⟩) ((Fr.refl (fun t => t = 116) b σ).alloc _)
  · have hij := hji i 0 _ _ rfl
    have hrl : (l.flatMap encR).length = l.length * 2 := enc_length encR (fun _ => rfl) l
    have hck : cokL (l.flatMap encR) = true := cokL_enc (fun _ => rfl) l
    have hck2 : cokL (l.flatMap encR ++ zs) = true := by rw [cokL_append, hck, hzs]; rfl
    have hrl2 : (l.flatMap encR ++ zs).length = l.length * 2 + zs.length := by rw [List.length_append, hrl]
    rcases hcap with rfl | ⟨rfl, rfl, rfl⟩
    · have he := insRow_encZ (enc := encR) (l := l) (sz := 2) (fun _ => rfl) a ha x zs
      rw [W_gam (E := E1) (f := 65) (g := insG 116 2 40) rfl rfl (v := .slice (some ⟨σ.n, 0, none⟩) (l.length + 1) openCap) (σ' := (σ.put i .dead).alloc (.cells ((l.take a ++ x :: l.drop a).flatMap encR) 116 false)) (by
        rw [insG_some (sz := 2) hg hj rfl rfl (by omega) (by omega) hij (by omega) (cokL_take hck2 _) (by omega) (by omega) hbig, if_pos rfl, ← he]
        rfl)]
      refine h _ _ (.inr ⟨σ.n, openCap, ?_, hb, by simp, by simp, .inl rfl⟩) (((Fr.refl (fun t => t = 116) b σ).put hbi hg rfl _).alloc _)
      have : (l.take a ++ x :: l.drop a).length = l.length + 1 := by simp; omega
      rw [this]
    · have ha0 : a = 0 := by simpa using ha
      subst ha0
      rw [Int.natCast_zero, W_gam (E := E1) (f := 65) (g := insG 116 2 40) rfl rfl (v := .slice (some ⟨σ.n, 0, none⟩) 1 openCap) (σ' := σ.alloc (.cells (encR x) 116 false)) (by
        have hg' : σ.get i = some (.cells [] 116 false) := hg
        exact (insG_some (sz := 2) (n := 0) hg' hj rfl rfl (by omega) (by omega) hij (by simp) (by simp) (by omega) (by omega) (by omega)).trans ((if_neg (by simp [openCap])).trans (if_pos ⟨rfl, rfl⟩)))]
      exact h _ _ (.inr ⟨σ.n, openCap, rfl, hb, by simp, by simp, .inl rfl⟩) ((Fr.refl (fun t => t = 116) b σ).alloc _)

def Rws (σ : CSt) (R : List RV) (S : Stl) : Prop := R.length = S.length ∧ ∀ j (h : j < R.length) (h' : j < S.length), R[j].key = S[j].1 ∧ Sl σ 33 3 encV (.slice R[j].p R[j].n R[j].c) S[j].2
theorem Rws.fr {T : TypeId → Prop} {b : Nat} {σ σ' : CSt} {R : List RV} {S : Stl} (h : Rws σ R S) (ht : ¬ T 33) (hg : Fr T b σ σ') : Rws σ' R S := ⟨h.1, fun j h1 h2 => ⟨(h.2 j h1 h2).1, (h.2 j h1 h2).2.fr ht hg⟩⟩
theorem Rws.grow {σ σ' : CSt} {R : List RV} {S : Stl} (h : Rws σ R S) (hg : Grow σ σ') : Rws σ' R S := ⟨h.1, fun j h1 h2 => ⟨(h.2 j h1 h2).1, (h.2 j h1 h2).2.grow hg⟩⟩
theorem Rws.ins {σ : CSt} {R : List RV} {S : Stl} (h : Rws σ R S) (a : Nat) (ha : a ≤ R.length) (r : RV) (s : ByteArray × List Ver) (hr : r.key = s.1) (hs : Sl σ 33 3 encV (.slice r.p r.n r.c) s.2) : Rws σ (R.take a ++ r :: R.drop a) (S.take a ++ s :: S.drop a) := by
  have hl := h.1
  refine ⟨by simp; omega, fun j h1 h2 => ?_⟩
  rcases Nat.lt_trichotomy j a with hj | hj | hj
  · have e1 : (R.take a ++ r :: R.drop a)[j] = R[j] := by rw [List.getElem_append_left (by simp; omega), List.getElem_take]
    have e2 : (S.take a ++ s :: S.drop a)[j] = S[j] := by rw [List.getElem_append_left (by simp; omega), List.getElem_take]
    rw [e1, e2]; exact h.2 j _ _
  · subst hj
    have e1 : (R.take j ++ r :: R.drop j)[j] = r := by rw [List.getElem_append_right (by simp; omega)]; simp [Nat.min_eq_left ha]
    have e2 : (S.take j ++ s :: S.drop j)[j] = s := by rw [List.getElem_append_right (by simp; omega)]; simp [Nat.min_eq_left (hl ▸ ha)]
    rw [e1, e2]; exact ⟨hr, hs⟩
  · obtain ⟨k, rfl⟩ : ∃ k, j = a + 1 + k := ⟨j - (a + 1), by omega⟩
    have hk : a + k < R.length := by simp at h1; omega
    have e1 : (R.take a ++ r :: R.drop a)[a + 1 + k] = R[a + k] := by
      rw [List.getElem_append_right (by simp; omega)]
      have : a + 1 + k - (R.take a).length = k + 1 := by simp; omega
      simp only [this, List.getElem_cons_succ, List.getElem_drop]
    have e2 : (S.take a ++ s :: S.drop a)[a + 1 + k] = S[a + k] := by
      rw [List.getElem_append_right (by simp; omega)]
      have : a + 1 + k - (S.take a).length = k + 1 := by simp; omega
      simp only [this, List.getElem_cons_succ, List.getElem_drop]
    rw [e1, e2]; exact h.2 (a + k) _ _
theorem Rws.set {σ : CSt} {R : List RV} {S : Stl} (h : Rws σ R S) (a : Nat) (r : RV) (s : ByteArray × List Ver) (hr : r.key = s.1) (hs : Sl σ 33 3 encV (.slice r.p r.n r.c) s.2) : Rws σ (R.set a r) (S.set a s) := by
  have hl := h.1
  refine ⟨by simp; omega, fun j h1 h2 => ?_⟩
  by_cases e : a = j
  · subst e; simp; exact ⟨hr, hs⟩
  · rw [List.getElem_set_ne e, List.getElem_set_ne e]; exact h.2 j _ _
/-- A store that was made behind a point. -/
def St (b : Nat) (σ : CSt) (i : Nat) (S : Stl) : Prop := ∃ vr R, b ≤ i ∧ i < σ.n ∧ σ.get i = some (.cells [vr] 114 false) ∧ OwnZ b σ 116 encR vr R ∧ Rws σ R S
def stT (t : TypeId) : Prop := t = 116 ∨ t = 114
theorem St.grow {b : Nat} {σ σ' : CSt} {i : Nat} {S : Stl} (h : St b σ i S) (hg : Grow σ σ') : St b σ' i S := by
  obtain ⟨vr, R, h1, h2, h3, h4, h5⟩ := h
  exact ⟨vr, R, h1, Nat.lt_of_lt_of_le h2 hg.n, hg.get h3 h2, h4.grow hg, h5.grow hg⟩
theorem new_spec (σ : CSt) (Q : Out → CSt → Prop) (h : ∀ σ', St σ.n σ' σ.n [] → Grow σ σ' → Q (.ret (.pointer (some ⟨σ.n, 0, none⟩)) false) σ') : W E1 (.fn 53 #[] none) σ Q := by
  rw [W_fn (fn := Tryz.f53) Tryz.func53 rfl rfl rfl]
  have := h (σ.alloc (.cells [.slice none 0 0] 114 false)) ⟨.slice none 0 0, [], Nat.le_refl _, by simp, by simp, OwnZ.nil, rfl, fun j h => by simp at h⟩ ((Grow.refl σ).alloc _)
  simpa [wops_cons] using this
theorem find_store (S : Stl) (hk : KS S) (R : List RV) (v : Value) (k : ByteArray) (σ : CSt) (hr : Rws σ R S) (hsl : Sl σ 116 2 encR v R) (hbig : S.length < 2 ^ 40) (Q : Out → CSt → Prop)
    (h : ∀ (n : Nat) (σ' : CSt), Pos S k n → Grow σ σ' → Q (.ret (.tuple #[.int .i64 n, .bool (decide (∃ h : n < S.length, S[n].1 = k))]) false) σ') :
    W E1 (.fn 63 #[v, .string k, .func (.func 64) #[] #[]] none) σ Q := by
  have hl := hr.1
  have hlt : ∀ r : RV, ordR k r < 0 ↔ klt r.key k = true := by
    intro r
    unfold ordR
    cases h1 : klt r.key k
    · by_cases h2 : r.key = k <;> simp [h2]
    · simp
  have hz : ∀ r : RV, ordR k r = 0 ↔ r.key = k := by
    intro r
    unfold ordR
    cases h1 : klt r.key k
    · by_cases h2 : r.key = k <;> simp [h2]
    · simp
      intro e
      rw [e, klt_irrefl] at h1
      cases h1
  refine search_95 R v _ rfl (ordR k) σ hsl (by omega) (fun x σ Q h => orderR_spec k x σ Q h) (fun j m hj hm hjm ho => ?_) Q fun n σ' hc hg => ?_
  · rw [hlt] at ho ⊢
    have h1 := (hr.2 j hj (by omega)).1
    have h2 := (hr.2 m hm (by omega)).1
    have h3 := List.pairwise_iff_getElem.1 hk j m (by omega) (by omega) hjm
    rw [h2] at ho
    rw [h1]
    exact klt_trans h3 ho
  · have hp : Pos S k n := by
      refine ⟨by have := hc.le; omega, fun j hj hjn => ?_, fun j hj hjn => ?_⟩
      · have := hc.lo j (by omega) hjn
        rw [hlt, (hr.2 j (by omega) hj).1] at this
        exact this
      · have := hc.hi j (by omega) hjn
        cases h1 : klt S[j].1 k
        · rfl
        · have h2 := (hlt R[j]).2 (by rw [(hr.2 j (by omega) hj).1]; exact h1)
          omega
    have := h n σ' hp hg
    have e : (∃ h : n < R.length, ordR k R[n] = 0) ↔ ∃ h : n < S.length, S[n].1 = k :=
      ⟨fun ⟨h1, h2⟩ => ⟨by omega, by rw [← (hr.2 n h1 (by omega)).1]; exact (hz _).1 h2⟩, fun ⟨h1, h2⟩ => ⟨by omega, (hz _).2 (by rw [(hr.2 n (by omega) h1).1]; exact h2)⟩⟩
    rw [decide_eq_decide.2 e]
    exact this
end Go.Sm
