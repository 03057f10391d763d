/- Part SmEnv of the proof. -/
import Derived.Test.YtngpgkbkelcihaaGreatDoorSmFacts
import Derived.Test.YtngpgkbkelcihaaGreatDoorSmC
/- The closed tests, reckoned. -/
namespace Go.Sm
open Go Go.Proofs
def isTrue : Out → CSt → Bool := fun o _ => match o with | .ret (.bool true) false => true | _ => false
def st0 : CSt := { h := ((Tr.nil : Tr CObj).set 0 (.cells [.int .u64 1, .int .u64 0] 0 true)), n := 256 }
set_option maxRecDepth 1000000
theorem aw14 : runB EV 20000 (.fn 14 #[] none) st0 isTrue = true := by kernel_rfl
theorem aw27 : runB EV 20000 (.fn 27 #[] none) st0 isTrue = true := by kernel_rfl
end Go.Sm
set_option linter.unusedVariables false
set_option linter.unusedSimpArgs false
namespace Go.Sm
open Go Go.Proofs
set_option maxRecDepth 100000
set_option maxHeartbeats 1000000
attribute [local simp] sliceOp_open3 sliceOp_cap sliceOp_open sliceOp_nil appendOp_K appendOp_N copyOp_K
theorem ins_nil_29 (σ : CSt) (j : Nat) (new : List Value) (hj : j < σ.n) (hg : σ.get j = some (.cells new 29 false)) (hl : new.length = 3) (hc : cokL new = true) :
    W E0 (.fn 47 #[.slice none 0 0, .int .i64 0, .slice (some ⟨j, 0, none⟩) 1 1] none) σ (InsPost σ none 0 29 new 1) := by
  rw [W_fn (fn := Tryz.f47) Tryz.func47 rfl rfl rfl]
  have ht : new.take 3 = new := List.take_of_length_le (by omega)
  simp [wops_cons, hg, hl, hc, ht, appK, appendF]
  refine ⟨σ.n, new, openCap, rfl, by simp, by simp, .inl ⟨by omega, rfl⟩, fun y hy _ => ?_⟩
  simp
  omega
theorem ins_zero_29 (σ : CSt) (i j : Nat) (row new : List Value) (hi : i < σ.n) (hj : j < σ.n) (hij : i ≠ j) (hgi : σ.get i = some (.cells row 29 false)) (hg : σ.get j = some (.cells new 29 false)) (hl : new.length = 3) (hc : cokL new = true) :
    W E0 (.fn 47 #[.slice (some ⟨i, 0, none⟩) 0 0, .int .i64 0, .slice (some ⟨j, 0, none⟩) 1 1] none) σ (InsPost σ none 0 29 new 1) := by
  rw [W_fn (fn := Tryz.f47) Tryz.func47 rfl rfl rfl]
  have ht : new.take 3 = new := List.take_of_length_le (by omega)
  have h0 : (0 : Nat) ≠ openCap := by simp [openCap]
  have h1 : 0 < openCap := by simp [openCap]
  simp [wops_cons, hg, hgi, hl, hc, ht, appK, appendF, sliceC, h0, h1]
  refine ⟨σ.n, new, openCap, rfl, by simp, by simp, .inl ⟨by omega, rfl⟩, fun y hy _ => ?_⟩
  simp
  omega
theorem ins_end_29 (σ : CSt) (i j n k : Nat) (row new : List Value) (hi : i < σ.n) (hj : j < σ.n) (hij : i ≠ j) (hgi : σ.get i = some (.cells row 29 false)) (hg : σ.get j = some (.cells new 29 false)) (hl : new.length = 3) (hc : cokL new = true)
    (hn : n * 3 ≤ row.length) (hk : k * 3 ≤ row.length) (hb : (n + 1) * 32 ≤ 140737488355328) (hnk : n ≤ k) (hko : k < openCap) :
    W E0 (.fn 47 #[.slice (some ⟨i, 0, none⟩) n k, .int .i64 n, .slice (some ⟨j, 0, none⟩) 1 1] none) σ (InsPost σ (some i) k 29 (insRow 3 n n row new) (n + 1)) := by
  rw [W_fn (fn := Tryz.f47) Tryz.func47 rfl rfl rfl]
  have ht : new.take 3 = new := List.take_of_length_le (by omega)
  have h0 : k ≠ openCap := by omega
  by_cases hr : n + 1 ≤ k
  · have hst : st row (n * 3) new = some (wr row (n * 3) new) := st_wr (by omega)
    simp [wops_cons, hg, hgi, hl, hc, ht, appK, appendF, sliceC, h0, hko, hnk, hr, hst, -st_eq]
    refine ⟨i, wr row (n * 3) new, k, rfl, by simp, insA hl (by omega), .inr ⟨rfl, rfl, hr⟩, fun y hy hne => ?_⟩
    rw [CSt.get_put, if_neg]
    rintro rfl
    exact hne rfl
  · simp [wops_cons, hg, hgi, hl, hc, ht, appK, appendF, sliceC, h0, hko, hnk, hr, hn, hb]
    refine ⟨σ.n, _, openCap, rfl, by simp, insB hl hn, .inl ⟨Nat.le_refl _, rfl⟩, fun y hy hne => ?_⟩
    rw [CSt.get_alloc, if_neg (by omega)]
theorem ins_mid_29 (σ : CSt) (i j n a k : Nat) (row new : List Value) (hi : i < σ.n) (hj : j < σ.n) (hij : i ≠ j) (hgi : σ.get i = some (.cells row 29 false)) (hg : σ.get j = some (.cells new 29 false)) (hl : new.length = 3) (hc : cokL new = true)
    (hn : n * 3 ≤ row.length) (hk : k * 3 ≤ row.length) (hrc : cokL (row.take (n * 3)) = true) (ha : a < n) (hb : (n + 1) * 32 ≤ 140737488355328) (hn40 : n < 2 ^ 40) (hnk : n ≤ k) (hko : k < openCap) :
    W E0 (.fn 47 #[.slice (some ⟨i, 0, none⟩) n k, .int .i64 a, .slice (some ⟨j, 0, none⟩) 1 1] none) σ (InsPost σ (some i) k 29 (insRow 3 a n row new) (n + 1)) := by
  rw [W_fn (fn := Tryz.f47) Tryz.func47 rfl rfl rfl]
  have ht : new.take 3 = new := List.take_of_length_le (by omega)
  have h0 : k ≠ openCap := by omega
  have hle : a ≤ n := by omega
  have hne : a ≠ n := by omega
  have hw1 := i64n1 n (by omega)
  have hw2 := i64n1 a (by omega)
  have hlt : ¬ k < n ∧ ¬ (a : Int) = n := by omega
  have hnew : ld new 0 3 = some new := by simp [ld, hl, ht]
  have hp1 : (0 : Int) ≤ (n : Int) + 1 ∧ (0 : Int) ≤ (a : Int) + 1 ∧ ((n : Int) + 1).toNat = n + 1 ∧ ((a : Int) + 1).toNat = a + 1 := by omega
  by_cases hr : n + 1 ≤ k
  · have hI : ¬ ((k : Int) < n + 1) := by omega
    have hq : a ≤ k ∧ a + 1 ≤ k ∧ a ≤ n + 1 := by omega
    simp [wops_cons, hg, hgi, hl, hc, ht, appK, appendF, sliceC, h0, hko, hnk, hr, hle, hne, hlt.2, hw1, hw2, hp1, hI, hq, ha, -st_eq]
    rw [wres_ext (E := E0) (v := .bool false)]
    rotate_left
    · simp only [extOf_fn, E0X, extE]
      exact apartX_ne (Ne.symm hij) hg hgi (by omega)
    have hmin : min (n + 1 - a) (n - a) = n - a := by omega
    have hmul : (n - a) * 3 = n * 3 - a * 3 := by omega
    have hmin2 : min 1 (n + 1 - a) = 1 := by omega
    obtain ⟨seg, hseg⟩ : ∃ seg, seg = (row.drop (a * 3)).take (n * 3 - a * 3) := ⟨_, rfl⟩
    have hs1 : ld row (a * 3) ((n - a) * 3) = some seg := by rw [hmul, hseg]; simp; omega
    have hs2 : seg.length = (n - a) * 3 := by rw [hseg]; simp; omega
    have hs3 : cokL seg = true := by rw [hseg, ← List.drop_take]; exact cokL_drop hrc _
    have hs4 : st row ((a + 1) * 3) seg = some (wr row (a * 3 + 3) seg) := by rw [show (a + 1) * 3 = a * 3 + 3 by omega]; exact st_wr (by omega)
    have hs5 : (wr row (a * 3 + 3) seg).length = row.length := wr_length (by omega)
    have hs6 : st (wr row (a * 3 + 3) seg) (a * 3) new = some (wr (wr row (a * 3 + 3) seg) (a * 3) new) := st_wr (by omega)
    have hq2 : ¬ (k = a) ∧ ¬ (k = a + 1) ∧ ¬ (n - a = 0) := by omega
    simp only [Bool.not_false, wops_cons]
    simp [wops_cons, hg, hgi, hl, hc, ht]
    refine W_calm (by kernel_rfl) ?_
    simp [dops_cons, wops_cons, hg, hgi, hl, hc, ht, appK, appendF, sliceC, copyK, copyIK, h0, hko, hnk, hr, hle, hne, hlt.2, hw1, hw2, hp1, hI, hq, hq2, ha, hmin, hmin2, hs1, hs2, hs3, hs4, hs6, hnew, Ne.symm hij, -st_eq, -ld_eq]
    refine ⟨i, _, k, rfl, by simp; rfl, ?_, .inr ⟨rfl, rfl, hr⟩, fun y hy hne => ?_⟩
    · rw [hseg]; exact insD hl ha (by omega)
    · have : y ≠ i := by rintro rfl; exact hne rfl
      simp [this]
  · have hkn : k = n := by omega
    subst hkn
    have hI : ((k : Int) < k + 1) := by omega
    have hw3 : IntKind.i64.wrap ((k : Int) + 1 - a) = ((k + 1 - a : Nat) : Int) := by rw [IntWalk.i64_in _ (by omega)]; omega
    have hz1 : ((k + 1 - a : Nat) : Int) * 32 ≤ 140737488355328 := by omega
    have hz2 : ¬ (k + 1 - a = 0) := by omega
    have hz3 : ¬ (a + (k + 1 - a) ≤ k) := by omega
    have hz4 : a + (k + 1 - a) = k + 1 := by omega
    have hz5 : a * 3 ≤ row.length := by omega
    have hq : a ≤ k + 1 ∧ a + 1 ≤ k + 1 := by omega
    have hmin : min (k + 1 - a) (k - a) = k - a ∧ min (k - a) (k - a) = k - a := by omega
    have hmin2 : min 1 (k + 1 - a) = 1 := by omega
    have hjn : ¬ (j = σ.n) ∧ ¬ (i = σ.n) := by omega
    obtain ⟨z, hz⟩ : ∃ z, z = (List.replicate (k + 1 - a) [Value.int IntKind.u64 0, Value.string ⟨#[]⟩, Value.bool false]).flatten := ⟨_, rfl⟩
    have hzl : z.length = (k + 1 - a) * 3 := by rw [hz]; simp
    have hzc : cokL z = true := by rw [hz]; exact rep_cok _ _ rfl
    have hta : (row.take (a * 3)).length = a * 3 := by simp; omega
    have hrw : (row.take (a * 3) ++ z).length = k * 3 + 3 := by rw [List.length_append, hta, hzl]; omega
    have hc1 : st (row.take (a * 3) ++ z) (a * 3) new = some (wr (row.take (a * 3) ++ z) (a * 3) new) := st_wr (by omega)
    have hc2 : (wr (row.take (a * 3) ++ z) (a * 3) new).length = k * 3 + 3 := by rw [wr_length (by omega)]; exact hrw
    obtain ⟨seg, hseg⟩ : ∃ seg, seg = (row.drop (a * 3)).take (k * 3 - a * 3) := ⟨_, rfl⟩
    have hs1 : ld row (a * 3) ((k - a) * 3) = some seg := by rw [show (k - a) * 3 = k * 3 - a * 3 by omega, hseg]; simp; omega
    have hs2 : seg.length = (k - a) * 3 := by rw [hseg]; simp; omega
    have hs3 : cokL seg = true := by rw [hseg, ← List.drop_take]; exact cokL_drop hrc _
    have hs4 : st (wr (row.take (a * 3) ++ z) (a * 3) new) ((a + 1) * 3) seg = some (wr (wr (row.take (a * 3) ++ z) (a * 3) new) (a * 3 + 3) seg) := by rw [show (a + 1) * 3 = a * 3 + 3 by omega]; exact st_wr (by omega)
    have hq2 : ¬ (k = a) ∧ ¬ (k - a = 0) ∧ k + 1 - (a + 1) = k - a := by omega
    have hld : ld row 0 (a * 3) = some (row.take (a * 3)) := by simp [ld]; omega
    simp [wops_cons, hg, hgi, hl, hc, ht, appK, appendF, sliceC, h0, hko, hnk, hr, hn, hb, hle, hne, hlt.2, hw1, hw2, hw3, hz1, hz2, hz3, hz4, hz5, hp1, hI, hq, hq2, ha, appNK, sliceO, copyK, copyIK, ← hz, hzl, hzc, hc1, hnew, hmin, hmin2, hjn, hld, -st_eq, -ld_eq, -List.append_assoc]
    refine W_calm (by kernel_rfl) ?_
    simp [dops_cons, wops_cons, hg, hgi, hl, hc, ht, sliceC, h0, hko, hnk, hr, hn, hb, hle, hne, hlt.2, hw1, hw2, hp1, hI, hq, hq2, ha, sliceO, copyK, copyIK, hzl, hzc, hs1, hs2, hs3, hs4, hmin, hmin2, hjn, -st_eq, -ld_eq, -List.append_assoc]
    refine ⟨σ.n, _, openCap, rfl, by simp; rfl, ?_, .inl ⟨Nat.le_refl _, rfl⟩, fun y hy hne => ?_⟩
    · rw [hseg]; exact insC hl ha hn (by omega)
    · have : y ≠ σ.n := by omega
      simp [this]
/-- slices.Insert of a chain's versions. -/
theorem insW_29 : InsW E0 47 29 3 32 where
  nil := fun σ j new hj hg hl hc _ => ins_nil_29 σ j new hj hg hl hc
  zero := fun σ i j row new hi hj hij hgi hg hl hc _ => ins_zero_29 σ i j row new hi hj hij hgi hg hl hc
  some_ := fun σ i j n a k row new hi hj hij hgi hg hl hc hn hk hrc ha hb hn40 hnk hko => by
    by_cases he : a = n
    · subst he
      exact ins_end_29 σ i j a k row new hi hj hij hgi hg hl hc hn hk (by omega) hnk hko
    · exact ins_mid_29 σ i j n a k row new hi hj hij hgi hg hl hc hn hk hrc (by omega) (by omega) hn40 hnk hko
end Go.Sm
set_option linter.unusedVariables false
set_option linter.unusedSimpArgs false
namespace Go.Sm
open Go Go.Proofs
set_option maxRecDepth 100000
set_option maxHeartbeats 1000000
attribute [local simp] sliceOp_open3 sliceOp_cap sliceOp_open sliceOp_nil appendOp_K appendOp_N copyOp_K
theorem ins_nil_95 (σ : CSt) (j : Nat) (new : List Value) (hj : j < σ.n) (hg : σ.get j = some (.cells new 95 false)) (hl : new.length = 2) (hc : cokL new = true) :
    W E0 (.fn 58 #[.slice none 0 0, .int .i64 0, .slice (some ⟨j, 0, none⟩) 1 1] none) σ (InsPost σ none 0 95 new 1) := by
  rw [W_fn (fn := Tryz.f58) Tryz.func58 rfl rfl rfl]
  have ht : new.take 2 = new := List.take_of_length_le (by omega)
  simp [wops_cons, hg, hl, hc, ht, appK, appendF]
  refine ⟨σ.n, new, openCap, rfl, by simp, by simp, .inl ⟨by omega, rfl⟩, fun y hy _ => ?_⟩
  simp
  omega
theorem ins_zero_95 (σ : CSt) (i j : Nat) (row new : List Value) (hi : i < σ.n) (hj : j < σ.n) (hij : i ≠ j) (hgi : σ.get i = some (.cells row 95 false)) (hg : σ.get j = some (.cells new 95 false)) (hl : new.length = 2) (hc : cokL new = true) :
    W E0 (.fn 58 #[.slice (some ⟨i, 0, none⟩) 0 0, .int .i64 0, .slice (some ⟨j, 0, none⟩) 1 1] none) σ (InsPost σ none 0 95 new 1) := by
  rw [W_fn (fn := Tryz.f58) Tryz.func58 rfl rfl rfl]
  have ht : new.take 2 = new := List.take_of_length_le (by omega)
  have h0 : (0 : Nat) ≠ openCap := by simp [openCap]
  have h1 : 0 < openCap := by simp [openCap]
  simp [wops_cons, hg, hgi, hl, hc, ht, appK, appendF, sliceC, h0, h1]
  refine ⟨σ.n, new, openCap, rfl, by simp, by simp, .inl ⟨by omega, rfl⟩, fun y hy _ => ?_⟩
  simp
  omega
theorem ins_end_95 (σ : CSt) (i j n k : Nat) (row new : List Value) (hi : i < σ.n) (hj : j < σ.n) (hij : i ≠ j) (hgi : σ.get i = some (.cells row 95 false)) (hg : σ.get j = some (.cells new 95 false)) (hl : new.length = 2) (hc : cokL new = true)
    (hn : n * 2 ≤ row.length) (hk : k * 2 ≤ row.length) (hb : (n + 1) * 40 ≤ 140737488355328) (hnk : n ≤ k) (hko : k < openCap) :
    W E0 (.fn 58 #[.slice (some ⟨i, 0, none⟩) n k, .int .i64 n, .slice (some ⟨j, 0, none⟩) 1 1] none) σ (InsPost σ (some i) k 95 (insRow 2 n n row new) (n + 1)) := by
  rw [W_fn (fn := Tryz.f58) Tryz.func58 rfl rfl rfl]
  have ht : new.take 2 = new := List.take_of_length_le (by omega)
  have h0 : k ≠ openCap := by omega
  by_cases hr : n + 1 ≤ k
  · have hst : st row (n * 2) new = some (wr row (n * 2) new) := st_wr (by omega)
    simp [wops_cons, hg, hgi, hl, hc, ht, appK, appendF, sliceC, h0, hko, hnk, hr, hst, -st_eq]
    refine ⟨i, wr row (n * 2) new, k, rfl, by simp, insA hl (by omega), .inr ⟨rfl, rfl, hr⟩, fun y hy hne => ?_⟩
    rw [CSt.get_put, if_neg]
    rintro rfl
    exact hne rfl
  · simp [wops_cons, hg, hgi, hl, hc, ht, appK, appendF, sliceC, h0, hko, hnk, hr, hn, hb]
    refine ⟨σ.n, _, openCap, rfl, by simp, insB hl hn, .inl ⟨Nat.le_refl _, rfl⟩, fun y hy hne => ?_⟩
    rw [CSt.get_alloc, if_neg (by omega)]
theorem ins_mid_95 (σ : CSt) (i j n a k : Nat) (row new : List Value) (hi : i < σ.n) (hj : j < σ.n) (hij : i ≠ j) (hgi : σ.get i = some (.cells row 95 false)) (hg : σ.get j = some (.cells new 95 false)) (hl : new.length = 2) (hc : cokL new = true)
    (hn : n * 2 ≤ row.length) (hk : k * 2 ≤ row.length) (hrc : cokL (row.take (n * 2)) = true) (ha : a < n) (hb : (n + 1) * 40 ≤ 140737488355328) (hn40 : n < 2 ^ 40) (hnk : n ≤ k) (hko : k < openCap) :
    W E0 (.fn 58 #[.slice (some ⟨i, 0, none⟩) n k, .int .i64 a, .slice (some ⟨j, 0, none⟩) 1 1] none) σ (InsPost σ (some i) k 95 (insRow 2 a n row new) (n + 1)) := by
  rw [W_fn (fn := Tryz.f58) Tryz.func58 rfl rfl rfl]
  have ht : new.take 2 = new := List.take_of_length_le (by omega)
  have h0 : k ≠ openCap := by omega
  have hle : a ≤ n := by omega
  have hne : a ≠ n := by omega
  have hw1 := i64n1 n (by omega)
  have hw2 := i64n1 a (by omega)
  have hlt : ¬ k < n ∧ ¬ (a : Int) = n := by omega
  have hnew : ld new 0 2 = some new := by simp [ld, hl, ht]
  have hp1 : (0 : Int) ≤ (n : Int) + 1 ∧ (0 : Int) ≤ (a : Int) + 1 ∧ ((n : Int) + 1).toNat = n + 1 ∧ ((a : Int) + 1).toNat = a + 1 := by omega
  by_cases hr : n + 1 ≤ k
  · have hI : ¬ ((k : Int) < n + 1) := by omega
    have hq : a ≤ k ∧ a + 1 ≤ k ∧ a ≤ n + 1 := by omega
    simp [wops_cons, hg, hgi, hl, hc, ht, appK, appendF, sliceC, h0, hko, hnk, hr, hle, hne, hlt.2, hw1, hw2, hp1, hI, hq, ha, -st_eq]
    rw [wres_ext (E := E0) (v := .bool false)]
    rotate_left
    · simp only [extOf_fn, E0X, extE]
      exact apartX_ne (Ne.symm hij) hg hgi (by omega)
    have hmin : min (n + 1 - a) (n - a) = n - a := by omega
    have hmul : (n - a) * 2 = n * 2 - a * 2 := by omega
    have hmin2 : min 1 (n + 1 - a) = 1 := by omega
    obtain ⟨seg, hseg⟩ : ∃ seg, seg = (row.drop (a * 2)).take (n * 2 - a * 2) := ⟨_, rfl⟩
    have hs1 : ld row (a * 2) ((n - a) * 2) = some seg := by rw [hmul, hseg]; simp; omega
    have hs2 : seg.length = (n - a) * 2 := by rw [hseg]; simp; omega
    have hs3 : cokL seg = true := by rw [hseg, ← List.drop_take]; exact cokL_drop hrc _
    have hs4 : st row ((a + 1) * 2) seg = some (wr row (a * 2 + 2) seg) := by rw [show (a + 1) * 2 = a * 2 + 2 by omega]; exact st_wr (by omega)
    have hs5 : (wr row (a * 2 + 2) seg).length = row.length := wr_length (by omega)
    have hs6 : st (wr row (a * 2 + 2) seg) (a * 2) new = some (wr (wr row (a * 2 + 2) seg) (a * 2) new) := st_wr (by omega)
    have hq2 : ¬ (k = a) ∧ ¬ (k = a + 1) ∧ ¬ (n - a = 0) := by omega
    simp only [Bool.not_false, wops_cons]
    simp [wops_cons, hg, hgi, hl, hc, ht]
    refine W_calm (by kernel_rfl) ?_
    simp [dops_cons, wops_cons, hg, hgi, hl, hc, ht, appK, appendF, sliceC, copyK, copyIK, h0, hko, hnk, hr, hle, hne, hlt.2, hw1, hw2, hp1, hI, hq, hq2, ha, hmin, hmin2, hs1, hs2, hs3, hs4, hs6, hnew, Ne.symm hij, -st_eq, -ld_eq]
    refine ⟨i, _, k, rfl, by simp; rfl, ?_, .inr ⟨rfl, rfl, hr⟩, fun y hy hne => ?_⟩
    · rw [hseg]; exact insD hl ha (by omega)
    · have : y ≠ i := by rintro rfl; exact hne rfl
      simp [this]
  · have hkn : k = n := by omega
    subst hkn
    have hI : ((k : Int) < k + 1) := by omega
    have hw3 : IntKind.i64.wrap ((k : Int) + 1 - a) = ((k + 1 - a : Nat) : Int) := by rw [IntWalk.i64_in _ (by omega)]; omega
    have hz1 : ((k + 1 - a : Nat) : Int) * 40 ≤ 140737488355328 := by omega
    have hz2 : ¬ (k + 1 - a = 0) := by omega
    have hz3 : ¬ (a + (k + 1 - a) ≤ k) := by omega
    have hz4 : a + (k + 1 - a) = k + 1 := by omega
    have hz5 : a * 2 ≤ row.length := by omega
    have hq : a ≤ k + 1 ∧ a + 1 ≤ k + 1 := by omega
    have hmin : min (k + 1 - a) (k - a) = k - a ∧ min (k - a) (k - a) = k - a := by omega
    have hmin2 : min 1 (k + 1 - a) = 1 := by omega
    have hjn : ¬ (j = σ.n) ∧ ¬ (i = σ.n) := by omega
    obtain ⟨z, hz⟩ : ∃ z, z = (List.replicate (k + 1 - a) [Value.string ⟨#[]⟩, Value.slice none 0 0]).flatten := ⟨_, rfl⟩
    have hzl : z.length = (k + 1 - a) * 2 := by rw [hz]; simp
    have hzc : cokL z = true := by rw [hz]; exact rep_cok _ _ rfl
    have hta : (row.take (a * 2)).length = a * 2 := by simp; omega
    have hrw : (row.take (a * 2) ++ z).length = k * 2 + 2 := by rw [List.length_append, hta, hzl]; omega
    have hc1 : st (row.take (a * 2) ++ z) (a * 2) new = some (wr (row.take (a * 2) ++ z) (a * 2) new) := st_wr (by omega)
    have hc2 : (wr (row.take (a * 2) ++ z) (a * 2) new).length = k * 2 + 2 := by rw [wr_length (by omega)]; exact hrw
    obtain ⟨seg, hseg⟩ : ∃ seg, seg = (row.drop (a * 2)).take (k * 2 - a * 2) := ⟨_, rfl⟩
    have hs1 : ld row (a * 2) ((k - a) * 2) = some seg := by rw [show (k - a) * 2 = k * 2 - a * 2 by omega, hseg]; simp; omega
    have hs2 : seg.length = (k - a) * 2 := by rw [hseg]; simp; omega
    have hs3 : cokL seg = true := by rw [hseg, ← List.drop_take]; exact cokL_drop hrc _
    have hs4 : st (wr (row.take (a * 2) ++ z) (a * 2) new) ((a + 1) * 2) seg = some (wr (wr (row.take (a * 2) ++ z) (a * 2) new) (a * 2 + 2) seg) := by rw [show (a + 1) * 2 = a * 2 + 2 by omega]; exact st_wr (by omega)
    have hq2 : ¬ (k = a) ∧ ¬ (k - a = 0) ∧ k + 1 - (a + 1) = k - a := by omega
    have hld : ld row 0 (a * 2) = some (row.take (a * 2)) := by simp [ld]; omega
    simp [wops_cons, hg, hgi, hl, hc, ht, appK, appendF, sliceC, h0, hko, hnk, hr, hn, hb, hle, hne, hlt.2, hw1, hw2, hw3, hz1, hz2, hz3, hz4, hz5, hp1, hI, hq, hq2, ha, appNK, sliceO, copyK, copyIK, ← hz, hzl, hzc, hc1, hnew, hmin, hmin2, hjn, hld, -st_eq, -ld_eq, -List.append_assoc]
    refine W_calm (by kernel_rfl) ?_
    simp [dops_cons, wops_cons, hg, hgi, hl, hc, ht, sliceC, h0, hko, hnk, hr, hn, hb, hle, hne, hlt.2, hw1, hw2, hp1, hI, hq, hq2, ha, sliceO, copyK, copyIK, hzl, hzc, hs1, hs2, hs3, hs4, hmin, hmin2, hjn, -st_eq, -ld_eq, -List.append_assoc]
    refine ⟨σ.n, _, openCap, rfl, by simp; rfl, ?_, .inl ⟨Nat.le_refl _, rfl⟩, fun y hy hne => ?_⟩
    · rw [hseg]; exact insC hl ha hn (by omega)
    · have : y ≠ σ.n := by omega
      simp [this]
/-- slices.Insert of a chain's versions. -/
theorem insW_95 : InsW E0 58 95 2 40 where
  nil := fun σ j new hj hg hl hc _ => ins_nil_95 σ j new hj hg hl hc
  zero := fun σ i j row new hi hj hij hgi hg hl hc _ => ins_zero_95 σ i j row new hi hj hij hgi hg hl hc
  some_ := fun σ i j n a k row new hi hj hij hgi hg hl hc hn hk hrc ha hb hn40 hnk hko => by
    by_cases he : a = n
    · subst he
      exact ins_end_95 σ i j a k row new hi hj hij hgi hg hl hc hn hk (by omega) hnk hko
    · exact ins_mid_95 σ i j n a k row new hi hj hij hgi hg hl hc hn hk hrc (by omega) (by omega) hn40 hnk hko
end Go.Sm
/- The environments are sound: what is taken as one step is so. -/
set_option linter.unusedVariables false
namespace Go.Sm
open Go Go.Proofs
set_option maxRecDepth 100000
theorem good_all : (Tryz.prog.funcs.toList.all fun fn => !(fn.name == "runtime.NumGoroutine")) = true := by kernel_rfl
theorem good_mixed : Tryz.prog.follows .mixedOrders = true := by kernel_rfl
theorem good : Good Tryz.prog := by
  refine ⟨fun f fn h _ => ?_, good_mixed⟩
  have := List.all_eq_true.1 good_all fn (by rw [Array.mem_toList_iff]; exact Array.mem_of_getElem? h)
  simpa using this
def isU8 (P : Program) (e : TypeId) : Bool := match P.underlying e with | some (.int .u8) => true | _ => false
theorem not_u8 {P : Program} {e : TypeId} (h : isU8 P e = false) : P.underlying e ≠ some (.int .u8) := by
  intro hh
  unfold isU8 at h
  rw [hh] at h
  cases h
theorem ext_ok {E : Env} (hP : E.P = Tryz.prog) (hx : E.ext = extE) : ExtOk E := by
  intro g args σ v h ρ w args' hR ha
  rw [hx] at h
  rw [hP] at hR ⊢
  unfold extE at h
  split at h
  · exact apart_ok (tS := 25) (tR := 4) (size := 3) Tryz.func68 (by kernel_rfl) (by kernel_rfl) (by kernel_rfl) (by kernel_rfl) (by kernel_rfl) (fun w => by kernel_rfl) (not_u8 (by kernel_rfl)) h hR ha
  · exact apart_ok (tS := 93) (tR := 4) (size := 2) Tryz.func73 (by kernel_rfl) (by kernel_rfl) (by kernel_rfl) (by kernel_rfl) (by kernel_rfl) (fun w => by kernel_rfl) (not_u8 (by kernel_rfl)) h hR ha
  · cases h
theorem gam0 : GamOk E0 := by
  intro f g h
  cases h
theorem gamV : GamOk EV := by
  intro f g h args σ v σ' hg Q hq
  change gamI f = some g at h
  unfold gamI at h
  split at h
  · cases h
    exact ins_gam (E := E0) good (ext_ok rfl rfl) gam0 (by exact ⟨_, Tryz.func47, rfl⟩) (by kernel_rfl) (by decide) insW_29 hg hq
  · cases h
    exact ins_gam (E := E0) good (ext_ok rfl rfl) gam0 (by exact ⟨_, Tryz.func58, rfl⟩) (by kernel_rfl) (by decide) insW_95 hg hq
  · cases h
theorem base0 : Base st0 := by
  refine ⟨rfl, fun i o h => ?_⟩
  simp only [st0, CSt.get, Tr.get_set] at h
  split at h
  · cases h
    rename_i hi
    subst hi
    exact ⟨by decide, _, _, rfl, by simp⟩
  · simp [Tr.get_nil] at h
theorem ext0 {σ : CSt} (h : gnone σ) : Ext st0 σ := by
  intro i o ho
  simp only [st0, CSt.get, Tr.get_set] at ho
  split at ho
  · rename_i hi
    subst hi
    cases ho
    exact h
  · simp [Tr.get_nil] at ho
theorem aw_ok {f : FuncId} (h : runB EV 20000 (.fn f #[] none) st0 isTrue = true) {args : Array Value} {σ σ' : CSt} {v : Value} (hg : awakeG args σ = some (v, σ')) {Q : Out → CSt → Prop} (hq : Q (.ret v false) σ') : SimFn Tryz.prog f args none σ Q := by
  unfold awakeG at hg
  split at hg
  · rename_i hc
    cases hg
    obtain ⟨rfl, hn⟩ := hc
    refine base_fn (E := EV) good (ext_ok rfl rfl) gamV base0 ((runB_W _ h).weaken fun o s ho => ?_) (by simp) rfl (ext0 hn) hq
    unfold isTrue at ho
    split at ho
    · rfl
    · cases ho
  · cases hg
theorem gam1 : GamOk E1 := by
  intro f g h args σ v σ' hg Q hq
  change gamL f = some g at h
  unfold gamL at h
  split at h
  · cases h
    exact ins_gam (E := E0) good (ext_ok rfl rfl) gam0 (by exact ⟨_, Tryz.func47, rfl⟩) (by kernel_rfl) (by decide) insW_29 hg hq
  · cases h
    exact ins_gam (E := E0) good (ext_ok rfl rfl) gam0 (by exact ⟨_, Tryz.func58, rfl⟩) (by kernel_rfl) (by decide) insW_95 hg hq
  · cases h; exact aw_ok aw14 hg hq
  · cases h; exact aw_ok aw27 hg hq
  · cases h
end Go.Sm
