/-
  The reference's new disk, with memory that the caller owns.
-/
import Derived.Test.YtfphnpelampoeaaRw4M
set_option linter.unusedVariables false
set_option linter.unusedSimpArgs false
namespace Go.Proofs.Ytfphnpelampoeaa.Rw
open Go Go.Ez

theorem zeros_one (z : List Value) : zeros z 1 = z.map litC := by simp [zeros]

theorem new_first (F : Tab) {Q : Ex → St → Prop} {e : Env} {h : Heap} {N p2 p4 n : Nat} {d4 d5 d6 : D}
    (e2 : getE e 2 = .loc p2 0) (e3 : getE e 3 = .c (.lit (.int .i64 (n : Int)))) (e4 : getE e 4 = .loc p4 0) (e5 : getE e 5 = .c (.lit (.int .i64 ((0 : Nat) : Int)))) (hk : 0 < n)
    (h4 : getH h p4 = .box [.full [] 0, d4, d5, d6]) (n4 : p4 < N)
    (hQ : ∀ s : St, s.nx = N + 15 → getE s.env 2 = .loc p2 0 → getE s.env 3 = .c (.lit (.int .i64 (n : Int))) → getE s.env 4 = .loc p4 0 → getE s.env 5 = .c (.lit (.int .i64 ((1 : Nat) : Int))) →
      getH s.heap p4 = .box [.arr (N + 9) 0 1, d4, d5, d6] → getH s.heap (N + 9) = .rows ([.arr (N + 5) 0 128, .arr (N + 6) 0 128, .c (.lit (.bool false))]) 3 32 →
      getH s.heap (N + 5) = .arr (zeros [.int .u8 0] 128) 1 0 5 → getH s.heap (N + 6) = .arr (zeros [.int .u8 0] 128) 1 0 5 → (∀ x, x < N → x ≠ p4 → getH s.heap x = getH h x) → Q .normal s) :
    WP F B14_0 ⟨e, h, N⟩ Q := by
  have q4 : ∀ c, (N + c = p4) = False := fun c => by simp; omega
  have n4c : ∀ c, (p4 = N + c) = False := fun c => by simp; omega
  have room2 : ((56 ≤ roomMax) = True) := by simp [roomMax]
  have room3 : ((1 ≤ roomMax) = True) := by simp [roomMax]
  have hlt : decide (((0 : Nat) : Int) < (n : Int)) = true := by simpa using hk
  have room : (128 * 1 ≤ roomMax) = True := by simp [roomMax]
  have room1 : (128 ≤ roomMax) = True := by simp [roomMax]
  have pos : ((0 : Nat) < 1) = True := by simp
  have hw : IntKind.wrap .i64 (((0 : Nat) : Int) + 1) = ((1 : Nat) : Int) := by rw [Go.Proofs.Ytfphnpelampoeaa.wrap_i64 _ (by omega)]; rfl
  unfold B14_0
  refine wp_seq (wp_seq (wp_sq ?_))
  iterate 3 (refine sq_cons rfl ?_; simp only [Nat.add_eq_left, Nat.left_eq_add, oneW_some, stepC, step, evX, pureD, loadD, storeD, lenD, asLit, asInt, asBool, getE_cons, putE, updH, getH_cons, iadrD, rowsOf, appR, appD, srcOf, cpyD, frzV, frz, frz1, V.cells, cellsD, isCell, fillP, rowsy, zeros_one, litC, litD, splice, scalar, Option.bind_eq_bind, Option.bind_some, if_true, if_false, Option.map_some, Option.map_none, dInt, binV, isShift, intBin, Nat.reduceEqDiff, Bool.false_eq_true, List.getElem?_cons_zero, List.getElem?_cons_succ, reduceIte, Nat.add_zero, Nat.zero_add, Nat.add_assoc, Nat.reduceAdd, Nat.reduceMul, Nat.reduceLeDiff, Option.some.injEq, reduceCtorEq, Nat.add_left_cancel_iff, List.map_cons, List.map_nil, List.length_cons, List.length_nil, List.take_succ_cons, List.drop_succ_cons, List.take_zero, List.drop_zero, List.take_nil, List.drop_nil, List.all_cons, List.all_nil, Bool.and_self, Bool.and_true, List.cons_append, List.nil_append, List.append_nil, Int.toNat_natCast, Nat.mul_one, Int.natCast_nonneg, and_self, and_true, true_and, Nat.le_refl, Nat.zero_le, Int.reduceLE, Int.reduceToNat, minmax, e3, e5, hlt])
  refine sq_nil (wp_condT rfl (wp_skip ?_))
  refine wp_seq (wp_block (wp_dr ?_))
  iterate 9 (refine dr_cons rfl ?_; simp only [Nat.add_eq_left, Nat.left_eq_add, oneW_some, stepC, step, evX, pureD, loadD, storeD, lenD, asLit, asInt, asBool, getE_cons, putE, updH, getH_cons, iadrD, rowsOf, appR, appD, srcOf, cpyD, frzV, frz, frz1, V.cells, cellsD, isCell, fillP, rowsy, zeros_one, litC, litD, splice, scalar, Option.bind_eq_bind, Option.bind_some, if_true, if_false, Option.map_some, Option.map_none, dInt, binV, isShift, intBin, Nat.reduceEqDiff, Bool.false_eq_true, List.getElem?_cons_zero, List.getElem?_cons_succ, reduceIte, Nat.add_zero, Nat.zero_add, Nat.add_assoc, Nat.reduceAdd, Nat.reduceMul, Nat.reduceLeDiff, Option.some.injEq, reduceCtorEq, Nat.add_left_cancel_iff, List.map_cons, List.map_nil, List.length_cons, List.length_nil, List.take_succ_cons, List.drop_succ_cons, List.take_zero, List.drop_zero, List.take_nil, List.drop_nil, List.all_cons, List.all_nil, Bool.and_self, Bool.and_true, List.cons_append, List.nil_append, List.append_nil, Int.toNat_natCast, Nat.mul_one, Int.natCast_nonneg, and_self, and_true, true_and, Nat.le_refl, Nat.zero_le, Int.reduceLE, Int.reduceToNat, minmax, e4, h4, q4, n4c, room, room1, room2, room3, pos])
  refine dr_nil ⟨?_, ?_⟩
  · simp [drawOk, drawFrom, okRow, clash, meets, touches, frzIds, ids1, opX, tmpsX, Nat.testBit, evX, getE_cons, e4, q4, n4c, h4, getH_cons]
  refine wp_sq ?_
  iterate 3 (refine sq_cons rfl ?_; simp only [Nat.add_eq_left, Nat.left_eq_add, oneW_some, stepC, step, evX, pureD, loadD, storeD, lenD, asLit, asInt, asBool, getE_cons, putE, updH, getH_cons, iadrD, rowsOf, appR, appD, srcOf, cpyD, frzV, frz, frz1, V.cells, cellsD, isCell, fillP, rowsy, zeros_one, litC, litD, splice, scalar, Option.bind_eq_bind, Option.bind_some, if_true, if_false, Option.map_some, Option.map_none, dInt, binV, isShift, intBin, Nat.reduceEqDiff, Bool.false_eq_true, List.getElem?_cons_zero, List.getElem?_cons_succ, reduceIte, Nat.add_zero, Nat.zero_add, Nat.add_assoc, Nat.reduceAdd, Nat.reduceMul, Nat.reduceLeDiff, Option.some.injEq, reduceCtorEq, Nat.add_left_cancel_iff, List.map_cons, List.map_nil, List.length_cons, List.length_nil, List.take_succ_cons, List.drop_succ_cons, List.take_zero, List.drop_zero, List.take_nil, List.drop_nil, List.all_cons, List.all_nil, Bool.and_self, Bool.and_true, List.cons_append, List.nil_append, List.append_nil, Int.toNat_natCast, Nat.mul_one, Int.natCast_nonneg, and_self, and_true, true_and, Nat.le_refl, Nat.zero_le, Int.reduceLE, Int.reduceToNat, minmax, e5, hw])
  refine sq_nil ?_
  refine hQ _ rfl ?_ ?_ ?_ ?_ ?_ ?_ ?_ ?_ ?_
  · simp only [getE_cons, Nat.reduceEqDiff, if_false, e2]
  · simp only [getE_cons, Nat.reduceEqDiff, if_false, e3]
  · simp only [getE_cons, Nat.reduceEqDiff, if_false, e4]
  · simp only [getE_cons, Nat.reduceEqDiff, if_true]
  · simp only [getH_cons, if_true]
  · simp only [getH_cons, Nat.add_left_cancel_iff, Nat.reduceEqDiff, if_true, if_false, n4c 9]
  · simp only [getH_cons, Nat.add_left_cancel_iff, Nat.reduceEqDiff, if_true, if_false, n4c 5]
  · simp only [getH_cons, Nat.add_left_cancel_iff, Nat.reduceEqDiff, if_true, if_false, n4c 6]
  · intro x hx1 hx2
    have qx : ∀ c, (N + c = x) = False := fun c => by simp; omega
    simp only [getH_cons, qx, if_false, show (p4 = x) = False by simp; omega]

theorem new_round (F : Tab) {Q : Ex → St → Prop} {e : Env} {h : Heap} {N p2 p4 k n rid : Nat} {d4 d5 d6 : D} {xs : List D}
    (e2 : getE e 2 = .loc p2 0) (e3 : getE e 3 = .c (.lit (.int .i64 (n : Int)))) (e4 : getE e 4 = .loc p4 0) (e5 : getE e 5 = .c (.lit (.int .i64 ((k : Nat) : Int)))) (hk : k < n)
    (hn : n ≤ 256) (h4 : getH h p4 = .box [.arr rid 0 k, d4, d5, d6]) (hr : getH h rid = .rows xs 3 32) (hx : xs.length = k * 3) (n4 : p4 < N) (nr : rid < N) (n4r : p4 ≠ rid)
    (hQ : ∀ s : St, s.nx = N + 15 → getE s.env 2 = .loc p2 0 → getE s.env 3 = .c (.lit (.int .i64 (n : Int))) → getE s.env 4 = .loc p4 0 → getE s.env 5 = .c (.lit (.int .i64 (((k + 1) : Nat) : Int))) →
      getH s.heap p4 = .box [.arr (N + 9) 0 (k + 1), d4, d5, d6] → getH s.heap (N + 9) = .rows (xs ++ [.arr (N + 5) 0 128, .arr (N + 6) 0 128, .c (.lit (.bool false))]) 3 32 →
      getH s.heap (N + 5) = .arr (zeros [.int .u8 0] 128) 1 0 5 → getH s.heap (N + 6) = .arr (zeros [.int .u8 0] 128) 1 0 5 → (∀ x, x < N → x ≠ p4 → x ≠ rid → getH s.heap x = getH h x) → Q .normal s) :
    WP F B14_0 ⟨e, h, N⟩ Q := by
  have q4 : ∀ c, (N + c = p4) = False := fun c => by simp; omega
  have n4c : ∀ c, (p4 = N + c) = False := fun c => by simp; omega
  have qr : ∀ c, (N + c = rid) = False := fun c => by simp; omega
  have nrc : ∀ c, (rid = N + c) = False := fun c => by simp; omega
  have n4r' : (p4 = rid) = False := by simp; omega
  have nr4' : (rid = p4) = False := by simp; omega
  have room2 : (((k + 1) * 56 ≤ roomMax) = True) := by simp [roomMax]; omega
  have room3 : (((k + 1) ≤ roomMax) = True) := by simp [roomMax]; omega
  have htk : List.take (k * 3) xs = xs := List.take_of_length_le (by omega)
  have hr4 : ¬ rid = p4 := by omega
  have hlt : decide (((k : Nat) : Int) < (n : Int)) = true := by simpa using hk
  have room : (128 * 1 ≤ roomMax) = True := by simp [roomMax]
  have room1 : (128 ≤ roomMax) = True := by simp [roomMax]
  have pos : ((0 : Nat) < 1) = True := by simp
  have hw : IntKind.wrap .i64 (((k : Nat) : Int) + 1) = (((k + 1) : Nat) : Int) := by rw [Go.Proofs.Ytfphnpelampoeaa.wrap_i64 _ (by omega)]; rfl
  unfold B14_0
  refine wp_seq (wp_seq (wp_sq ?_))
  iterate 3 (refine sq_cons rfl ?_; simp only [Nat.add_eq_left, Nat.left_eq_add, oneW_some, stepC, step, evX, pureD, loadD, storeD, lenD, asLit, asInt, asBool, getE_cons, putE, updH, getH_cons, iadrD, rowsOf, appR, appD, srcOf, cpyD, frzV, frz, frz1, V.cells, cellsD, isCell, fillP, rowsy, zeros_one, litC, litD, splice, scalar, Option.bind_eq_bind, Option.bind_some, if_true, if_false, Option.map_some, Option.map_none, dInt, binV, isShift, intBin, Nat.reduceEqDiff, Bool.false_eq_true, List.getElem?_cons_zero, List.getElem?_cons_succ, reduceIte, Nat.add_zero, Nat.zero_add, Nat.add_assoc, Nat.reduceAdd, Nat.reduceMul, Nat.reduceLeDiff, Option.some.injEq, reduceCtorEq, Nat.add_left_cancel_iff, List.map_cons, List.map_nil, List.length_cons, List.length_nil, List.take_succ_cons, List.drop_succ_cons, List.take_zero, List.drop_zero, List.take_nil, List.drop_nil, List.all_cons, List.all_nil, Bool.and_self, Bool.and_true, List.cons_append, List.nil_append, List.append_nil, Int.toNat_natCast, Nat.mul_one, Int.natCast_nonneg, and_self, and_true, true_and, Nat.le_refl, Nat.zero_le, Int.reduceLE, Int.reduceToNat, minmax, e3, e5, hlt])
  refine sq_nil (wp_condT rfl (wp_skip ?_))
  refine wp_seq (wp_block (wp_dr ?_))
  iterate 9 (refine dr_cons rfl ?_; simp only [Nat.add_eq_left, Nat.left_eq_add, oneW_some, stepC, step, evX, pureD, loadD, storeD, lenD, asLit, asInt, asBool, getE_cons, putE, updH, getH_cons, iadrD, rowsOf, appR, appD, srcOf, cpyD, frzV, frz, frz1, V.cells, cellsD, isCell, fillP, rowsy, zeros_one, litC, litD, splice, scalar, Option.bind_eq_bind, Option.bind_some, if_true, if_false, Option.map_some, Option.map_none, dInt, binV, isShift, intBin, Nat.reduceEqDiff, Bool.false_eq_true, List.getElem?_cons_zero, List.getElem?_cons_succ, reduceIte, Nat.add_zero, Nat.zero_add, Nat.add_assoc, Nat.reduceAdd, Nat.reduceMul, Nat.reduceLeDiff, Option.some.injEq, reduceCtorEq, Nat.add_left_cancel_iff, List.map_cons, List.map_nil, List.length_cons, List.length_nil, List.take_succ_cons, List.drop_succ_cons, List.take_zero, List.drop_zero, List.take_nil, List.drop_nil, List.all_cons, List.all_nil, Bool.and_self, Bool.and_true, List.cons_append, List.nil_append, List.append_nil, Int.toNat_natCast, Nat.mul_one, Int.natCast_nonneg, and_self, and_true, true_and, Nat.le_refl, Nat.zero_le, Int.reduceLE, Int.reduceToNat, minmax, e4, h4, q4, n4c, room, room1, room2, room3, pos, hr, hx, qr, nrc, n4r', nr4', htk])
  refine dr_nil ⟨?_, ?_⟩
  · simp [drawOk, drawFrom, okRow, clash, meets, touches, frzIds, ids1, opX, tmpsX, Nat.testBit, evX, getE_cons, e4, q4, n4c, h4, getH_cons, qr, nrc, n4r', nr4', hr]
  refine wp_sq ?_
  iterate 3 (refine sq_cons rfl ?_; simp only [Nat.add_eq_left, Nat.left_eq_add, oneW_some, stepC, step, evX, pureD, loadD, storeD, lenD, asLit, asInt, asBool, getE_cons, putE, updH, getH_cons, iadrD, rowsOf, appR, appD, srcOf, cpyD, frzV, frz, frz1, V.cells, cellsD, isCell, fillP, rowsy, zeros_one, litC, litD, splice, scalar, Option.bind_eq_bind, Option.bind_some, if_true, if_false, Option.map_some, Option.map_none, dInt, binV, isShift, intBin, Nat.reduceEqDiff, Bool.false_eq_true, List.getElem?_cons_zero, List.getElem?_cons_succ, reduceIte, Nat.add_zero, Nat.zero_add, Nat.add_assoc, Nat.reduceAdd, Nat.reduceMul, Nat.reduceLeDiff, Option.some.injEq, reduceCtorEq, Nat.add_left_cancel_iff, List.map_cons, List.map_nil, List.length_cons, List.length_nil, List.take_succ_cons, List.drop_succ_cons, List.take_zero, List.drop_zero, List.take_nil, List.drop_nil, List.all_cons, List.all_nil, Bool.and_self, Bool.and_true, List.cons_append, List.nil_append, List.append_nil, Int.toNat_natCast, Nat.mul_one, Int.natCast_nonneg, and_self, and_true, true_and, Nat.le_refl, Nat.zero_le, Int.reduceLE, Int.reduceToNat, minmax, e5, hw])
  refine sq_nil ?_
  refine hQ _ rfl ?_ ?_ ?_ ?_ ?_ ?_ ?_ ?_ ?_
  · simp only [getE_cons, Nat.reduceEqDiff, if_false, e2]
  · simp only [getE_cons, Nat.reduceEqDiff, if_false, e3]
  · simp only [getE_cons, Nat.reduceEqDiff, if_false, e4]
  · simp only [getE_cons, Nat.reduceEqDiff, if_true]
  · simp only [getH_cons, if_true]
  · simp only [getH_cons, nrc, Nat.add_left_cancel_iff, Nat.reduceEqDiff, if_true, if_false, n4c 9]
  · simp only [getH_cons, nrc, Nat.add_left_cancel_iff, Nat.reduceEqDiff, if_true, if_false, n4c 5]
  · simp only [getH_cons, nrc, Nat.add_left_cancel_iff, Nat.reduceEqDiff, if_true, if_false, n4c 6]
  · intro x hx1 hx2 hx3
    have qx : ∀ c, (N + c = x) = False := fun c => by simp; omega
    simp only [getH_cons, qx, if_false, show (p4 = x) = False by simp; omega, show (rid = x) = False by simp; omega]

theorem new_out (F : Tab) {Q : Ex → St → Prop} {e : Env} {h : Heap} {N n : Nat} (e3 : getE e 3 = .c (.lit (.int .i64 (n : Int)))) (e5 : getE e 5 = .c (.lit (.int .i64 (n : Int))))
    (hQ : ∀ s : St, s.nx = N + 3 → s.heap = h → getE s.env 2 = getE e 2 → getE s.env 4 = getE e 4 → Q (.exit 0) s) : WP F B14_0 ⟨e, h, N⟩ Q := by
  have hlt : decide ((n : Int) < (n : Int)) = false := by simp
  unfold B14_0
  refine wp_seq (wp_seq (wp_sq ?_))
  iterate 3 (refine sq_cons rfl ?_; simp only [Nat.add_eq_left, Nat.left_eq_add, oneW_some, stepC, step, evX, pureD, loadD, storeD, lenD, asLit, asInt, asBool, getE_cons, putE, updH, getH_cons, iadrD, rowsOf, appR, appD, srcOf, cpyD, frzV, frz, frz1, V.cells, cellsD, isCell, fillP, rowsy, zeros_one, litC, litD, splice, scalar, Option.bind_eq_bind, Option.bind_some, if_true, if_false, Option.map_some, Option.map_none, dInt, binV, isShift, intBin, Nat.reduceEqDiff, Bool.false_eq_true, List.getElem?_cons_zero, List.getElem?_cons_succ, reduceIte, Nat.add_zero, Nat.zero_add, Nat.add_assoc, Nat.reduceAdd, Nat.reduceMul, Nat.reduceLeDiff, Option.some.injEq, reduceCtorEq, Nat.add_left_cancel_iff, List.map_cons, List.map_nil, List.length_cons, List.length_nil, List.take_succ_cons, List.drop_succ_cons, List.take_zero, List.drop_zero, List.take_nil, List.drop_nil, List.all_cons, List.all_nil, Bool.and_self, Bool.and_true, List.cons_append, List.nil_append, List.append_nil, Int.toNat_natCast, Nat.mul_one, Int.natCast_nonneg, and_self, and_true, true_and, Nat.le_refl, Nat.zero_le, Int.reduceLE, Int.reduceToNat, minmax, e3, e5, hlt])
  refine sq_nil (wp_condF rfl (wp_exit ?_))
  refine hQ _ rfl rfl ?_ ?_
  · simp only [getE_cons, Nat.reduceEqDiff, if_false]
  · simp only [getE_cons, Nat.reduceEqDiff, if_false]

def zeroB : List UInt8 := List.replicate 128 0
def zeroSec : Sec := ⟨zeroB, zeroB, false⟩
def newSecs (n : Nat) : List Sec := List.replicate n zeroSec

theorem zeros_bytes : ∀ n : Nat, zeros [.int .u8 0] n = bytesC (List.replicate n 0)
  | 0 => rfl
  | n + 1 => by rw [zeros, zeros_bytes n]; rfl

theorem secAt_new (n k : Nat) (h : k < n) : secAt (newSecs n) k = zeroSec := by
  unfold secAt newSecs
  rw [List.getD_eq_getElem?_getD, List.getElem?_replicate, if_pos h]; rfl

theorem newSecs_len (n : Nat) : (newSecs n).length = n := by simp [newSecs]

theorem new_loop (F : Tab) (n : Nat) (hn : n ≤ 256) (p2 p4 B : Nat) (h0 : Heap) (d4 d5 d6 : D) (b4 : p4 < B) {Q : Ex → St → Prop}
    (hQ : ∀ (s : St) (rid : Nat) (ids : List (Nat × Nat)), B ≤ s.nx → getE s.env 2 = .loc p2 0 → getE s.env 4 = .loc p4 0 → getH s.heap p4 = .box [.arr rid 0 n, d4, d5, d6] → Owned (newSecs n) B rid ids s.heap s.nx → (∀ x, x < B → x ≠ p4 → getH s.heap x = getH h0 x) → Q (.exit 0) s) :
    ∀ (m k N rid : Nat) (e : Env) (h : Heap) (ids : List (Nat × Nat)), k + m = n → B ≤ N → getE e 2 = .loc p2 0 → getE e 3 = .c (.lit (.int .i64 (n : Int))) → getE e 4 = .loc p4 0 → getE e 5 = .c (.lit (.int .i64 (k : Int))) →
      getH h p4 = .box [.arr rid 0 k, d4, d5, d6] → Owned ((newSecs n).take k) B rid ids h N → (∀ x, x < B → x ≠ p4 → getH h x = getH h0 x) → WP F (.loop B14_0) ⟨e, h, N⟩ Q
  | 0, k, N, rid, e, h, ids, hk, hB, e2, e3, e4, e5, h4, ho, hf => by
    have hkl : k = n := by omega
    subst hkl
    rw [List.take_of_length_le (by rw [newSecs_len]; omega)] at ho
    refine wp_loop (new_out F e3 e5 fun s s1 s2 s3 s4 => ?_)
    refine hQ s rid ids (by omega) (by rw [s3]; exact e2) (by rw [s4]; exact e4) (by rw [s2]; exact h4) ?_ (by rw [s2]; exact hf)
    rw [s2, s1]
    exact ⟨ho.hr, ho.held, ho.nd, fun x hx => ⟨(ho.lo x hx).1, by have := (ho.lo x hx).2; omega⟩⟩
  | m + 1, k, N, rid, e, h, ids, hk, hB, e2, e3, e4, e5, h4, ho, hf => by
    have hkl : k < n := by omega
    have hr := ho.lo rid (by simp)
    have hlen : ((newSecs n).take k).length = k := by rw [List.length_take, newSecs_len]; omega
    refine wp_loop (new_round F e2 e3 e4 e5 hkl hn h4 ho.hr (by rw [rowD_len ho.held.len, hlen]) (by omega) (by omega) (by omega) ?_)
    intro s g1 g2 g3 g4 g5 g6 g7 g8 g9 g10
    have hnd := ho.nd
    rw [List.nodup_cons] at hnd
    have hz : secAt (newSecs n) k = zeroSec := secAt_new n k hkl
    have ho' : Owned ((newSecs n).take (k + 1)) B (N + 9) (ids ++ [(N + 5, N + 6)]) s.heap s.nx :=
      ho.snoc hB (by rw [newSecs_len]; exact hkl) (by rw [hz]; exact g7) (by rw [hz, g8, zeros_bytes]; rfl) (by rw [hz, g9, zeros_bytes]; rfl) (by omega) (by omega) (by omega) (by omega) (by omega) (by omega) (fun x hx => by
        have := ho.lo x (by simp [hx])
        refine g10 x this.2 (by omega) fun e => hnd.1 (e ▸ hx)) (by omega)
    obtain ⟨se, sh, sn⟩ := s
    exact new_loop F n hn p2 p4 B h0 d4 d5 d6 b4 hQ m (k + 1) sn (N + 9) se sh _ (by omega) (by simp only at g1; omega) g2 g3 g4 g5 g6 ho' fun x hx hx3 => by rw [← hf x hx hx3]; exact g10 x (by omega) hx3 (by omega)

theorem new_run {F : Tab} (hF : F.code = code) (n : Nat) (h1 : 1 ≤ n) (hn : n ≤ 256) (h : Heap) (N : Nat) :
    ∃ rid ids h' N', RunB F 14 [.c (intC n)] h N [.agg [.arr rid 0 n, .c (boolC false), .c (boolC false), .c (intC 0)]] h' N' ∧
      Owned (newSecs n) N rid ids h' N' ∧ N ≤ N' ∧ ∀ x, x < N → getH h' x = getH h x := by
  have m1 : (if (1 : Int) > (n : Int) then (1 : Int) else (n : Int)) = (n : Int) := by rw [if_neg (by omega)]
  have m2 : (if (256 : Int) < (n : Int) then (256 : Int) else (n : Int)) = (n : Int) := by rw [if_neg (by omega)]
  have key : WP F I14.body ⟨bindArgs 0 [.c (intC n)], h, N⟩ fun x s => x = .ret ∧ ∃ rid ids, getE s.env 2 = .loc N 0 ∧ getH s.heap N = .box [.arr rid 0 n, .c (boolC false), .c (boolC false), .c (intC 0)] ∧ Owned (newSecs n) N rid ids s.heap s.nx ∧ N ≤ s.nx ∧ ∀ x, x < N → getH s.heap x = getH h x := by
    unfold I14
    simp only [bindArgs, boolC, intC]
    refine wp_seq (wp_sq ?_)
    iterate 1 (refine sq_cons rfl ?_; simp only [Nat.add_eq_left, Nat.left_eq_add, oneW_some, stepC, step, evX, pureD, loadD, storeD, lenD, asLit, asInt, asBool, getE_cons, putE, updH, getH_cons, iadrD, rowsOf, appR, appD, srcOf, cpyD, frzV, frz, frz1, V.cells, cellsD, isCell, fillP, rowsy, zeros_one, litC, litD, splice, scalar, Option.bind_eq_bind, Option.bind_some, if_true, if_false, Option.map_some, Option.map_none, dInt, binV, isShift, intBin, Nat.reduceEqDiff, Bool.false_eq_true, List.getElem?_cons_zero, List.getElem?_cons_succ, reduceIte, Nat.add_zero, Nat.zero_add, Nat.add_assoc, Nat.reduceAdd, Nat.reduceMul, Nat.reduceLeDiff, Option.some.injEq, reduceCtorEq, Nat.add_left_cancel_iff, List.map_cons, List.map_nil, List.length_cons, List.length_nil, List.take_succ_cons, List.drop_succ_cons, List.take_zero, List.drop_zero, List.take_nil, List.drop_nil, List.all_cons, List.all_nil, Bool.and_self, Bool.and_true, List.cons_append, List.nil_append, List.append_nil, Int.toNat_natCast, Nat.mul_one, Int.natCast_nonneg, and_self, and_true, true_and, Nat.le_refl, Nat.zero_le, Int.reduceLE, Int.reduceToNat, minmax])
    refine sq_nil (wp_seq (wp_sq ?_))
    iterate 4 (refine sq_cons rfl ?_; simp only [Nat.add_eq_left, Nat.left_eq_add, oneW_some, stepC, step, evX, pureD, loadD, storeD, lenD, asLit, asInt, asBool, getE_cons, putE, updH, getH_cons, iadrD, rowsOf, appR, appD, srcOf, cpyD, frzV, frz, frz1, V.cells, cellsD, isCell, fillP, rowsy, zeros_one, litC, litD, splice, scalar, Option.bind_eq_bind, Option.bind_some, if_true, if_false, Option.map_some, Option.map_none, dInt, binV, isShift, intBin, Nat.reduceEqDiff, Bool.false_eq_true, List.getElem?_cons_zero, List.getElem?_cons_succ, reduceIte, Nat.add_zero, Nat.zero_add, Nat.add_assoc, Nat.reduceAdd, Nat.reduceMul, Nat.reduceLeDiff, Option.some.injEq, reduceCtorEq, Nat.add_left_cancel_iff, List.map_cons, List.map_nil, List.length_cons, List.length_nil, List.take_succ_cons, List.drop_succ_cons, List.take_zero, List.drop_zero, List.take_nil, List.drop_nil, List.all_cons, List.all_nil, Bool.and_self, Bool.and_true, List.cons_append, List.nil_append, List.append_nil, Int.toNat_natCast, Nat.mul_one, Int.natCast_nonneg, and_self, and_true, true_and, Nat.le_refl, Nat.zero_le, Int.reduceLE, Int.reduceToNat, minmax, m1, m2])
    refine sq_nil (wp_seq (wp_sq ?_))
    iterate 3 (refine sq_cons rfl ?_; simp only [Nat.add_eq_left, Nat.left_eq_add, oneW_some, stepC, step, evX, pureD, loadD, storeD, lenD, asLit, asInt, asBool, getE_cons, putE, updH, getH_cons, iadrD, rowsOf, appR, appD, srcOf, cpyD, frzV, frz, frz1, V.cells, cellsD, isCell, fillP, rowsy, zeros_one, litC, litD, splice, scalar, Option.bind_eq_bind, Option.bind_some, if_true, if_false, Option.map_some, Option.map_none, dInt, binV, isShift, intBin, Nat.reduceEqDiff, Bool.false_eq_true, List.getElem?_cons_zero, List.getElem?_cons_succ, reduceIte, Nat.add_zero, Nat.zero_add, Nat.add_assoc, Nat.reduceAdd, Nat.reduceMul, Nat.reduceLeDiff, Option.some.injEq, reduceCtorEq, Nat.add_left_cancel_iff, List.map_cons, List.map_nil, List.length_cons, List.length_nil, List.take_succ_cons, List.drop_succ_cons, List.take_zero, List.drop_zero, List.take_nil, List.drop_nil, List.all_cons, List.all_nil, Bool.and_self, Bool.and_true, List.cons_append, List.nil_append, List.append_nil, Int.toNat_natCast, Nat.mul_one, Int.natCast_nonneg, and_self, and_true, true_and, Nat.le_refl, Nat.zero_le, Int.reduceLE, Int.reduceToNat, minmax])
    refine sq_nil (wp_seq (wp_seq (wp_sq ?_)))
    iterate 1 (refine sq_cons rfl ?_; simp only [Nat.add_eq_left, Nat.left_eq_add, oneW_some, stepC, step, evX, pureD, loadD, storeD, lenD, asLit, asInt, asBool, getE_cons, putE, updH, getH_cons, iadrD, rowsOf, appR, appD, srcOf, cpyD, frzV, frz, frz1, V.cells, cellsD, isCell, fillP, rowsy, zeros_one, litC, litD, splice, scalar, Option.bind_eq_bind, Option.bind_some, if_true, if_false, Option.map_some, Option.map_none, dInt, binV, isShift, intBin, Nat.reduceEqDiff, Bool.false_eq_true, List.getElem?_cons_zero, List.getElem?_cons_succ, reduceIte, Nat.add_zero, Nat.zero_add, Nat.add_assoc, Nat.reduceAdd, Nat.reduceMul, Nat.reduceLeDiff, Option.some.injEq, reduceCtorEq, Nat.add_left_cancel_iff, List.map_cons, List.map_nil, List.length_cons, List.length_nil, List.take_succ_cons, List.drop_succ_cons, List.take_zero, List.drop_zero, List.take_nil, List.drop_nil, List.all_cons, List.all_nil, Bool.and_self, Bool.and_true, List.cons_append, List.nil_append, List.append_nil, Int.toNat_natCast, Nat.mul_one, Int.natCast_nonneg, and_self, and_true, true_and, Nat.le_refl, Nat.zero_le, Int.reduceLE, Int.reduceToNat, minmax])
    refine sq_nil (wp_block ?_)
    refine wp_loop (new_first F (p2 := N) (p4 := N + 6) (d4 := .c (boolC false)) (d5 := .c (boolC false)) (d6 := .c (intC 0)) (by simp only [getE_cons, Nat.reduceEqDiff, if_false, if_true]) (by simp only [getE_cons, Nat.reduceEqDiff, if_false, if_true]) (by simp only [getE_cons, Nat.reduceEqDiff, if_false, if_true]) (by simp only [getE_cons, if_true]; rfl)
      h1 (by simp [getH_cons, boolC, intC]) (by omega) ?_)
    intro s g1 g2 g3 g4 g5 g6 g7 g8 g9 g10
    obtain ⟨se, sh, sn⟩ := s
    simp only at g1 g2 g3 g4 g5 g6 g7 g8 g9 g10
    subst g1
    have ho' : Owned ((newSecs n).take 1) (N + 9) (N + 9 + 9) [(N + 9 + 5, N + 9 + 6)] sh (N + 9 + 15) := by
      rw [take_succ_at (newSecs n) 0 (by rw [newSecs_len]; exact h1), secAt_new n 0 h1]
      refine ⟨g7, ⟨by rw [g8, zeros_bytes]; rfl, by rw [g9, zeros_bytes]; rfl, trivial⟩, ?_, ?_⟩
      · simp [flat]
      · intro x hx; simp [flat] at hx; omega
    refine new_loop F n hn N (N + 6) (N + 9) sh (.c (boolC false)) (.c (boolC false)) (.c (intC 0)) (by omega) ?_ (n - 1) 1 _ _ se sh _ (by omega) (by omega) g2 g3 g4 g5 g6 ho' (fun _ _ _ => rfl)
    intro s rid ids k1 k2 k3 k4 k5 k6
    obtain ⟨te, th, tn⟩ := s
    simp only at k1 k2 k3 k4 k5 k6
    simp only [if_true]
    have hp2 : getH th N = .box [.full [] 0, .c (.lit (.bool false)), .c (.lit (.bool false)), .c (.lit (.int .i64 0))] := by
      rw [k6 N (by omega) (by omega), g10 N (by omega) (by omega)]; simp [getH_cons]
    refine wp_seq (wp_sq ?_)
    iterate 2 (refine sq_cons rfl ?_; simp only [Nat.add_eq_left, Nat.left_eq_add, oneW_some, stepC, step, evX, pureD, loadD, storeD, lenD, asLit, asInt, asBool, getE_cons, putE, updH, getH_cons, iadrD, rowsOf, appR, appD, srcOf, cpyD, frzV, frz, frz1, V.cells, cellsD, isCell, fillP, rowsy, zeros_one, litC, litD, splice, scalar, Option.bind_eq_bind, Option.bind_some, if_true, if_false, Option.map_some, Option.map_none, dInt, binV, isShift, intBin, Nat.reduceEqDiff, Bool.false_eq_true, List.getElem?_cons_zero, List.getElem?_cons_succ, reduceIte, Nat.add_zero, Nat.zero_add, Nat.add_assoc, Nat.reduceAdd, Nat.reduceMul, Nat.reduceLeDiff, Option.some.injEq, reduceCtorEq, Nat.add_left_cancel_iff, List.map_cons, List.map_nil, List.length_cons, List.length_nil, List.take_succ_cons, List.drop_succ_cons, List.take_zero, List.drop_zero, List.take_nil, List.drop_nil, List.all_cons, List.all_nil, Bool.and_self, Bool.and_true, List.cons_append, List.nil_append, List.append_nil, Int.toNat_natCast, Nat.mul_one, Int.natCast_nonneg, and_self, and_true, true_and, Nat.le_refl, Nat.zero_le, Int.reduceLE, Int.reduceToNat, minmax, k2, k3, k4, hp2])
    refine sq_nil (wp_ret ⟨rfl, rid, ids, ?_, ?_, ?_, ?_, ?_⟩)
    · simp only [getE_cons, Nat.reduceEqDiff, if_false]; exact k2
    · simp only [getH_cons, if_true, boolC, intC]
    · have hne : ∀ x, N + 9 ≤ x → (N = x) = False := fun x hx => by simp; omega
      refine ⟨?_, ?_, k5.nd, fun x hx => ?_⟩
      · simp only [getH_cons, hne rid (k5.lo rid (by simp)).1, if_false]; exact k5.hr
      · exact k5.held.frame fun x hx => by simp only [getH_cons, hne x (k5.lo x (by simp [hx])).1, if_false]
      · have := k5.lo x hx; simp only; omega
    · simp only; omega
    · intro x hx
      simp only [getH_cons, show (N = x) = False by simp; omega, if_false]
      rw [k6 x (by omega) (by omega), g10 x (by omega) (by omega)]
      simp [getH_cons, show ¬ (N + 6 = x) by omega, show ¬ (N = x) by omega]
  obtain ⟨x, s, hrun, rfl, rid, ids, g1, g2, g3, g4, g5⟩ := key
  refine ⟨rid, ids, s.heap, s.nx, ?_, g3, g4, g5⟩
  refine RunB.fn (I := I14) (by rw [hF]; rfl) rfl hrun (by simp) ?_
  simp [I14, resD, g1, g2, loadD]

end Go.Proofs.Ytfphnpelampoeaa.Rw

