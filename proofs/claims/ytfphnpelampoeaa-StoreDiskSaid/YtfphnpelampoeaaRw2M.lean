/-
  The copy of a disk: rounds of its loop.
-/
import Derived.Test.YtfphnpelampoeaaRw1M
set_option linter.unusedVariables false
set_option linter.unusedSimpArgs false
namespace Go.Proofs.Ytfphnpelampoeaa.Rw
open Go Go.Ez

theorem cop_first (F : Tab) {Q : Ex → St → Prop} {e : Env} {h : Heap} {N p1 p2 p3 n : Nat} {cells c1 c2 rest : List C} {fb : Bool} {d1 d2 d3 d4 d5 d6 : D}
    (e1 : getE e 1 = .loc p1 0) (e2 : getE e 2 = .loc p2 0) (e3 : getE e 3 = .loc p3 0) (e4 : getE e 4 = .c (.lit (.int .i64 ((0 : Nat) : Int))))
    (h1 : getH h p1 = .box [.c (.slice cells n), d1, d2, d3]) (hk : 0 < n)
    (hc : cells.drop (0 * 3) = .slice c1 128 :: .slice c2 128 :: .lit (.bool fb) :: rest) (l1 : c1.length = 128) (l2 : c2.length = 128)
    (h3 : getH h p3 = .box [.full [] 0, d4, d5, d6]) (n1 : p1 < N) (n3 : p3 < N)
    (hQ : ∀ s : St, s.nx = N + 32 → getE s.env 1 = .loc p1 0 → getE s.env 2 = .loc p2 0 → getE s.env 3 = .loc p3 0 → getE s.env 4 = .c (.lit (.int .i64 ((1 : Nat) : Int))) →
      getH s.heap p3 = .box [.arr (N + 26) 0 1, d4, d5, d6] → getH s.heap (N + 26) = .rows ([.arr (N + 14) 0 128, .arr (N + 17) 0 128, .c (.lit (.bool fb))]) 3 32 →
      getH s.heap (N + 14) = .arr c1 1 0 5 → getH s.heap (N + 17) = .arr c2 1 0 5 → (∀ x, x < N → x ≠ p3 → getH s.heap x = getH h x) → Q .normal s) :
    WP F B38_0 ⟨e, h, N⟩ Q := by
  have q1 : ∀ c, (N + c = p1) = False := fun c => by simp; omega
  have q3 : ∀ c, (N + c = p3) = False := fun c => by simp; omega
  have room2 : ((56 ≤ roomMax) = True) := by simp [roomMax]
  have room3 : ((1 ≤ roomMax) = True) := by simp [roomMax]
  have pos : ((0 : Nat) < 1) = True := by simp
  have hlt : decide (((0 : Nat) : Int) < (n : Int)) = true := by simpa using hk
  have hlt' : (((0 : Nat) : Int) < (n : Int)) = True := by simpa using hk
  have room : (128 * 1 ≤ roomMax) = True := by simp [roomMax]
  have room1 : (128 ≤ roomMax) = True := by simp [roomMax]
  have p128 : ((0 : Nat) < 1) = True := by simp
  have hw : IntKind.wrap .i64 (((0 : Nat) : Int) + 1) = ((1 : Nat) : Int) := by rw [Go.Proofs.Ytfphnpelampoeaa.wrap_i64 _ (by omega)]; rfl
  have n3c : ∀ c, (p3 = N + c) = False := fun c => by simp; omega
  unfold B38_0
  refine wp_seq (wp_seq (wp_reg ?_))
  iterate 5 (refine seqW_cons rfl ?_; simp only [oneW_some, stepC, step, evX, pureD, loadD, storeD, lenD, asLit, asInt, asBool, getE_cons, putE, updH, getH_cons, iadrD, rowsOf, appR, appD, srcOf, cpyD, frzV, frz, frz1, V.cells, cellsD, isCell, fillP, rowsy, zeros, litC, litD, splice, scalar, Option.bind_eq_bind, Option.bind_some, if_true, if_false, Option.map_some, Option.map_none, dInt, binV, isShift, intBin, Nat.reduceEqDiff, Bool.false_eq_true, List.getElem?_cons_zero, List.getElem?_cons_succ, reduceIte, Nat.add_zero, Nat.zero_add, Nat.add_assoc, Nat.reduceAdd, Nat.reduceMul, Nat.reduceLeDiff, Option.some.injEq, reduceCtorEq, Nat.add_left_cancel_iff, List.map_cons, List.map_nil, List.length_cons, List.length_nil, List.take_succ_cons, List.drop_succ_cons, List.take_zero, List.drop_zero, List.take_nil, List.drop_nil, List.all_cons, List.all_nil, Bool.and_self, Bool.and_true, List.cons_append, List.nil_append, List.append_nil, Int.toNat_natCast, Nat.mul_one, Int.natCast_nonneg, and_self, and_true, true_and, Nat.le_refl, Nat.zero_le, e1, e4, h1, hlt])
  refine seqW_nil (wp_condT rfl (wp_skip ?_))
  refine wp_seq (wp_block (wp_seq (wp_reg ?_)))
  iterate 7 (refine seqW_cons rfl ?_; simp only [oneW_some, stepC, step, evX, pureD, loadD, storeD, lenD, asLit, asInt, asBool, getE_cons, putE, updH, getH_cons, iadrD, rowsOf, appR, appD, srcOf, cpyD, frzV, frz, frz1, V.cells, cellsD, isCell, fillP, rowsy, zeros, litC, litD, splice, scalar, Option.bind_eq_bind, Option.bind_some, if_true, if_false, Option.map_some, Option.map_none, dInt, binV, isShift, intBin, Nat.reduceEqDiff, Bool.false_eq_true, List.getElem?_cons_zero, List.getElem?_cons_succ, reduceIte, Nat.add_zero, Nat.zero_add, Nat.add_assoc, Nat.reduceAdd, Nat.reduceMul, Nat.reduceLeDiff, Option.some.injEq, reduceCtorEq, Nat.add_left_cancel_iff, List.map_cons, List.map_nil, List.length_cons, List.length_nil, List.take_succ_cons, List.drop_succ_cons, List.take_zero, List.drop_zero, List.take_nil, List.drop_nil, List.all_cons, List.all_nil, Bool.and_self, Bool.and_true, List.cons_append, List.nil_append, List.append_nil, Int.toNat_natCast, Nat.mul_one, Int.natCast_nonneg, and_self, and_true, true_and, Nat.le_refl, Nat.zero_le, e1, e4, h1, hlt', hc, q1, q3])
  refine seqW_nil (wp_seq (wp_drw ?_))
  iterate 10 (refine drawW_cons ?_; simp only [oneW_some, stepC, step, evX, pureD, loadD, storeD, lenD, asLit, asInt, asBool, getE_cons, putE, updH, getH_cons, iadrD, rowsOf, appR, appD, srcOf, cpyD, frzV, frz, frz1, V.cells, cellsD, isCell, fillP, rowsy, zeros, litC, litD, splice, scalar, Option.bind_eq_bind, Option.bind_some, if_true, if_false, Option.map_some, Option.map_none, dInt, binV, isShift, intBin, Nat.reduceEqDiff, Bool.false_eq_true, List.getElem?_cons_zero, List.getElem?_cons_succ, reduceIte, Nat.add_zero, Nat.zero_add, Nat.add_assoc, Nat.reduceAdd, Nat.reduceMul, Nat.reduceLeDiff, Option.some.injEq, reduceCtorEq, Nat.add_left_cancel_iff, List.map_cons, List.map_nil, List.length_cons, List.length_nil, List.take_succ_cons, List.drop_succ_cons, List.take_zero, List.drop_zero, List.take_nil, List.drop_nil, List.all_cons, List.all_nil, Bool.and_self, Bool.and_true, List.cons_append, List.nil_append, List.append_nil, Int.toNat_natCast, Nat.mul_one, Int.natCast_nonneg, and_self, and_true, true_and, Nat.le_refl, Nat.zero_le, e1, e4, h1, hlt', hc, q1, q3, l1, l2, room, room1, p128])
  refine drawW_nil ⟨?_, ?_⟩
  · simp [drawOk, drawFrom, okRow, clash, meets, touches, frzIds, ids1, opX, tmpsX, Nat.testBit, evX, getE_cons]
  refine wp_reg ?_
  iterate 7 (refine seqW_cons rfl ?_; simp only [oneW_some, stepC, step, evX, pureD, loadD, storeD, lenD, asLit, asInt, asBool, getE_cons, putE, updH, getH_cons, iadrD, rowsOf, appR, appD, srcOf, cpyD, frzV, frz, frz1, V.cells, cellsD, isCell, fillP, rowsy, zeros, litC, litD, splice, scalar, Option.bind_eq_bind, Option.bind_some, if_true, if_false, Option.map_some, Option.map_none, dInt, binV, isShift, intBin, Nat.reduceEqDiff, Bool.false_eq_true, List.getElem?_cons_zero, List.getElem?_cons_succ, reduceIte, Nat.add_zero, Nat.zero_add, Nat.add_assoc, Nat.reduceAdd, Nat.reduceMul, Nat.reduceLeDiff, Option.some.injEq, reduceCtorEq, Nat.add_left_cancel_iff, List.map_cons, List.map_nil, List.length_cons, List.length_nil, List.take_succ_cons, List.drop_succ_cons, List.take_zero, List.drop_zero, List.take_nil, List.drop_nil, List.all_cons, List.all_nil, Bool.and_self, Bool.and_true, List.cons_append, List.nil_append, List.append_nil, Int.toNat_natCast, Nat.mul_one, Int.natCast_nonneg, and_self, and_true, true_and, Nat.le_refl, Nat.zero_le, e3, h3, q1, q3, room2, room3])
  refine seqW_nil (wp_reg ?_)
  iterate 3 (refine seqW_cons rfl ?_; simp only [oneW_some, stepC, step, evX, pureD, loadD, storeD, lenD, asLit, asInt, asBool, getE_cons, putE, updH, getH_cons, iadrD, rowsOf, appR, appD, srcOf, cpyD, frzV, frz, frz1, V.cells, cellsD, isCell, fillP, rowsy, zeros, litC, litD, splice, scalar, Option.bind_eq_bind, Option.bind_some, if_true, if_false, Option.map_some, Option.map_none, dInt, binV, isShift, intBin, Nat.reduceEqDiff, Bool.false_eq_true, List.getElem?_cons_zero, List.getElem?_cons_succ, reduceIte, Nat.add_zero, Nat.zero_add, Nat.add_assoc, Nat.reduceAdd, Nat.reduceMul, Nat.reduceLeDiff, Option.some.injEq, reduceCtorEq, Nat.add_left_cancel_iff, List.map_cons, List.map_nil, List.length_cons, List.length_nil, List.take_succ_cons, List.drop_succ_cons, List.take_zero, List.drop_zero, List.take_nil, List.drop_nil, List.all_cons, List.all_nil, Bool.and_self, Bool.and_true, List.cons_append, List.nil_append, List.append_nil, Int.toNat_natCast, Nat.mul_one, Int.natCast_nonneg, and_self, and_true, true_and, Nat.le_refl, Nat.zero_le, e4, hw])
  refine seqW_nil ?_
  refine hQ _ rfl ?_ ?_ ?_ ?_ ?_ ?_ ?_ ?_ ?_
  · simp only [getE_cons, Nat.reduceEqDiff, if_false, e1]
  · simp only [getE_cons, Nat.reduceEqDiff, if_false, e2]
  · simp only [getE_cons, Nat.reduceEqDiff, if_false, e3]
  · simp only [getE_cons, Nat.reduceEqDiff, if_true]
  · simp only [getH_cons, if_true]
  · simp only [getH_cons, Nat.add_left_cancel_iff, Nat.reduceEqDiff, if_true, if_false, n3c 26]
  · simp only [getH_cons, Nat.add_left_cancel_iff, Nat.reduceEqDiff, if_true, if_false, n3c 14]
  · simp only [getH_cons, Nat.add_left_cancel_iff, Nat.reduceEqDiff, if_true, if_false, n3c 17]
  · intro x hx1 hx2
    have qx : ∀ c, (N + c = x) = False := fun c => by simp; omega
    simp only [getH_cons, qx, if_false, show (p3 = x) = False by simp; omega]

theorem cop_round (F : Tab) {Q : Ex → St → Prop} {e : Env} {h : Heap} {N p1 p2 p3 k n rid : Nat} {cells c1 c2 rest : List C} {fb : Bool} {d1 d2 d3 d4 d5 d6 : D} {xs : List D}
    (e1 : getE e 1 = .loc p1 0) (e2 : getE e 2 = .loc p2 0) (e3 : getE e 3 = .loc p3 0) (e4 : getE e 4 = .c (.lit (.int .i64 ((k : Nat) : Int))))
    (h1 : getH h p1 = .box [.c (.slice cells n), d1, d2, d3]) (hk : k < n)
    (hc : cells.drop (k * 3) = .slice c1 128 :: .slice c2 128 :: .lit (.bool fb) :: rest) (l1 : c1.length = 128) (l2 : c2.length = 128)
    (hn : n ≤ 256) (h3 : getH h p3 = .box [.arr rid 0 k, d4, d5, d6]) (hr : getH h rid = .rows xs 3 32) (hx : xs.length = k * 3) (n1 : p1 < N) (n3 : p3 < N) (nr : rid < N) (n3r : p3 ≠ rid)
    (hQ : ∀ s : St, s.nx = N + 32 → getE s.env 1 = .loc p1 0 → getE s.env 2 = .loc p2 0 → getE s.env 3 = .loc p3 0 → getE s.env 4 = .c (.lit (.int .i64 (((k + 1) : Nat) : Int))) →
      getH s.heap p3 = .box [.arr (N + 26) 0 (k + 1), d4, d5, d6] → getH s.heap (N + 26) = .rows (xs ++ [.arr (N + 14) 0 128, .arr (N + 17) 0 128, .c (.lit (.bool fb))]) 3 32 →
      getH s.heap (N + 14) = .arr c1 1 0 5 → getH s.heap (N + 17) = .arr c2 1 0 5 → (∀ x, x < N → x ≠ p3 → x ≠ rid → getH s.heap x = getH h x) → Q .normal s) :
    WP F B38_0 ⟨e, h, N⟩ Q := by
  have q1 : ∀ c, (N + c = p1) = False := fun c => by simp; omega
  have q3 : ∀ c, (N + c = p3) = False := fun c => by simp; omega
  have qr : ∀ c, (N + c = rid) = False := fun c => by simp; omega
  have n3r' : (p3 = rid) = False := by simp; omega
  have nr3' : (rid = p3) = False := by simp; omega
  have room2 : (((k + 1) * 56 ≤ roomMax) = True) := by simp [roomMax]; omega
  have room3 : (((k + 1) ≤ roomMax) = True) := by simp [roomMax]; omega
  have htk : List.take (k * 3) xs = xs := List.take_of_length_le (by omega)
  have hlt : decide (((k : Nat) : Int) < (n : Int)) = true := by simpa using hk
  have hlt' : (((k : Nat) : Int) < (n : Int)) = True := by simpa using hk
  have room : (128 * 1 ≤ roomMax) = True := by simp [roomMax]
  have room1 : (128 ≤ roomMax) = True := by simp [roomMax]
  have p128 : ((0 : Nat) < 1) = True := by simp
  have hw : IntKind.wrap .i64 (((k : Nat) : Int) + 1) = (((k + 1) : Nat) : Int) := by rw [Go.Proofs.Ytfphnpelampoeaa.wrap_i64 _ (by omega)]; rfl
  have n3c : ∀ c, (p3 = N + c) = False := fun c => by simp; omega
  have nrc : ∀ c, (rid = N + c) = False := fun c => by simp; omega
  unfold B38_0
  refine wp_seq (wp_seq (wp_reg ?_))
  iterate 5 (refine seqW_cons rfl ?_; simp only [oneW_some, stepC, step, evX, pureD, loadD, storeD, lenD, asLit, asInt, asBool, getE_cons, putE, updH, getH_cons, iadrD, rowsOf, appR, appD, srcOf, cpyD, frzV, frz, frz1, V.cells, cellsD, isCell, fillP, rowsy, zeros, litC, litD, splice, scalar, Option.bind_eq_bind, Option.bind_some, if_true, if_false, Option.map_some, Option.map_none, dInt, binV, isShift, intBin, Nat.reduceEqDiff, Bool.false_eq_true, List.getElem?_cons_zero, List.getElem?_cons_succ, reduceIte, Nat.add_zero, Nat.zero_add, Nat.add_assoc, Nat.reduceAdd, Nat.reduceMul, Nat.reduceLeDiff, Option.some.injEq, reduceCtorEq, Nat.add_left_cancel_iff, List.map_cons, List.map_nil, List.length_cons, List.length_nil, List.take_succ_cons, List.drop_succ_cons, List.take_zero, List.drop_zero, List.take_nil, List.drop_nil, List.all_cons, List.all_nil, Bool.and_self, Bool.and_true, List.cons_append, List.nil_append, List.append_nil, Int.toNat_natCast, Nat.mul_one, Int.natCast_nonneg, and_self, and_true, true_and, Nat.le_refl, Nat.zero_le, e1, e4, h1, hlt])
  refine seqW_nil (wp_condT rfl (wp_skip ?_))
  refine wp_seq (wp_block (wp_seq (wp_reg ?_)))
  iterate 7 (refine seqW_cons rfl ?_; simp only [oneW_some, stepC, step, evX, pureD, loadD, storeD, lenD, asLit, asInt, asBool, getE_cons, putE, updH, getH_cons, iadrD, rowsOf, appR, appD, srcOf, cpyD, frzV, frz, frz1, V.cells, cellsD, isCell, fillP, rowsy, zeros, litC, litD, splice, scalar, Option.bind_eq_bind, Option.bind_some, if_true, if_false, Option.map_some, Option.map_none, dInt, binV, isShift, intBin, Nat.reduceEqDiff, Bool.false_eq_true, List.getElem?_cons_zero, List.getElem?_cons_succ, reduceIte, Nat.add_zero, Nat.zero_add, Nat.add_assoc, Nat.reduceAdd, Nat.reduceMul, Nat.reduceLeDiff, Option.some.injEq, reduceCtorEq, Nat.add_left_cancel_iff, List.map_cons, List.map_nil, List.length_cons, List.length_nil, List.take_succ_cons, List.drop_succ_cons, List.take_zero, List.drop_zero, List.take_nil, List.drop_nil, List.all_cons, List.all_nil, Bool.and_self, Bool.and_true, List.cons_append, List.nil_append, List.append_nil, Int.toNat_natCast, Nat.mul_one, Int.natCast_nonneg, and_self, and_true, true_and, Nat.le_refl, Nat.zero_le, e1, e4, h1, hlt', hc, q1, q3, qr])
  refine seqW_nil (wp_seq (wp_drw ?_))
  iterate 10 (refine drawW_cons ?_; simp only [oneW_some, stepC, step, evX, pureD, loadD, storeD, lenD, asLit, asInt, asBool, getE_cons, putE, updH, getH_cons, iadrD, rowsOf, appR, appD, srcOf, cpyD, frzV, frz, frz1, V.cells, cellsD, isCell, fillP, rowsy, zeros, litC, litD, splice, scalar, Option.bind_eq_bind, Option.bind_some, if_true, if_false, Option.map_some, Option.map_none, dInt, binV, isShift, intBin, Nat.reduceEqDiff, Bool.false_eq_true, List.getElem?_cons_zero, List.getElem?_cons_succ, reduceIte, Nat.add_zero, Nat.zero_add, Nat.add_assoc, Nat.reduceAdd, Nat.reduceMul, Nat.reduceLeDiff, Option.some.injEq, reduceCtorEq, Nat.add_left_cancel_iff, List.map_cons, List.map_nil, List.length_cons, List.length_nil, List.take_succ_cons, List.drop_succ_cons, List.take_zero, List.drop_zero, List.take_nil, List.drop_nil, List.all_cons, List.all_nil, Bool.and_self, Bool.and_true, List.cons_append, List.nil_append, List.append_nil, Int.toNat_natCast, Nat.mul_one, Int.natCast_nonneg, and_self, and_true, true_and, Nat.le_refl, Nat.zero_le, e1, e4, h1, hlt', hc, q1, q3, qr, l1, l2, room, room1, p128])
  refine drawW_nil ⟨?_, ?_⟩
  · simp [drawOk, drawFrom, okRow, clash, meets, touches, frzIds, ids1, opX, tmpsX, Nat.testBit, evX, getE_cons]
  refine wp_reg ?_
  iterate 7 (refine seqW_cons rfl ?_; simp only [oneW_some, stepC, step, evX, pureD, loadD, storeD, lenD, asLit, asInt, asBool, getE_cons, putE, updH, getH_cons, iadrD, rowsOf, appR, appD, srcOf, cpyD, frzV, frz, frz1, V.cells, cellsD, isCell, fillP, rowsy, zeros, litC, litD, splice, scalar, Option.bind_eq_bind, Option.bind_some, if_true, if_false, Option.map_some, Option.map_none, dInt, binV, isShift, intBin, Nat.reduceEqDiff, Bool.false_eq_true, List.getElem?_cons_zero, List.getElem?_cons_succ, reduceIte, Nat.add_zero, Nat.zero_add, Nat.add_assoc, Nat.reduceAdd, Nat.reduceMul, Nat.reduceLeDiff, Option.some.injEq, reduceCtorEq, Nat.add_left_cancel_iff, List.map_cons, List.map_nil, List.length_cons, List.length_nil, List.take_succ_cons, List.drop_succ_cons, List.take_zero, List.drop_zero, List.take_nil, List.drop_nil, List.all_cons, List.all_nil, Bool.and_self, Bool.and_true, List.cons_append, List.nil_append, List.append_nil, Int.toNat_natCast, Nat.mul_one, Int.natCast_nonneg, and_self, and_true, true_and, Nat.le_refl, Nat.zero_le, e3, h3, q1, q3, room2, room3, hr, hx, qr, n3r', nr3', htk])
  refine seqW_nil (wp_reg ?_)
  iterate 3 (refine seqW_cons rfl ?_; simp only [oneW_some, stepC, step, evX, pureD, loadD, storeD, lenD, asLit, asInt, asBool, getE_cons, putE, updH, getH_cons, iadrD, rowsOf, appR, appD, srcOf, cpyD, frzV, frz, frz1, V.cells, cellsD, isCell, fillP, rowsy, zeros, litC, litD, splice, scalar, Option.bind_eq_bind, Option.bind_some, if_true, if_false, Option.map_some, Option.map_none, dInt, binV, isShift, intBin, Nat.reduceEqDiff, Bool.false_eq_true, List.getElem?_cons_zero, List.getElem?_cons_succ, reduceIte, Nat.add_zero, Nat.zero_add, Nat.add_assoc, Nat.reduceAdd, Nat.reduceMul, Nat.reduceLeDiff, Option.some.injEq, reduceCtorEq, Nat.add_left_cancel_iff, List.map_cons, List.map_nil, List.length_cons, List.length_nil, List.take_succ_cons, List.drop_succ_cons, List.take_zero, List.drop_zero, List.take_nil, List.drop_nil, List.all_cons, List.all_nil, Bool.and_self, Bool.and_true, List.cons_append, List.nil_append, List.append_nil, Int.toNat_natCast, Nat.mul_one, Int.natCast_nonneg, and_self, and_true, true_and, Nat.le_refl, Nat.zero_le, e4, hw])
  refine seqW_nil ?_
  refine hQ _ rfl ?_ ?_ ?_ ?_ ?_ ?_ ?_ ?_ ?_
  · simp only [getE_cons, Nat.reduceEqDiff, if_false, e1]
  · simp only [getE_cons, Nat.reduceEqDiff, if_false, e2]
  · simp only [getE_cons, Nat.reduceEqDiff, if_false, e3]
  · simp only [getE_cons, Nat.reduceEqDiff, if_true]
  · simp only [getH_cons, if_true]
  · simp only [getH_cons, nrc, Nat.add_left_cancel_iff, Nat.reduceEqDiff, if_true, if_false, n3c 26]
  · simp only [getH_cons, nrc, Nat.add_left_cancel_iff, Nat.reduceEqDiff, if_true, if_false, n3c 14]
  · simp only [getH_cons, nrc, Nat.add_left_cancel_iff, Nat.reduceEqDiff, if_true, if_false, n3c 17]
  · intro x hx1 hx2 hx3
    have qx : ∀ c, (N + c = x) = False := fun c => by simp; omega
    simp only [getH_cons, qx, if_false, show (p3 = x) = False by simp; omega, show (rid = x) = False by simp; omega]

theorem cop_out (F : Tab) {Q : Ex → St → Prop} {e : Env} {h : Heap} {N p1 n : Nat} {cells : List C} {d1 d2 d3 : D} (e1 : getE e 1 = .loc p1 0) (e4 : getE e 4 = .c (.lit (.int .i64 (n : Int))))
    (h1 : getH h p1 = .box [.c (.slice cells n), d1, d2, d3]) (hQ : ∀ s : St, s.nx = N + 5 → s.heap = h → getE s.env 2 = getE e 2 → getE s.env 3 = getE e 3 → Q (.exit 0) s) : WP F B38_0 ⟨e, h, N⟩ Q := by
  have hlt : decide ((n : Int) < (n : Int)) = false := by simp
  unfold B38_0
  refine wp_seq (wp_seq (wp_reg ?_))
  iterate 5 (refine seqW_cons rfl ?_; simp only [oneW_some, stepC, step, evX, pureD, loadD, storeD, lenD, asLit, asInt, asBool, getE_cons, putE, updH, getH_cons, iadrD, rowsOf, appR, appD, srcOf, cpyD, frzV, frz, frz1, V.cells, cellsD, isCell, fillP, rowsy, zeros, litC, litD, splice, scalar, Option.bind_eq_bind, Option.bind_some, if_true, if_false, Option.map_some, Option.map_none, dInt, binV, isShift, intBin, Nat.reduceEqDiff, Bool.false_eq_true, List.getElem?_cons_zero, List.getElem?_cons_succ, reduceIte, Nat.add_zero, Nat.zero_add, Nat.add_assoc, Nat.reduceAdd, Nat.reduceMul, Nat.reduceLeDiff, Option.some.injEq, reduceCtorEq, Nat.add_left_cancel_iff, List.map_cons, List.map_nil, List.length_cons, List.length_nil, List.take_succ_cons, List.drop_succ_cons, List.take_zero, List.drop_zero, List.take_nil, List.drop_nil, List.all_cons, List.all_nil, Bool.and_self, Bool.and_true, List.cons_append, List.nil_append, List.append_nil, Int.toNat_natCast, Nat.mul_one, Int.natCast_nonneg, and_self, and_true, true_and, Nat.le_refl, Nat.zero_le, e1, e4, h1, hlt])
  refine seqW_nil (wp_condF rfl (wp_exit ?_))
  refine hQ _ rfl rfl ?_ ?_
  · simp only [getE_cons, Nat.reduceEqDiff, if_false]
  · simp only [getE_cons, Nat.reduceEqDiff, if_false]

end Go.Proofs.Ytfphnpelampoeaa.Rw

