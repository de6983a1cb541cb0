/-
  StoreValid: the whole law, as the evaluator runs it.
-/
import Derived.Test.YtfphnpelampoeaaRw9M
set_option linter.unusedVariables false
set_option linter.unusedSimpArgs false
namespace Go.Proofs.Ytfphnpelampoeaa.Rw
open Go Go.Ez

theorem list_split (l : List Sec) (k : Nat) (h : k < l.length) : l = l.take k ++ secAt l k :: l.drop (k + 1) := by
  have := drop_getD noSec k l h
  rw [show secAt l k = l.getD k noSec from rfl, ← this, List.take_append_drop]

theorem Owned.split {l : List Sec} {B rid N k : Nat} {ids : List (Nat × Nat)} {h : Heap} (ho : Owned l B rid ids h N) (hk : k < l.length) :
    ∃ i1 a b i2, ids = i1 ++ (a, b) :: i2 ∧ i1.length = k ∧ Held h i1 (l.take k) ∧ getH h a = .arr (bytesC (secAt l k).sure) 1 0 5 ∧ getH h b = .arr (bytesC (secAt l k).data) 1 0 5 ∧ Held h i2 (l.drop (k + 1)) ∧
      rowD ids l = rowD i1 (l.take k) ++ .arr a 0 128 :: .arr b 0 128 :: .c (boolC (secAt l k).fresh) :: rowD i2 (l.drop (k + 1)) := by
  have hl := ho.held.len
  have hki : k < ids.length := by omega
  have e1 : ids = ids.take k ++ ids.getD k (0, 0) :: ids.drop (k + 1) := by
    have := drop_getD ((0, 0) : Nat × Nat) k ids hki
    rw [← this, List.take_append_drop]
  have e2 := list_split l k hk
  have hlen : (ids.take k).length = (l.take k).length := by simp [List.length_take]; omega
  have hh := ho.held
  rw [e1] at hh
  have hh2 : Held h (ids.take k ++ ids.getD k (0, 0) :: ids.drop (k + 1)) (l.take k ++ secAt l k :: l.drop (k + 1)) := by rw [← e2]; exact hh
  obtain ⟨k1, k2⟩ := Held.split hlen hh2
  refine ⟨ids.take k, (ids.getD k (0, 0)).1, (ids.getD k (0, 0)).2, ids.drop (k + 1), e1, by rw [List.length_take]; omega, k1, k2.1, k2.2.1, k2.2.2, ?_⟩
  have e3 : rowD ids l = rowD (ids.take k ++ ids.getD k (0, 0) :: ids.drop (k + 1)) (l.take k ++ secAt l k :: l.drop (k + 1)) := by rw [← e1, ← e2]
  rw [e3, rowD_app hlen]
  rfl

theorem Okay.new (n : Nat) : Okay (newSecs n) := by
  intro s hs
  obtain ⟨_, rfl⟩ := List.mem_replicate.1 hs
  exact ⟨by simp [zeroSec, zeroB], by simp [zeroSec, zeroB]⟩

theorem storeValid_run {F : Tab} (hF : F.code = code) (hN : ∀ f vs, f ≠ 10 → F.nat f vs = none) (h10 : F.nat 10 [] = some [.one (.lit (.bool true))]) (l : List Sec) (de ar : Bool) (le : Int) (n sp at_ : Nat) (hn : n < 256) (hsp : sp < 256) (hat : at_ < 256) :
    RunF F 4 [dskV l de ar le, .one (.lit (.int .u8 (n : Int))), .one (.lit (.int .u8 (sp : Int))), .one (.lit (.int .u8 (at_ : Int)))] [.one (.lit (.bool true))] := by
  have v12 := valid12 hF (fun vs => hN 31 vs (by omega)) (fun vs => hN 12 vs (by omega)) l de ar le
  have v13 := valid13 hF (fun vs => hN 32 vs (by omega)) (fun vs => hN 13 vs (by omega)) l de ar le
  have key : WP F I4.body ⟨bindArgs 0 [.agg [.c (secsS l), .c (boolC de), .c (boolC ar), .c (intC le)], .c (.lit (.int .u8 (n : Int))), .c (.lit (.int .u8 (sp : Int))), .c (.lit (.int .u8 (at_ : Int)))], [], 0⟩ (RetT 8 (.c (.lit (.bool true)))) := by
    have hT4 : T4 = (match I4.body with | .seq _ (.seq _ (.seq _ (.seq _ (.seq _ (.seq _ (.seq _ c)))))) => c | _ => .skip) := rfl
    have hW4 : W4 = (match I4.body with | .seq _ (.seq _ (.seq _ (.seq _ (.seq _ (.seq _ (.seq (.seq _ c) _)))))) => c | _ => .skip) := rfl
    unfold I4 at hT4 hW4 ⊢
    simp only at hT4 hW4
    simp only [← hT4, ← hW4]
    clear hT4 hW4
    simp only [bindArgs, boolC, intC, secsS]
    refine wp_seq (wp_sq ?_)
    iterate 2 (refine sq_cons rfl ?_; simp only [Nat.add_eq_left, Nat.left_eq_add, oneW_some, Ez.stepC, Ez.step, Ez.evX, Ez.pureD, Ez.loadD, Ez.storeD, Ez.lenD, Ez.asLit, Ez.asInt, Ez.asBool, getE_cons, Ez.putE, Ez.updH, getH_cons, Ez.iadrD, Ez.rowsOf, Ez.appR, Ez.appD, Ez.srcOf, Ez.cpyD, Ez.frzV, Ez.frz, Ez.frz1, Ez.V.cells, Ez.cellsD, Ez.isCell, Ez.fillP, Ez.rowsy, zeros_one, Ez.litC, Ez.litD, Ez.splice, Ez.scalar, Option.bind_eq_bind, Option.bind_some, if_true, if_false, Option.map_some, Option.map_none, Ez.dInt, Ez.binV, Ez.isShift, Ez.intBin, Nat.reduceEqDiff, Bool.false_eq_true, List.getElem?_cons_zero, List.getElem?_cons_succ, reduceIte, Nat.add_zero, Nat.zero_add, Nat.add_assoc, Nat.reduceAdd, Nat.reduceMul, Nat.reduceLeDiff, Option.some.injEq, reduceCtorEq, Nat.add_left_cancel_iff, List.map_cons, List.map_nil, List.length_cons, List.length_nil, List.take_succ_cons, List.drop_succ_cons, List.take_zero, List.drop_zero, List.take_nil, List.drop_nil, List.all_cons, List.all_nil, Bool.and_self, Bool.and_true, List.cons_append, List.nil_append, List.append_nil, Int.toNat_natCast, Nat.mul_one, Int.natCast_nonneg, and_self, and_true, true_and, Nat.le_refl, Nat.zero_le, Int.reduceLE, Int.reduceToNat, Ez.minmax, Ez.undefD, Ez.boolV, Ez.unV, Bool.not_true, Bool.not_false, Ez.slcD, Ez.loOf, Ez.hiOf])
    refine sq_nil (wp_seq (wp_seq (wp_sq ?_)))
    refine sq_call (vs := []) (us := []) rfl (RunF.nat h10) ?_
    simp only [retD, V.toD, putE, updH]
    iterate 1 (refine sq_cons rfl ?_; simp only [Nat.add_eq_left, Nat.left_eq_add, oneW_some, Ez.stepC, Ez.step, Ez.evX, Ez.pureD, Ez.loadD, Ez.storeD, Ez.lenD, Ez.asLit, Ez.asInt, Ez.asBool, getE_cons, Ez.putE, Ez.updH, getH_cons, Ez.iadrD, Ez.rowsOf, Ez.appR, Ez.appD, Ez.srcOf, Ez.cpyD, Ez.frzV, Ez.frz, Ez.frz1, Ez.V.cells, Ez.cellsD, Ez.isCell, Ez.fillP, Ez.rowsy, zeros_one, Ez.litC, Ez.litD, Ez.splice, Ez.scalar, Option.bind_eq_bind, Option.bind_some, if_true, if_false, Option.map_some, Option.map_none, Ez.dInt, Ez.binV, Ez.isShift, Ez.intBin, Nat.reduceEqDiff, Bool.false_eq_true, List.getElem?_cons_zero, List.getElem?_cons_succ, reduceIte, Nat.add_zero, Nat.zero_add, Nat.add_assoc, Nat.reduceAdd, Nat.reduceMul, Nat.reduceLeDiff, Option.some.injEq, reduceCtorEq, Nat.add_left_cancel_iff, List.map_cons, List.map_nil, List.length_cons, List.length_nil, List.take_succ_cons, List.drop_succ_cons, List.take_zero, List.drop_zero, List.take_nil, List.drop_nil, List.all_cons, List.all_nil, Bool.and_self, Bool.and_true, List.cons_append, List.nil_append, List.append_nil, Int.toNat_natCast, Nat.mul_one, Int.natCast_nonneg, and_self, and_true, true_and, Nat.le_refl, Nat.zero_le, Int.reduceLE, Int.reduceToNat, Ez.minmax, Ez.undefD, Ez.boolV, Ez.unV, Bool.not_true, Bool.not_false, Ez.slcD, Ez.loOf, Ez.hiOf])
    refine sq_nil (wp_condF rfl (wp_skip ?_))
    refine wp_seq (wp_seq (wp_sq ?_))
    by_cases h4 : l.length > 4
    · have h4' : decide ((l.length : Int) > 4) = true := by simp; omega
      iterate 4 (refine sq_cons rfl ?_; simp only [Nat.add_eq_left, Nat.left_eq_add, oneW_some, Ez.stepC, Ez.step, Ez.evX, Ez.pureD, Ez.loadD, Ez.storeD, Ez.lenD, Ez.asLit, Ez.asInt, Ez.asBool, getE_cons, Ez.putE, Ez.updH, getH_cons, Ez.iadrD, Ez.rowsOf, Ez.appR, Ez.appD, Ez.srcOf, Ez.cpyD, Ez.frzV, Ez.frz, Ez.frz1, Ez.V.cells, Ez.cellsD, Ez.isCell, Ez.fillP, Ez.rowsy, zeros_one, Ez.litC, Ez.litD, Ez.splice, Ez.scalar, Option.bind_eq_bind, Option.bind_some, if_true, if_false, Option.map_some, Option.map_none, Ez.dInt, Ez.binV, Ez.isShift, Ez.intBin, Nat.reduceEqDiff, Bool.false_eq_true, List.getElem?_cons_zero, List.getElem?_cons_succ, reduceIte, Nat.add_zero, Nat.zero_add, Nat.add_assoc, Nat.reduceAdd, Nat.reduceMul, Nat.reduceLeDiff, Option.some.injEq, reduceCtorEq, Nat.add_left_cancel_iff, List.map_cons, List.map_nil, List.length_cons, List.length_nil, List.take_succ_cons, List.drop_succ_cons, List.take_zero, List.drop_zero, List.take_nil, List.drop_nil, List.all_cons, List.all_nil, Bool.and_self, Bool.and_true, List.cons_append, List.nil_append, List.append_nil, Int.toNat_natCast, Nat.mul_one, Int.natCast_nonneg, and_self, and_true, true_and, Nat.le_refl, Nat.zero_le, Int.reduceLE, Int.reduceToNat, Ez.minmax, Ez.undefD, Ez.boolV, Ez.unV, Bool.not_true, Bool.not_false, Ez.slcD, Ez.loOf, Ez.hiOf, h4'])
      refine sq_nil (wp_condT rfl (wp_seq (wp_sq ?_)))
      iterate 1 (refine sq_cons rfl ?_; simp only [Nat.add_eq_left, Nat.left_eq_add, oneW_some, Ez.stepC, Ez.step, Ez.evX, Ez.pureD, Ez.loadD, Ez.storeD, Ez.lenD, Ez.asLit, Ez.asInt, Ez.asBool, getE_cons, Ez.putE, Ez.updH, getH_cons, Ez.iadrD, Ez.rowsOf, Ez.appR, Ez.appD, Ez.srcOf, Ez.cpyD, Ez.frzV, Ez.frz, Ez.frz1, Ez.V.cells, Ez.cellsD, Ez.isCell, Ez.fillP, Ez.rowsy, zeros_one, Ez.litC, Ez.litD, Ez.splice, Ez.scalar, Option.bind_eq_bind, Option.bind_some, if_true, if_false, Option.map_some, Option.map_none, Ez.dInt, Ez.binV, Ez.isShift, Ez.intBin, Nat.reduceEqDiff, Bool.false_eq_true, List.getElem?_cons_zero, List.getElem?_cons_succ, reduceIte, Nat.add_zero, Nat.zero_add, Nat.add_assoc, Nat.reduceAdd, Nat.reduceMul, Nat.reduceLeDiff, Option.some.injEq, reduceCtorEq, Nat.add_left_cancel_iff, List.map_cons, List.map_nil, List.length_cons, List.length_nil, List.take_succ_cons, List.drop_succ_cons, List.take_zero, List.drop_zero, List.take_nil, List.drop_nil, List.all_cons, List.all_nil, Bool.and_self, Bool.and_true, List.cons_append, List.nil_append, List.append_nil, Int.toNat_natCast, Nat.mul_one, Int.natCast_nonneg, and_self, and_true, true_and, Nat.le_refl, Nat.zero_le, Int.reduceLE, Int.reduceToNat, Ez.minmax, Ez.undefD, Ez.boolV, Ez.unV, Bool.not_true, Bool.not_false, Ez.slcD, Ez.loOf, Ez.hiOf])
      refine sq_nil (wp_ret ⟨rfl, ?_⟩)
      simp only [getE_cons, Nat.reduceEqDiff, if_false, if_true]
    have h4' : decide ((l.length : Int) > 4) = false := by simp; omega
    iterate 4 (refine sq_cons rfl ?_; simp only [Nat.add_eq_left, Nat.left_eq_add, oneW_some, Ez.stepC, Ez.step, Ez.evX, Ez.pureD, Ez.loadD, Ez.storeD, Ez.lenD, Ez.asLit, Ez.asInt, Ez.asBool, getE_cons, Ez.putE, Ez.updH, getH_cons, Ez.iadrD, Ez.rowsOf, Ez.appR, Ez.appD, Ez.srcOf, Ez.cpyD, Ez.frzV, Ez.frz, Ez.frz1, Ez.V.cells, Ez.cellsD, Ez.isCell, Ez.fillP, Ez.rowsy, zeros_one, Ez.litC, Ez.litD, Ez.splice, Ez.scalar, Option.bind_eq_bind, Option.bind_some, if_true, if_false, Option.map_some, Option.map_none, Ez.dInt, Ez.binV, Ez.isShift, Ez.intBin, Nat.reduceEqDiff, Bool.false_eq_true, List.getElem?_cons_zero, List.getElem?_cons_succ, reduceIte, Nat.add_zero, Nat.zero_add, Nat.add_assoc, Nat.reduceAdd, Nat.reduceMul, Nat.reduceLeDiff, Option.some.injEq, reduceCtorEq, Nat.add_left_cancel_iff, List.map_cons, List.map_nil, List.length_cons, List.length_nil, List.take_succ_cons, List.drop_succ_cons, List.take_zero, List.drop_zero, List.take_nil, List.drop_nil, List.all_cons, List.all_nil, Bool.and_self, Bool.and_true, List.cons_append, List.nil_append, List.append_nil, Int.toNat_natCast, Nat.mul_one, Int.natCast_nonneg, and_self, and_true, true_and, Nat.le_refl, Nat.zero_le, Int.reduceLE, Int.reduceToNat, Ez.minmax, Ez.undefD, Ez.boolV, Ez.unV, Bool.not_true, Bool.not_false, Ez.slcD, Ez.loOf, Ez.hiOf, h4'])
    refine sq_nil (wp_condF rfl (wp_skip ?_))
    refine wp_seq (wp_seq (wp_dr ?_))
    refine dr_cons rfl ?_
    simp only [Nat.add_eq_left, Nat.left_eq_add, oneW_some, Ez.stepC, Ez.step, Ez.evX, Ez.pureD, Ez.loadD, Ez.storeD, Ez.lenD, Ez.asLit, Ez.asInt, Ez.asBool, getE_cons, Ez.putE, Ez.updH, getH_cons, Ez.iadrD, Ez.rowsOf, Ez.appR, Ez.appD, Ez.srcOf, Ez.cpyD, Ez.frzV, Ez.frz, Ez.frz1, Ez.V.cells, Ez.cellsD, Ez.isCell, Ez.fillP, Ez.rowsy, zeros_one, Ez.litC, Ez.litD, Ez.splice, Ez.scalar, Option.bind_eq_bind, Option.bind_some, if_true, if_false, Option.map_some, Option.map_none, Ez.dInt, Ez.binV, Ez.isShift, Ez.intBin, Nat.reduceEqDiff, Bool.false_eq_true, List.getElem?_cons_zero, List.getElem?_cons_succ, reduceIte, Nat.add_zero, Nat.zero_add, Nat.add_assoc, Nat.reduceAdd, Nat.reduceMul, Nat.reduceLeDiff, Option.some.injEq, reduceCtorEq, Nat.add_left_cancel_iff, List.map_cons, List.map_nil, List.length_cons, List.length_nil, List.take_succ_cons, List.drop_succ_cons, List.take_zero, List.drop_zero, List.take_nil, List.drop_nil, List.all_cons, List.all_nil, Bool.and_self, Bool.and_true, List.cons_append, List.nil_append, List.append_nil, Int.toNat_natCast, Nat.mul_one, Int.natCast_nonneg, and_self, and_true, true_and, Nat.le_refl, Nat.zero_le, Int.reduceLE, Int.reduceToNat, Ez.minmax, Ez.undefD, Ez.boolV, Ez.unV, Bool.not_true, Bool.not_false, Ez.slcD, Ez.loOf, Ez.hiOf]
    refine dr_call (us := []) (vs := [dskV l de ar le]) (by rfl) v12 ?_
    simp only [retD, V.toD, putE, updH]
    refine dr_cons rfl ?_
    simp only [Nat.add_eq_left, Nat.left_eq_add, oneW_some, Ez.stepC, Ez.step, Ez.evX, Ez.pureD, Ez.loadD, Ez.storeD, Ez.lenD, Ez.asLit, Ez.asInt, Ez.asBool, getE_cons, Ez.putE, Ez.updH, getH_cons, Ez.iadrD, Ez.rowsOf, Ez.appR, Ez.appD, Ez.srcOf, Ez.cpyD, Ez.frzV, Ez.frz, Ez.frz1, Ez.V.cells, Ez.cellsD, Ez.isCell, Ez.fillP, Ez.rowsy, zeros_one, Ez.litC, Ez.litD, Ez.splice, Ez.scalar, Option.bind_eq_bind, Option.bind_some, if_true, if_false, Option.map_some, Option.map_none, Ez.dInt, Ez.binV, Ez.isShift, Ez.intBin, Nat.reduceEqDiff, Bool.false_eq_true, List.getElem?_cons_zero, List.getElem?_cons_succ, reduceIte, Nat.add_zero, Nat.zero_add, Nat.add_assoc, Nat.reduceAdd, Nat.reduceMul, Nat.reduceLeDiff, Option.some.injEq, reduceCtorEq, Nat.add_left_cancel_iff, List.map_cons, List.map_nil, List.length_cons, List.length_nil, List.take_succ_cons, List.drop_succ_cons, List.take_zero, List.drop_zero, List.take_nil, List.drop_nil, List.all_cons, List.all_nil, Bool.and_self, Bool.and_true, List.cons_append, List.nil_append, List.append_nil, Int.toNat_natCast, Nat.mul_one, Int.natCast_nonneg, and_self, and_true, true_and, Nat.le_refl, Nat.zero_le, Int.reduceLE, Int.reduceToNat, Ez.minmax, Ez.undefD, Ez.boolV, Ez.unV, Bool.not_true, Bool.not_false, Ez.slcD, Ez.loOf, Ez.hiOf]
    refine dr_call (us := []) (vs := [dskV l de ar le]) (by rfl) v13 ?_
    simp only [retD, V.toD, putE, updH]
    iterate 1 (refine dr_cons rfl ?_; simp only [Nat.add_eq_left, Nat.left_eq_add, oneW_some, Ez.stepC, Ez.step, Ez.evX, Ez.pureD, Ez.loadD, Ez.storeD, Ez.lenD, Ez.asLit, Ez.asInt, Ez.asBool, getE_cons, Ez.putE, Ez.updH, getH_cons, Ez.iadrD, Ez.rowsOf, Ez.appR, Ez.appD, Ez.srcOf, Ez.cpyD, Ez.frzV, Ez.frz, Ez.frz1, Ez.V.cells, Ez.cellsD, Ez.isCell, Ez.fillP, Ez.rowsy, zeros_one, Ez.litC, Ez.litD, Ez.splice, Ez.scalar, Option.bind_eq_bind, Option.bind_some, if_true, if_false, Option.map_some, Option.map_none, Ez.dInt, Ez.binV, Ez.isShift, Ez.intBin, Nat.reduceEqDiff, Bool.false_eq_true, List.getElem?_cons_zero, List.getElem?_cons_succ, reduceIte, Nat.add_zero, Nat.zero_add, Nat.add_assoc, Nat.reduceAdd, Nat.reduceMul, Nat.reduceLeDiff, Option.some.injEq, reduceCtorEq, Nat.add_left_cancel_iff, List.map_cons, List.map_nil, List.length_cons, List.length_nil, List.take_succ_cons, List.drop_succ_cons, List.take_zero, List.drop_zero, List.take_nil, List.drop_nil, List.all_cons, List.all_nil, Bool.and_self, Bool.and_true, List.cons_append, List.nil_append, List.append_nil, Int.toNat_natCast, Nat.mul_one, Int.natCast_nonneg, and_self, and_true, true_and, Nat.le_refl, Nat.zero_le, Int.reduceLE, Int.reduceToNat, Ez.minmax, Ez.undefD, Ez.boolV, Ez.unV, Bool.not_true, Bool.not_false, Ez.slcD, Ez.loOf, Ez.hiOf, beq_self_eq_true, Bool.not_true])
    refine dr_nil ⟨?_, wp_condF rfl (wp_skip ?_)⟩
    · simp [drawOk, drawFrom, okRow, clash, meets, touches, frzIds, ids1, opX, tmpsX, Nat.testBit, evX, getE_cons]
    have z6 : ((6 : Int) = 0) = False := by simp
    have z8 : ((8 : Int) = 0) = False := by simp
    have m6 : (n : Int).tmod 6 = ((n % 6 : Nat) : Int) := rfl
    have m8 : (sp : Int).tmod 8 = ((sp % 8 : Nat) : Int) := rfl
    have w6 : IntKind.wrap .i64 ((n % 6 : Nat) : Int) = ((n % 6 : Nat) : Int) := Go.Proofs.Ytfphnpelampoeaa.wrap_i64 _ (by omega)
    have w61 : IntKind.wrap .i64 ((1 : Int) + ((n % 6 : Nat) : Int)) = ((1 + n % 6 : Nat) : Int) := by rw [Go.Proofs.Ytfphnpelampoeaa.wrap_i64 _ (by omega)]; rfl
    have wat : IntKind.wrap .i64 (at_ : Int) = (at_ : Int) := Go.Proofs.Ytfphnpelampoeaa.wrap_i64 _ (by omega)
    generalize hm : 1 + n % 6 = m at w61
    refine wp_seq (wp_sq ?_)
    iterate 4 (refine sq_cons rfl ?_; simp only [Nat.add_eq_left, Nat.left_eq_add, oneW_some, Ez.stepC, Ez.step, Ez.evX, Ez.pureD, Ez.loadD, Ez.storeD, Ez.lenD, Ez.asLit, Ez.asInt, Ez.asBool, getE_cons, Ez.putE, Ez.updH, getH_cons, Ez.iadrD, Ez.rowsOf, Ez.appR, Ez.appD, Ez.srcOf, Ez.cpyD, Ez.frzV, Ez.frz, Ez.frz1, Ez.V.cells, Ez.cellsD, Ez.isCell, Ez.fillP, Ez.rowsy, zeros_one, Ez.litC, Ez.litD, Ez.splice, Ez.scalar, Option.bind_eq_bind, Option.bind_some, if_true, if_false, Option.map_some, Option.map_none, Ez.dInt, Ez.binV, Ez.isShift, Ez.intBin, Nat.reduceEqDiff, Bool.false_eq_true, List.getElem?_cons_zero, List.getElem?_cons_succ, reduceIte, Nat.add_zero, Nat.zero_add, Nat.add_assoc, Nat.reduceAdd, Nat.reduceMul, Nat.reduceLeDiff, Option.some.injEq, reduceCtorEq, Nat.add_left_cancel_iff, List.map_cons, List.map_nil, List.length_cons, List.length_nil, List.take_succ_cons, List.drop_succ_cons, List.take_zero, List.drop_zero, List.take_nil, List.drop_nil, List.all_cons, List.all_nil, Bool.and_self, Bool.and_true, List.cons_append, List.nil_append, List.append_nil, Int.toNat_natCast, Nat.mul_one, Int.natCast_nonneg, and_self, and_true, true_and, Nat.le_refl, Nat.zero_le, Int.reduceLE, Int.reduceToNat, Ez.minmax, Ez.undefD, Ez.boolV, Ez.unV, Bool.not_true, Bool.not_false, Ez.slcD, Ez.loOf, Ez.hiOf, z6, m6, w6, w61])
    obtain ⟨rid, ids, h', N', hrun, ho, hNN, hfr⟩ := new_run hF m (by omega) (by omega) [(0, .box [.c (.slice (secsC l) l.length), .c (.lit (.bool de)), .c (.lit (.bool ar)), .c (.lit (.int .i64 le))])] 17
    refine sq_lend (ds := [.c (intC m)]) (us := []) (by rfl) hrun ?_
    simp only [tupD, putE]
    iterate 2 (refine sq_cons rfl ?_; simp only [Nat.add_eq_left, Nat.left_eq_add, oneW_some, Ez.stepC, Ez.step, Ez.evX, Ez.pureD, Ez.loadD, Ez.storeD, Ez.lenD, Ez.asLit, Ez.asInt, Ez.asBool, getE_cons, Ez.putE, Ez.updH, getH_cons, Ez.iadrD, Ez.rowsOf, Ez.appR, Ez.appD, Ez.srcOf, Ez.cpyD, Ez.frzV, Ez.frz, Ez.frz1, Ez.V.cells, Ez.cellsD, Ez.isCell, Ez.fillP, Ez.rowsy, zeros_one, Ez.litC, Ez.litD, Ez.splice, Ez.scalar, Option.bind_eq_bind, Option.bind_some, if_true, if_false, Option.map_some, Option.map_none, Ez.dInt, Ez.binV, Ez.isShift, Ez.intBin, Nat.reduceEqDiff, Bool.false_eq_true, List.getElem?_cons_zero, List.getElem?_cons_succ, reduceIte, Nat.add_zero, Nat.zero_add, Nat.add_assoc, Nat.reduceAdd, Nat.reduceMul, Nat.reduceLeDiff, Option.some.injEq, reduceCtorEq, Nat.add_left_cancel_iff, List.map_cons, List.map_nil, List.length_cons, List.length_nil, List.take_succ_cons, List.drop_succ_cons, List.take_zero, List.drop_zero, List.take_nil, List.drop_nil, List.all_cons, List.all_nil, Bool.and_self, Bool.and_true, List.cons_append, List.nil_append, List.append_nil, Int.toNat_natCast, Nat.mul_one, Int.natCast_nonneg, and_self, and_true, true_and, Nat.le_refl, Nat.zero_le, Int.reduceLE, Int.reduceToNat, Ez.minmax, Ez.undefD, Ez.boolV, Ez.unV, Bool.not_true, Bool.not_false, Ez.slcD, Ez.loOf, Ez.hiOf, boolC, intC])
    refine sq_nil (wp_seq (wp_sq ?_))
    have zm : ((m : Int) = 0) = False := by simp; omega
    have mk : (at_ : Int).tmod (m : Int) = ((at_ % m : Nat) : Int) := rfl
    iterate 7 (refine sq_cons rfl ?_; simp only [Nat.add_eq_left, Nat.left_eq_add, oneW_some, Ez.stepC, Ez.step, Ez.evX, Ez.pureD, Ez.loadD, Ez.storeD, Ez.lenD, Ez.asLit, Ez.asInt, Ez.asBool, getE_cons, Ez.putE, Ez.updH, getH_cons, Ez.iadrD, Ez.rowsOf, Ez.appR, Ez.appD, Ez.srcOf, Ez.cpyD, Ez.frzV, Ez.frz, Ez.frz1, Ez.V.cells, Ez.cellsD, Ez.isCell, Ez.fillP, Ez.rowsy, zeros_one, Ez.litC, Ez.litD, Ez.splice, Ez.scalar, Option.bind_eq_bind, Option.bind_some, if_true, if_false, Option.map_some, Option.map_none, Ez.dInt, Ez.binV, Ez.isShift, Ez.intBin, Nat.reduceEqDiff, Bool.false_eq_true, List.getElem?_cons_zero, List.getElem?_cons_succ, reduceIte, Nat.add_zero, Nat.zero_add, Nat.add_assoc, Nat.reduceAdd, Nat.reduceMul, Nat.reduceLeDiff, Option.some.injEq, reduceCtorEq, Nat.add_left_cancel_iff, List.map_cons, List.map_nil, List.length_cons, List.length_nil, List.take_succ_cons, List.drop_succ_cons, List.take_zero, List.drop_zero, List.take_nil, List.drop_nil, List.all_cons, List.all_nil, Bool.and_self, Bool.and_true, List.cons_append, List.nil_append, List.append_nil, Int.toNat_natCast, Nat.mul_one, Int.natCast_nonneg, and_self, and_true, true_and, Nat.le_refl, Nat.zero_le, Int.reduceLE, Int.reduceToNat, Ez.minmax, Ez.undefD, Ez.boolV, Ez.unV, Bool.not_true, Bool.not_false, Ez.slcD, Ez.loOf, Ez.hiOf, wat, zm, mk])
    refine sq_nil (wp_seq (wp_seq (wp_sq ?_)))
    iterate 2 (refine sq_cons rfl ?_; simp only [Nat.add_eq_left, Nat.left_eq_add, oneW_some, Ez.stepC, Ez.step, Ez.evX, Ez.pureD, Ez.loadD, Ez.storeD, Ez.lenD, Ez.asLit, Ez.asInt, Ez.asBool, getE_cons, Ez.putE, Ez.updH, getH_cons, Ez.iadrD, Ez.rowsOf, Ez.appR, Ez.appD, Ez.srcOf, Ez.cpyD, Ez.frzV, Ez.frz, Ez.frz1, Ez.V.cells, Ez.cellsD, Ez.isCell, Ez.fillP, Ez.rowsy, zeros_one, Ez.litC, Ez.litD, Ez.splice, Ez.scalar, Option.bind_eq_bind, Option.bind_some, if_true, if_false, Option.map_some, Option.map_none, Ez.dInt, Ez.binV, Ez.isShift, Ez.intBin, Nat.reduceEqDiff, Bool.false_eq_true, List.getElem?_cons_zero, List.getElem?_cons_succ, reduceIte, Nat.add_zero, Nat.zero_add, Nat.add_assoc, Nat.reduceAdd, Nat.reduceMul, Nat.reduceLeDiff, Option.some.injEq, reduceCtorEq, Nat.add_left_cancel_iff, List.map_cons, List.map_nil, List.length_cons, List.length_nil, List.take_succ_cons, List.drop_succ_cons, List.take_zero, List.drop_zero, List.take_nil, List.drop_nil, List.all_cons, List.all_nil, Bool.and_self, Bool.and_true, List.cons_append, List.nil_append, List.append_nil, Int.toNat_natCast, Nat.mul_one, Int.natCast_nonneg, and_self, and_true, true_and, Nat.le_refl, Nat.zero_le, Int.reduceLE, Int.reduceToNat, Ez.minmax, Ez.undefD, Ez.boolV, Ez.unV, Bool.not_true, Bool.not_false, Ez.slcD, Ez.loOf, Ez.hiOf, z8, m8])
    have hkm : at_ % m < m := Nat.mod_lt _ (by omega)
    have hk : at_ % m < (newSecs m).length := by rw [newSecs_len]; exact hkm
    obtain ⟨i1, a, b, i2, s1, s2, s3, s4, s5, s6, s7⟩ := ho.split hk
    have hnd := ho.nd
    have hlo := ho.lo
    rw [s1, flat_app] at hnd hlo
    have hz := Okay.new m _ (secAt_mem (newSecs m) (at_ % m) hk)
    have hq : ∀ x, x < N' → (N' = x) = False := fun x hx => by simp; omega
    have lt1 : ∀ x, x ∈ rid :: (flat i1 ++ flat ((a, b) :: i2)) → x < N' := fun x hx => (hlo x hx).2
    have hfl : flat ((a, b) :: i2) = a :: b :: flat i2 := rfl
    rw [hfl] at hnd lt1
    have la : a < N' := lt1 a (by simp)
    have lb : b < N' := lt1 b (by simp)
    have lr : rid < N' := lt1 rid (by simp)
    have l1 : ∀ x ∈ flat i1, x < N' := fun x hx => lt1 x (by simp [hx])
    have l2 : ∀ x ∈ flat i2, x < N' := fun x hx => lt1 x (by simp [hx])
    have hnd' : (N' :: rid :: a :: b :: (flat i1 ++ flat i2)).Nodup := by
      refine List.nodup_cons.2 ⟨fun hx => ?_, ?_⟩
      · simp only [List.mem_cons, List.mem_append] at hx
        rcases hx with hx | hx | hx | hx | hx
        · omega
        · omega
        · omega
        · have := l1 _ hx; omega
        · have := l2 _ hx; omega
      · refine List.Perm.nodup ?_ hnd
        refine List.Perm.cons rid ?_
        have p1 : (flat i1 ++ a :: b :: flat i2).Perm (a :: (flat i1 ++ b :: flat i2)) := List.perm_middle
        have p2 : (flat i1 ++ b :: flat i2).Perm (b :: (flat i1 ++ flat i2)) := List.perm_middle
        exact p1.trans (List.Perm.cons a p2)
    have o1 : Okay ((newSecs m).take (at_ % m)) := fun s hs => Okay.new m s (List.mem_of_mem_take hs)
    have o2 : Okay ((newSecs m).drop (at_ % m + 1)) := fun s hs => Okay.new m s (List.mem_of_mem_drop hs)
    have n2 : ((newSecs m).take (at_ % m)).length = at_ % m := by rw [List.length_take, newSecs_len]; omega
    have n3 : ((newSecs m).take (at_ % m) ++ secAt (newSecs m) (at_ % m) :: (newSecs m).drop (at_ % m + 1)).length = m := by rw [← list_split _ _ hk, newSecs_len]
    have hsp8 : sp % 8 < 8 := Nat.mod_lt _ (by omega)
    refine sq_nil ?_
    have fin : ∀ (t : St) (X : D) (l : List Sec) (d ar : Bool) (le : Int) (us us2 : List (Nat × Ez.Obj)), getE t.env 9 = .loc N' 0 → getH t.heap N' = .box [X, .c (boolC d), .c (boolC ar), .c (intC le)] → frz t.heap X = some (secsS l, us) → (∀ p ∈ us, p.1 ≠ N') → frz (updH t.heap us) X = some (secsS l, us2) → WP F T4 t (RetT 8 (.c (.lit (.bool true)))) := by
      intro t X l d ar le us us2 y1 y2 y3 y4 y5
      obtain ⟨te, th, tn⟩ := t
      exact fin4 hF hN y1 y2 y3 y4 y5
    have cases8 : sp % 8 = 0 ∨ sp % 8 = 1 ∨ sp % 8 = 2 ∨ sp % 8 = 3 ∨ sp % 8 = 4 ∨ sp % 8 = 5 ∨ sp % 8 = 6 ∨ sp % 8 = 7 := by omega
    rcases cases8 with hc | hc | hc | hc | hc | hc | hc | hc
    · refine w4_0 (q := N') (rid := rid) (a := a) (b := b) (k := at_ % m) (m := m) (at_ := at_) (j := at_ % 128) (i1 := i1) (i2 := i2) (l1 := (newSecs m).take (at_ % m)) (l2 := (newSecs m).drop (at_ % m + 1)) (s := secAt (newSecs m) (at_ % m)) (ds := rowD ids (newSecs m)) (by simp only [getE_cons, Nat.reduceEqDiff, if_false, if_true]) (by simp only [getE_cons, Nat.reduceEqDiff, if_false, if_true]) (by simp only [getE_cons, Nat.reduceEqDiff, if_false, if_true]) (by simp only [getE_cons, Nat.reduceEqDiff, if_false, if_true, hc]; rfl) (by simp only [getH_cons, if_true]) (by simp only [getH_cons, hq rid lr, if_false]; exact ho.hr) s7 (by rw [s2, n2]) n2 n3 (s3.frame fun x hx => by simp only [getH_cons, hq x (l1 x hx), if_false]) (s6.frame fun x hx => by simp only [getH_cons, hq x (l2 x hx), if_false]) o1 o2 hz.2 hz.1 (by simp only [getH_cons, hq a la, if_false]; exact s4) (by simp only [getH_cons, hq b lb, if_false]; exact s5) hnd' hat rfl ?_
      exact fin
    · refine w4_1 (q := N') (rid := rid) (a := a) (b := b) (k := at_ % m) (m := m) (at_ := at_) (j := at_ % 128) (i1 := i1) (i2 := i2) (l1 := (newSecs m).take (at_ % m)) (l2 := (newSecs m).drop (at_ % m + 1)) (s := secAt (newSecs m) (at_ % m)) (ds := rowD ids (newSecs m)) (by simp only [getE_cons, Nat.reduceEqDiff, if_false, if_true]) (by simp only [getE_cons, Nat.reduceEqDiff, if_false, if_true]) (by simp only [getE_cons, Nat.reduceEqDiff, if_false, if_true]) (by simp only [getE_cons, Nat.reduceEqDiff, if_false, if_true, hc]; rfl) (by simp only [getH_cons, if_true]) (by simp only [getH_cons, hq rid lr, if_false]; exact ho.hr) s7 (by rw [s2, n2]) n2 n3 (s3.frame fun x hx => by simp only [getH_cons, hq x (l1 x hx), if_false]) (s6.frame fun x hx => by simp only [getH_cons, hq x (l2 x hx), if_false]) o1 o2 hz.2 hz.1 (by simp only [getH_cons, hq a la, if_false]; exact s4) (by simp only [getH_cons, hq b lb, if_false]; exact s5) hnd' hat rfl ?_
      exact fin
    · refine w4_2 (q := N') (rid := rid) (a := a) (b := b) (k := at_ % m) (m := m) (at_ := at_) (j := at_ % 128) (i1 := i1) (i2 := i2) (l1 := (newSecs m).take (at_ % m)) (l2 := (newSecs m).drop (at_ % m + 1)) (s := secAt (newSecs m) (at_ % m)) (ds := rowD ids (newSecs m)) (by simp only [getE_cons, Nat.reduceEqDiff, if_false, if_true]) (by simp only [getE_cons, Nat.reduceEqDiff, if_false, if_true]) (by simp only [getE_cons, Nat.reduceEqDiff, if_false, if_true]) (by simp only [getE_cons, Nat.reduceEqDiff, if_false, if_true, hc]; rfl) (by simp only [getH_cons, if_true]) (by simp only [getH_cons, hq rid lr, if_false]; exact ho.hr) s7 (by rw [s2, n2]) n2 n3 (s3.frame fun x hx => by simp only [getH_cons, hq x (l1 x hx), if_false]) (s6.frame fun x hx => by simp only [getH_cons, hq x (l2 x hx), if_false]) o1 o2 hz.2 hz.1 (by simp only [getH_cons, hq a la, if_false]; exact s4) (by simp only [getH_cons, hq b lb, if_false]; exact s5) hnd' hat rfl ?_
      exact fin
    · refine w4_3 (q := N') (rid := rid) (a := a) (b := b) (k := at_ % m) (m := m) (at_ := at_) (j := at_ % 128) (i1 := i1) (i2 := i2) (l1 := (newSecs m).take (at_ % m)) (l2 := (newSecs m).drop (at_ % m + 1)) (s := secAt (newSecs m) (at_ % m)) (ds := rowD ids (newSecs m)) (by simp only [getE_cons, Nat.reduceEqDiff, if_false, if_true]) (by simp only [getE_cons, Nat.reduceEqDiff, if_false, if_true]) (by simp only [getE_cons, Nat.reduceEqDiff, if_false, if_true]) (by simp only [getE_cons, Nat.reduceEqDiff, if_false, if_true, hc]; rfl) (by simp only [getH_cons, if_true]) (by simp only [getH_cons, hq rid lr, if_false]; exact ho.hr) s7 (by rw [s2, n2]) n2 n3 (s3.frame fun x hx => by simp only [getH_cons, hq x (l1 x hx), if_false]) (s6.frame fun x hx => by simp only [getH_cons, hq x (l2 x hx), if_false]) o1 o2 hz.2 hz.1 (by simp only [getH_cons, hq a la, if_false]; exact s4) (by simp only [getH_cons, hq b lb, if_false]; exact s5) hnd' hat rfl ?_
      exact fin
    · refine w4_4 (q := N') (rid := rid) (a := a) (b := b) (k := at_ % m) (m := m) (at_ := at_) (j := at_ % 128) (i1 := i1) (i2 := i2) (l1 := (newSecs m).take (at_ % m)) (l2 := (newSecs m).drop (at_ % m + 1)) (s := secAt (newSecs m) (at_ % m)) (ds := rowD ids (newSecs m)) (by simp only [getE_cons, Nat.reduceEqDiff, if_false, if_true]) (by simp only [getE_cons, Nat.reduceEqDiff, if_false, if_true]) (by simp only [getE_cons, Nat.reduceEqDiff, if_false, if_true]) (by simp only [getE_cons, Nat.reduceEqDiff, if_false, if_true, hc]; rfl) (by simp only [getH_cons, if_true]) (by simp only [getH_cons, hq rid lr, if_false]; exact ho.hr) s7 (by rw [s2, n2]) n2 n3 (s3.frame fun x hx => by simp only [getH_cons, hq x (l1 x hx), if_false]) (s6.frame fun x hx => by simp only [getH_cons, hq x (l2 x hx), if_false]) o1 o2 hz.2 hz.1 (by simp only [getH_cons, hq a la, if_false]; exact s4) (by simp only [getH_cons, hq b lb, if_false]; exact s5) hnd' hat rfl ?_
      exact fin
    · refine w4_5 (q := N') (rid := rid) (a := a) (b := b) (k := at_ % m) (m := m) (at_ := at_) (j := at_ % 128) (i1 := i1) (i2 := i2) (l1 := (newSecs m).take (at_ % m)) (l2 := (newSecs m).drop (at_ % m + 1)) (s := secAt (newSecs m) (at_ % m)) (ds := rowD ids (newSecs m)) (by simp only [getE_cons, Nat.reduceEqDiff, if_false, if_true]) (by simp only [getE_cons, Nat.reduceEqDiff, if_false, if_true]) (by simp only [getE_cons, Nat.reduceEqDiff, if_false, if_true]) (by simp only [getE_cons, Nat.reduceEqDiff, if_false, if_true, hc]; rfl) (by simp only [getH_cons, if_true]) (by simp only [getH_cons, hq rid lr, if_false]; exact ho.hr) s7 (by rw [s2, n2]) n2 n3 (s3.frame fun x hx => by simp only [getH_cons, hq x (l1 x hx), if_false]) (s6.frame fun x hx => by simp only [getH_cons, hq x (l2 x hx), if_false]) o1 o2 hz.2 hz.1 (by simp only [getH_cons, hq a la, if_false]; exact s4) (by simp only [getH_cons, hq b lb, if_false]; exact s5) hnd' hat rfl ?_
      exact fin
    · refine w4_6 (q := N') (rid := rid) (a := a) (b := b) (k := at_ % m) (m := m) (at_ := at_) (j := at_ % 128) (i1 := i1) (i2 := i2) (l1 := (newSecs m).take (at_ % m)) (l2 := (newSecs m).drop (at_ % m + 1)) (s := secAt (newSecs m) (at_ % m)) (ds := rowD ids (newSecs m)) (by simp only [getE_cons, Nat.reduceEqDiff, if_false, if_true]) (by simp only [getE_cons, Nat.reduceEqDiff, if_false, if_true]) (by simp only [getE_cons, Nat.reduceEqDiff, if_false, if_true]) (by simp only [getE_cons, Nat.reduceEqDiff, if_false, if_true, hc]; rfl) (by simp only [getH_cons, if_true]) (by simp only [getH_cons, hq rid lr, if_false]; exact ho.hr) s7 (by rw [s2, n2]) n2 n3 (s3.frame fun x hx => by simp only [getH_cons, hq x (l1 x hx), if_false]) (s6.frame fun x hx => by simp only [getH_cons, hq x (l2 x hx), if_false]) o1 o2 hz.2 hz.1 (by simp only [getH_cons, hq a la, if_false]; exact s4) (by simp only [getH_cons, hq b lb, if_false]; exact s5) hnd' hat rfl ?_
      exact fin
    · refine w4_7 (q := N') (rid := rid) (a := a) (b := b) (k := at_ % m) (m := m) (at_ := at_) (j := at_ % 128) (i1 := i1) (i2 := i2) (l1 := (newSecs m).take (at_ % m)) (l2 := (newSecs m).drop (at_ % m + 1)) (s := secAt (newSecs m) (at_ % m)) (ds := rowD ids (newSecs m)) (by simp only [getE_cons, Nat.reduceEqDiff, if_false, if_true]) (by simp only [getE_cons, Nat.reduceEqDiff, if_false, if_true]) (by simp only [getE_cons, Nat.reduceEqDiff, if_false, if_true]) (by simp only [getE_cons, Nat.reduceEqDiff, if_false, if_true, hc]; rfl) (by simp only [getH_cons, if_true]) (by simp only [getH_cons, hq rid lr, if_false]; exact ho.hr) s7 (by rw [s2, n2]) n2 n3 (s3.frame fun x hx => by simp only [getH_cons, hq x (l1 x hx), if_false]) (s6.frame fun x hx => by simp only [getH_cons, hq x (l2 x hx), if_false]) o1 o2 hz.2 hz.1 (by simp only [getH_cons, hq a la, if_false]; exact s4) (by simp only [getH_cons, hq b lb, if_false]; exact s5) hnd' hat rfl ?_
      exact fin
  obtain ⟨x, s, hrun, rfl, g1⟩ := key
  refine RunF.body (us := []) (hN 4 _ (by omega)) (RunB.fn (I := I4) (rs := [.c (.lit (.bool true))]) (by rw [hF]; rfl) rfl hrun (by simp) (by simp [I4, resD, g1])) ?_
  rfl

end Go.Proofs.Ytfphnpelampoeaa.Rw

