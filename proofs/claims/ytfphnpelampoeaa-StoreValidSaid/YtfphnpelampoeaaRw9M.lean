/-
  StoreValid: the part behind the new disk.
-/
import Derived.Test.YtfphnpelampoeaaRw8M
set_option linter.unusedVariables false
set_option linter.unusedSimpArgs false
namespace Go.Proofs.Ytfphnpelampoeaa.Rw
open Go Go.Ez

/-- the last statement -/
def T4 : ICode := match I4.body with | .seq _ (.seq _ (.seq _ (.seq _ (.seq _ (.seq _ (.seq _ c)))))) => c | _ => .skip
/-- the switch -/
def W4 : ICode := match I4.body with | .seq _ (.seq _ (.seq _ (.seq _ (.seq _ (.seq _ (.seq (.seq _ c) _)))))) => c | _ => .skip

theorem fin4 {F : Tab} (hF : F.code = code) (hN : ∀ f vs, f ≠ 10 → F.nat f vs = none) {e : Env} {h : Heap} {N q : Nat} {X : D} {l : List Sec} {d a : Bool} {le : Int} {us us2 : List (Nat × Ez.Obj)} (e9 : getE e 9 = .loc q 0) (hq : getH h q = .box [X, .c (boolC d), .c (boolC a), .c (intC le)])
    (hf : frz h X = some (secsS l, us)) (hu : ∀ p ∈ us, p.1 ≠ q) (hf2 : frz (updH h us) X = some (secsS l, us2)) : WP F T4 ⟨e, h, N⟩ (RetT 8 (.c (.lit (.bool true)))) := by
  have hcell : isCell X = true := by
    cases X <;> first | rfl | (simp [frz, frz1] at hf)
  have v12 := valid12 hF (fun vs => hN 31 vs (by omega)) (fun vs => hN 12 vs (by omega)) l d a le
  have v13 := valid13 hF (fun vs => hN 32 vs (by omega)) (fun vs => hN 13 vs (by omega)) l d a le
  have hq2 : getH (updH h us) q = .box [X, .c (boolC d), .c (boolC a), .c (intC le)] := by rw [updH_out hu]; exact hq
  have fz : ∀ (h : Heap) (us : List (Nat × Ez.Obj)), frz h X = some (secsS l, us) → frzVs h [.agg [X, .c (boolC d), .c (boolC a), .c (intC le)]] = some ([dskV l d a le], us) := by
    intro h us hf
    have f0 : ∀ (h : Heap) (c : C), frz h (.c c) = some (c, []) := fun _ _ => rfl
    simp only [frzVs, frzV, frzL, hf, f0, Option.bind_eq_bind, Option.bind_some, List.append_nil, updH]
    rfl
  have hm : (us.map (·.1)).any (fun x => [q].contains x) = false := by
    rw [List.any_eq_false]
    intro x hx
    rw [List.mem_map] at hx
    obtain ⟨p, h1, rfl⟩ := hx
    simpa using hu p h1
  simp only [T4, I4]
  refine wp_seq (wp_dr ?_)
  refine dr_cons rfl ?_
  simp only [Nat.add_eq_left, Nat.left_eq_add, oneW_some, Ez.stepC, Ez.step, Ez.evX, Ez.pureD, Ez.loadD, Ez.storeD, Ez.lenD, Ez.asLit, Ez.asInt, Ez.asBool, getE_cons, Ez.putE, Ez.updH, getH_cons, Ez.iadrD, Ez.rowsOf, Ez.appR, Ez.appD, Ez.srcOf, Ez.cpyD, Ez.frzV, Ez.frz, Ez.frz1, Ez.V.cells, Ez.cellsD, Ez.isCell, Ez.fillP, Ez.rowsy, zeros_one, Ez.litC, Ez.litD, Ez.splice, Ez.scalar, Option.bind_eq_bind, Option.bind_some, if_true, if_false, Option.map_some, Option.map_none, Ez.dInt, Ez.binV, Ez.isShift, Ez.intBin, Nat.reduceEqDiff, Bool.false_eq_true, List.getElem?_cons_zero, List.getElem?_cons_succ, reduceIte, Nat.add_zero, Nat.zero_add, Nat.add_assoc, Nat.reduceAdd, Nat.reduceMul, Nat.reduceLeDiff, Option.some.injEq, reduceCtorEq, Nat.add_left_cancel_iff, List.map_cons, List.map_nil, List.length_cons, List.length_nil, List.take_succ_cons, List.drop_succ_cons, List.take_zero, List.drop_zero, List.take_nil, List.drop_nil, List.all_cons, List.all_nil, Bool.and_self, Bool.and_true, List.cons_append, List.nil_append, List.append_nil, Int.toNat_natCast, Nat.mul_one, Int.natCast_nonneg, and_self, and_true, true_and, Nat.le_refl, Nat.zero_le, Int.reduceLE, Int.reduceToNat, Ez.minmax, Ez.undefD, Ez.boolV, Ez.unV, Bool.not_true, Bool.not_false, Ez.slcD, Ez.loOf, Ez.hiOf, e9, hq]
  refine dr_call (us := us) (by exact fz h us hf) v12 ?_
  simp only [retD, V.toD, putE]
  refine dr_cons rfl ?_
  simp only [Nat.add_eq_left, Nat.left_eq_add, oneW_some, Ez.stepC, Ez.step, Ez.evX, Ez.pureD, Ez.loadD, Ez.storeD, Ez.lenD, Ez.asLit, Ez.asInt, Ez.asBool, getE_cons, Ez.putE, Ez.updH, getH_cons, Ez.iadrD, Ez.rowsOf, Ez.appR, Ez.appD, Ez.srcOf, Ez.cpyD, Ez.frzV, Ez.frz, Ez.frz1, Ez.V.cells, Ez.cellsD, Ez.isCell, Ez.fillP, Ez.rowsy, zeros_one, Ez.litC, Ez.litD, Ez.splice, Ez.scalar, Option.bind_eq_bind, Option.bind_some, if_true, if_false, Option.map_some, Option.map_none, Ez.dInt, Ez.binV, Ez.isShift, Ez.intBin, Nat.reduceEqDiff, Bool.false_eq_true, List.getElem?_cons_zero, List.getElem?_cons_succ, reduceIte, Nat.add_zero, Nat.zero_add, Nat.add_assoc, Nat.reduceAdd, Nat.reduceMul, Nat.reduceLeDiff, Option.some.injEq, reduceCtorEq, Nat.add_left_cancel_iff, List.map_cons, List.map_nil, List.length_cons, List.length_nil, List.take_succ_cons, List.drop_succ_cons, List.take_zero, List.drop_zero, List.take_nil, List.drop_nil, List.all_cons, List.all_nil, Bool.and_self, Bool.and_true, List.cons_append, List.nil_append, List.append_nil, Int.toNat_natCast, Nat.mul_one, Int.natCast_nonneg, and_self, and_true, true_and, Nat.le_refl, Nat.zero_le, Int.reduceLE, Int.reduceToNat, Ez.minmax, Ez.undefD, Ez.boolV, Ez.unV, Bool.not_true, Bool.not_false, Ez.slcD, Ez.loOf, Ez.hiOf, e9, hq2]
  refine dr_call (us := us2) (by exact fz _ us2 hf2) v13 ?_
  simp only [retD, V.toD, putE]
  iterate 2 (refine dr_cons rfl ?_; simp only [Nat.add_eq_left, Nat.left_eq_add, oneW_some, Ez.stepC, Ez.step, Ez.evX, Ez.pureD, Ez.loadD, Ez.storeD, Ez.lenD, Ez.asLit, Ez.asInt, Ez.asBool, getE_cons, Ez.putE, Ez.updH, getH_cons, Ez.iadrD, Ez.rowsOf, Ez.appR, Ez.appD, Ez.srcOf, Ez.cpyD, Ez.frzV, Ez.frz, Ez.frz1, Ez.V.cells, Ez.cellsD, Ez.isCell, Ez.fillP, Ez.rowsy, zeros_one, Ez.litC, Ez.litD, Ez.splice, Ez.scalar, Option.bind_eq_bind, Option.bind_some, if_true, if_false, Option.map_some, Option.map_none, Ez.dInt, Ez.binV, Ez.isShift, Ez.intBin, Nat.reduceEqDiff, Bool.false_eq_true, List.getElem?_cons_zero, List.getElem?_cons_succ, reduceIte, Nat.add_zero, Nat.zero_add, Nat.add_assoc, Nat.reduceAdd, Nat.reduceMul, Nat.reduceLeDiff, Option.some.injEq, reduceCtorEq, Nat.add_left_cancel_iff, List.map_cons, List.map_nil, List.length_cons, List.length_nil, List.take_succ_cons, List.drop_succ_cons, List.take_zero, List.drop_zero, List.take_nil, List.drop_nil, List.all_cons, List.all_nil, Bool.and_self, Bool.and_true, List.cons_append, List.nil_append, List.append_nil, Int.toNat_natCast, Nat.mul_one, Int.natCast_nonneg, and_self, and_true, true_and, Nat.le_refl, Nat.zero_le, Int.reduceLE, Int.reduceToNat, Ez.minmax, Ez.undefD, Ez.boolV, Ez.unV, Bool.not_true, Bool.not_false, Ez.slcD, Ez.loOf, Ez.hiOf, beq_self_eq_true])
  refine dr_nil ⟨?_, wp_ret ⟨rfl, by simp only [getE_cons, Nat.reduceEqDiff, if_false, if_true]⟩⟩
  simp only [drawOk, drawFrom, okRow, clash, meets, touches, opX, tmpsX, evX, getE_cons, Nat.reduceEqDiff, if_true, if_false, e9, List.nil_append, List.cons_append, List.append_nil, hm]
  simp [Nat.testBit]

theorem bytesC_set (l : List UInt8) (j : Nat) (h : j < l.length) (b : UInt8) : (bytesC l).take j ++ byteC b :: (bytesC l).drop (j + 1) = bytesC (l.set j b) := by
  rw [List.set_eq_take_append_cons_drop, if_pos h]
  simp [bytesC]

theorem rows_mid {h : Heap} {i1 i2 : List (Nat × Nat)} {l1 l2 : List Sec} {d1 d2 d3 : D} {s : Sec} (h1 : Held h i1 l1) (h2 : Held h i2 l2) (o1 : Okay l1) (o2 : Okay l2) (c1 : Cont h d1 s.sure) (c2 : Cont h d2 s.data) (c3 : d3 = .c (boolC s.fresh)) :
    RowsC h (rowD i1 l1 ++ d1 :: d2 :: d3 :: rowD i2 l2) (l1 ++ s :: l2) := (held_rows h1 o1).app (show RowsC h (d1 :: d2 :: d3 :: rowD i2 l2) (s :: l2) from ⟨c1, c2, c3, held_rows h2 o2⟩)

theorem cont_all {h : Heap} {id fz ety : Nat} {b : List UInt8} (hg : getH h id = .arr (bytesC b) 1 fz ety) (hl : b.length = 128) : Cont h (.arr id 0 128) b :=
  ⟨id, 0, _, _, _, by rw [hl], hg, by rw [bytesC_len]; omega, by rw [List.drop_zero, List.take_of_length_le (by rw [bytesC_len]; omega)]⟩

theorem w4_0 {F : Tab} {Q : Ex → St → Prop} {e : Env} {h : Heap} {N q rid a b k m at_ j : Nat} {i1 i2 : List (Nat × Nat)} {l1 l2 : List Sec} {s : Sec} {ds : List D}
    (e3 : getE e 3 = .c (.lit (.int .u8 (at_ : Int)))) (e9 : getE e 9 = .loc q 0) (e10 : getE e 10 = .c (.lit (.int .i64 (k : Int)))) (e34 : getE e 34 = .c (.lit (.int .u8 0)))
    (hq : getH h q = .box [.arr rid 0 m, .c (.lit (.bool false)), .c (.lit (.bool false)), .c (.lit (.int .i64 0))]) (hr : getH h rid = .rows ds 3 32) (hds : ds = rowD i1 l1 ++ .arr a 0 128 :: .arr b 0 128 :: .c (boolC s.fresh) :: rowD i2 l2)
    (n1 : i1.length = l1.length) (n2 : l1.length = k) (n3 : (l1 ++ s :: l2).length = m) (h1 : Held h i1 l1) (h2 : Held h i2 l2) (o1 : Okay l1) (o2 : Okay l2) (s1 : s.sure.length = 128) (s2 : s.data.length = 128)
    (ha : getH h a = .arr (bytesC s.sure) 1 0 5) (hb : getH h b = .arr (bytesC s.data) 1 0 5) (nd : (q :: rid :: a :: b :: (flat i1 ++ flat i2)).Nodup) (hat : at_ < 256) (hj : j = at_ % 128)
    (hQ : ∀ (t : St) (X : D) (l : List Sec) (d ar : Bool) (le : Int) (us us2 : List (Nat × Ez.Obj)), getE t.env 9 = .loc q 0 → getH t.heap q = .box [X, .c (boolC d), .c (boolC ar), .c (intC le)] → frz t.heap X = some (secsS l, us) → (∀ p ∈ us, p.1 ≠ q) → frz (updH t.heap us) X = some (secsS l, us2) → Q .normal t) : WP F W4 ⟨e, h, N⟩ Q := by
  have hlen := rowD_len n1
  rw [n2] at hlen
  simp only [List.nodup_cons, List.mem_cons, List.mem_append, not_or] at nd
  obtain ⟨⟨nqr, nqa, nqb, nq1, nq2⟩, ⟨nra, nrb, nr1, nr2⟩, ⟨nab, na1, na2⟩, ⟨nb1, nb2⟩, nd12⟩ := nd
  have g0 : ds[k * 3]? = some (.arr a 0 128) := by rw [hds, List.getElem?_append_right (by omega), hlen, Nat.sub_self]; rfl
  have g1 : ds[k * 3 + 1]? = some (.arr b 0 128) := by rw [hds, List.getElem?_append_right (by omega), hlen, Nat.add_sub_cancel_left]; rfl
  have t0 : ds.take (k * 3) = rowD i1 l1 := by rw [hds, List.take_append_of_le_length (by omega), List.take_of_length_le (by omega)]
  have t1 : ds.drop (k * 3 + 1) = .arr b 0 128 :: .c (boolC s.fresh) :: rowD i2 l2 := by rw [hds, List.drop_append, hlen, List.drop_eq_nil_of_le (by omega), Nat.add_sub_cancel_left]; rfl
  have t2 : ds.take (k * 3 + 2) = rowD i1 l1 ++ [.arr a 0 128, .arr b 0 128] := by rw [hds, List.take_append, hlen, List.take_of_length_le (by omega), Nat.add_sub_cancel_left]; rfl
  have t3 : ds.drop (k * 3 + 3) = rowD i2 l2 := by rw [hds, List.drop_append, hlen, List.drop_eq_nil_of_le (by omega), Nat.add_sub_cancel_left]; rfl
  have hdl : ds.length = m * 3 := by rw [hds, List.length_append, hlen, ← n3]; simp [rowD_len h2.len]; omega
  have hkm : k < m := by rw [← n3, List.length_append, n2]; simp
  have hj128 : j < 128 := by omega
  have c128 : ((128 : Int) = 0) = False := by simp
  have htm : (at_ : Int).tmod 128 = (j : Int) := by rw [hj]; rfl
  have hw : IntKind.wrap .i64 (at_ : Int) = (at_ : Int) := Go.Proofs.Ytfphnpelampoeaa.wrap_i64 _ (by omega)
  have hw2 : IntKind.wrap .i64 ((at_ : Int) - 100) = (at_ : Int) - 100 := Go.Proofs.Ytfphnpelampoeaa.wrap_i64 _ (by omega)
  have f1 : ((k : Int) < (m : Int)) = True := by simpa using hkm
  have f2 : ((j : Int) < ((128 : Nat) : Int)) = True := by simp; omega
  have f3 : (bytesC s.data).length = 128 := by rw [bytesC_len]; exact s2
  have f4 : (j + 1 ≤ 128) = True := by simp; omega
  have f5 : (k * 3 + 3 ≤ m * 3) = True := by simp; omega
  have f6 : (k * 3 + 1 ≤ m * 3) = True := by simp; omega
  have x1 : (q = rid) = False := by simpa using nqr
  have x2 : (rid = q) = False := by simpa using fun e : rid = q => nqr e.symm
  have x3 : (b = q) = False := by simpa using fun e : b = q => nqb e.symm
  have x4 : (b = rid) = False := by simpa using fun e : b = rid => nrb e.symm
  have x5 : (q = b) = False := by simpa using nqb
  have x6 : (rid = b) = False := by simpa using nrb
  have ids : ∀ x, x ∈ arrIds ds → x ≠ q := by
    intro x hx
    rw [hds, arrIds_flat, List.flatMap_append, ← arrIds_flat, ← arrIds_flat] at hx
    simp only [arrIds, List.mem_append, List.mem_cons] at hx
    rcases hx with hx | hx | hx | hx
    · exact fun e => nq1 (e ▸ arrIds_rowD x hx)
    · rw [hx]; exact fun e => nqa e.symm
    · rw [hx]; exact fun e => nqb e.symm
    · exact fun e => nq2 (e ▸ arrIds_rowD x hx)
  have b0 : ((0 : Int) == 0) = true := rfl
  simp only [W4, I4]
  refine wp_block ?_
  refine wp_seq (wp_sq ?_)
  iterate 2 (refine sq_cons rfl ?_; simp only [Nat.add_eq_left, Nat.left_eq_add, oneW_some, Ez.stepC, Ez.step, Ez.evX, Ez.pureD, Ez.loadD, Ez.storeD, Ez.lenD, Ez.asLit, Ez.asInt, Ez.asBool, getE_cons, Ez.putE, Ez.updH, getH_cons, Ez.iadrD, Ez.rowsOf, Ez.appR, Ez.appD, Ez.srcOf, Ez.cpyD, Ez.frzV, Ez.frz, Ez.frz1, Ez.V.cells, Ez.cellsD, Ez.isCell, Ez.fillP, Ez.rowsy, zeros_one, Ez.litC, Ez.litD, Ez.splice, Ez.scalar, Option.bind_eq_bind, Option.bind_some, if_true, if_false, Option.map_some, Option.map_none, Ez.dInt, Ez.binV, Ez.isShift, Ez.intBin, Nat.reduceEqDiff, Bool.false_eq_true, List.getElem?_cons_zero, List.getElem?_cons_succ, reduceIte, Nat.add_zero, Nat.zero_add, Nat.add_assoc, Nat.reduceAdd, Nat.reduceMul, Nat.reduceLeDiff, Option.some.injEq, reduceCtorEq, Nat.add_left_cancel_iff, List.map_cons, List.map_nil, List.length_cons, List.length_nil, List.take_succ_cons, List.drop_succ_cons, List.take_zero, List.drop_zero, List.take_nil, List.drop_nil, List.all_cons, List.all_nil, Bool.and_self, Bool.and_true, List.cons_append, List.nil_append, List.append_nil, Int.toNat_natCast, Nat.mul_one, Int.natCast_nonneg, and_self, and_true, true_and, Nat.le_refl, Nat.zero_le, Int.reduceLE, Int.reduceToNat, Ez.minmax, Ez.undefD, Ez.boolV, Ez.unV, Bool.not_true, Bool.not_false, Ez.slcD, Ez.loOf, Ez.hiOf, Nat.reduceSub, ha, e3, e9, e10, e34, hq, hr, hb, g0, g1, t0, t1, t2, t3, hdl, c128, htm, hw, hw2, f1, f2, f3, f4, f5, f6, x1, x2, x3, x4, x5, x6, b0])
  refine sq_nil (wp_condT rfl ?_)
  refine wp_sq ?_
  iterate 11 (refine sq_cons rfl ?_; simp only [Nat.add_eq_left, Nat.left_eq_add, oneW_some, Ez.stepC, Ez.step, Ez.evX, Ez.pureD, Ez.loadD, Ez.storeD, Ez.lenD, Ez.asLit, Ez.asInt, Ez.asBool, getE_cons, Ez.putE, Ez.updH, getH_cons, Ez.iadrD, Ez.rowsOf, Ez.appR, Ez.appD, Ez.srcOf, Ez.cpyD, Ez.frzV, Ez.frz, Ez.frz1, Ez.V.cells, Ez.cellsD, Ez.isCell, Ez.fillP, Ez.rowsy, zeros_one, Ez.litC, Ez.litD, Ez.splice, Ez.scalar, Option.bind_eq_bind, Option.bind_some, if_true, if_false, Option.map_some, Option.map_none, Ez.dInt, Ez.binV, Ez.isShift, Ez.intBin, Nat.reduceEqDiff, Bool.false_eq_true, List.getElem?_cons_zero, List.getElem?_cons_succ, reduceIte, Nat.add_zero, Nat.zero_add, Nat.add_assoc, Nat.reduceAdd, Nat.reduceMul, Nat.reduceLeDiff, Option.some.injEq, reduceCtorEq, Nat.add_left_cancel_iff, List.map_cons, List.map_nil, List.length_cons, List.length_nil, List.take_succ_cons, List.drop_succ_cons, List.take_zero, List.drop_zero, List.take_nil, List.drop_nil, List.all_cons, List.all_nil, Bool.and_self, Bool.and_true, List.cons_append, List.nil_append, List.append_nil, Int.toNat_natCast, Nat.mul_one, Int.natCast_nonneg, and_self, and_true, true_and, Nat.le_refl, Nat.zero_le, Int.reduceLE, Int.reduceToNat, Ez.minmax, Ez.undefD, Ez.boolV, Ez.unV, Bool.not_true, Bool.not_false, Ez.slcD, Ez.loOf, Ez.hiOf, Nat.reduceSub, ha, e3, e9, e10, e34, hq, hr, hb, g0, g1, t0, t1, t2, t3, hdl, c128, htm, hw, hw2, f1, f2, f3, f4, f5, f6, x1, x2, x3, x4, x5, x6])
  refine sq_nil ?_
  have hset : (bytesC s.data).take j ++ [C.lit (.int .u8 1)] ++ (bytesC s.data).drop (j + 1) = bytesC (s.data.set j 1) := by rw [List.append_assoc]; exact bytesC_set s.data j (by omega) 1
  have hfr : ∀ x, x ≠ b → getH ((b, .arr ((bytesC s.data).take j ++ [C.lit (.int .u8 1)] ++ (bytesC s.data).drop (j + 1)) 1 0 5) :: h) x = getH h x := fun x hx => by simp only [getH_cons, show (b = x) = False by simp; exact fun e => hx e.symm, if_false]
  have hrow : getH ((b, .arr ((bytesC s.data).take j ++ [C.lit (.int .u8 1)] ++ (bytesC s.data).drop (j + 1)) 1 0 5) :: h) rid = .rows ds 3 32 := by rw [hfr rid nrb]; exact hr
  have hrc : RowsC ((b, .arr ((bytesC s.data).take j ++ [C.lit (.int .u8 1)] ++ (bytesC s.data).drop (j + 1)) 1 0 5) :: h) ds (l1 ++ ⟨s.sure, s.data.set j 1, s.fresh⟩ :: l2) := by
    rw [hds]
    exact rows_mid (h1.frame fun x hx => hfr x fun e => nb1 (e ▸ hx)) (h2.frame fun x hx => hfr x fun e => nb2 (e ▸ hx)) o1 o2 (cont_all (by rw [hfr a nab]; exact ha) s1) (cont_all (by simp only [getH_cons, if_true]; rw [hset]) (by simp [s2])) rfl
  obtain ⟨us, y1, y2, us2, y3⟩ := frz_rows hrow hrc
  have hm : (l1 ++ ⟨s.sure, s.data.set j 1, s.fresh⟩ :: l2).length = m := by simpa using n3
  rw [hm] at y1 y3
  refine hQ _ (.arr rid 0 m) (l1 ++ ⟨s.sure, s.data.set j 1, s.fresh⟩ :: l2) false false 0 us us2 ?_ ?_ y1 ?_ y3
  · simp only [getE_cons, Nat.reduceEqDiff, if_false, if_true, e9]
  · simp only [getH_cons, if_true, if_false, x1, x2, x3, x4, hq]; try rfl
  · intro p hp
    rcases y2 p hp with y | y
    · rw [y]; exact fun e => nqr e.symm
    · exact ids p.1 y

theorem w4_1 {F : Tab} {Q : Ex → St → Prop} {e : Env} {h : Heap} {N q rid a b k m at_ j : Nat} {i1 i2 : List (Nat × Nat)} {l1 l2 : List Sec} {s : Sec} {ds : List D}
    (e3 : getE e 3 = .c (.lit (.int .u8 (at_ : Int)))) (e9 : getE e 9 = .loc q 0) (e10 : getE e 10 = .c (.lit (.int .i64 (k : Int)))) (e34 : getE e 34 = .c (.lit (.int .u8 1)))
    (hq : getH h q = .box [.arr rid 0 m, .c (.lit (.bool false)), .c (.lit (.bool false)), .c (.lit (.int .i64 0))]) (hr : getH h rid = .rows ds 3 32) (hds : ds = rowD i1 l1 ++ .arr a 0 128 :: .arr b 0 128 :: .c (boolC s.fresh) :: rowD i2 l2)
    (n1 : i1.length = l1.length) (n2 : l1.length = k) (n3 : (l1 ++ s :: l2).length = m) (h1 : Held h i1 l1) (h2 : Held h i2 l2) (o1 : Okay l1) (o2 : Okay l2) (s1 : s.sure.length = 128) (s2 : s.data.length = 128)
    (ha : getH h a = .arr (bytesC s.sure) 1 0 5) (hb : getH h b = .arr (bytesC s.data) 1 0 5) (nd : (q :: rid :: a :: b :: (flat i1 ++ flat i2)).Nodup) (hat : at_ < 256) (hj : j = at_ % 128)
    (hQ : ∀ (t : St) (X : D) (l : List Sec) (d ar : Bool) (le : Int) (us us2 : List (Nat × Ez.Obj)), getE t.env 9 = .loc q 0 → getH t.heap q = .box [X, .c (boolC d), .c (boolC ar), .c (intC le)] → frz t.heap X = some (secsS l, us) → (∀ p ∈ us, p.1 ≠ q) → frz (updH t.heap us) X = some (secsS l, us2) → Q .normal t) : WP F W4 ⟨e, h, N⟩ Q := by
  have hlen := rowD_len n1
  rw [n2] at hlen
  simp only [List.nodup_cons, List.mem_cons, List.mem_append, not_or] at nd
  obtain ⟨⟨nqr, nqa, nqb, nq1, nq2⟩, ⟨nra, nrb, nr1, nr2⟩, ⟨nab, na1, na2⟩, ⟨nb1, nb2⟩, nd12⟩ := nd
  have g0 : ds[k * 3]? = some (.arr a 0 128) := by rw [hds, List.getElem?_append_right (by omega), hlen, Nat.sub_self]; rfl
  have g1 : ds[k * 3 + 1]? = some (.arr b 0 128) := by rw [hds, List.getElem?_append_right (by omega), hlen, Nat.add_sub_cancel_left]; rfl
  have t0 : ds.take (k * 3) = rowD i1 l1 := by rw [hds, List.take_append_of_le_length (by omega), List.take_of_length_le (by omega)]
  have t1 : ds.drop (k * 3 + 1) = .arr b 0 128 :: .c (boolC s.fresh) :: rowD i2 l2 := by rw [hds, List.drop_append, hlen, List.drop_eq_nil_of_le (by omega), Nat.add_sub_cancel_left]; rfl
  have t2 : ds.take (k * 3 + 2) = rowD i1 l1 ++ [.arr a 0 128, .arr b 0 128] := by rw [hds, List.take_append, hlen, List.take_of_length_le (by omega), Nat.add_sub_cancel_left]; rfl
  have t3 : ds.drop (k * 3 + 3) = rowD i2 l2 := by rw [hds, List.drop_append, hlen, List.drop_eq_nil_of_le (by omega), Nat.add_sub_cancel_left]; rfl
  have hdl : ds.length = m * 3 := by rw [hds, List.length_append, hlen, ← n3]; simp [rowD_len h2.len]; omega
  have hkm : k < m := by rw [← n3, List.length_append, n2]; simp
  have hj128 : j < 128 := by omega
  have c128 : ((128 : Int) = 0) = False := by simp
  have htm : (at_ : Int).tmod 128 = (j : Int) := by rw [hj]; rfl
  have hw : IntKind.wrap .i64 (at_ : Int) = (at_ : Int) := Go.Proofs.Ytfphnpelampoeaa.wrap_i64 _ (by omega)
  have hw2 : IntKind.wrap .i64 ((at_ : Int) - 100) = (at_ : Int) - 100 := Go.Proofs.Ytfphnpelampoeaa.wrap_i64 _ (by omega)
  have f1 : ((k : Int) < (m : Int)) = True := by simpa using hkm
  have f2 : ((j : Int) < ((128 : Nat) : Int)) = True := by simp; omega
  have f3 : (bytesC s.data).length = 128 := by rw [bytesC_len]; exact s2
  have f4 : (j + 1 ≤ 128) = True := by simp; omega
  have f5 : (k * 3 + 3 ≤ m * 3) = True := by simp; omega
  have f6 : (k * 3 + 1 ≤ m * 3) = True := by simp; omega
  have x1 : (q = rid) = False := by simpa using nqr
  have x2 : (rid = q) = False := by simpa using fun e : rid = q => nqr e.symm
  have x3 : (b = q) = False := by simpa using fun e : b = q => nqb e.symm
  have x4 : (b = rid) = False := by simpa using fun e : b = rid => nrb e.symm
  have x5 : (q = b) = False := by simpa using nqb
  have x6 : (rid = b) = False := by simpa using nrb
  have ids : ∀ x, x ∈ arrIds ds → x ≠ q := by
    intro x hx
    rw [hds, arrIds_flat, List.flatMap_append, ← arrIds_flat, ← arrIds_flat] at hx
    simp only [arrIds, List.mem_append, List.mem_cons] at hx
    rcases hx with hx | hx | hx | hx
    · exact fun e => nq1 (e ▸ arrIds_rowD x hx)
    · rw [hx]; exact fun e => nqa e.symm
    · rw [hx]; exact fun e => nqb e.symm
    · exact fun e => nq2 (e ▸ arrIds_rowD x hx)
  have b0 : ((1 : Int) == 0) = false := rfl
  have b1 : ((1 : Int) == 1) = true := rfl
  simp only [W4, I4]
  refine wp_block ?_
  refine wp_seq (wp_sq ?_)
  iterate 2 (refine sq_cons rfl ?_; simp only [Nat.add_eq_left, Nat.left_eq_add, oneW_some, Ez.stepC, Ez.step, Ez.evX, Ez.pureD, Ez.loadD, Ez.storeD, Ez.lenD, Ez.asLit, Ez.asInt, Ez.asBool, getE_cons, Ez.putE, Ez.updH, getH_cons, Ez.iadrD, Ez.rowsOf, Ez.appR, Ez.appD, Ez.srcOf, Ez.cpyD, Ez.frzV, Ez.frz, Ez.frz1, Ez.V.cells, Ez.cellsD, Ez.isCell, Ez.fillP, Ez.rowsy, zeros_one, Ez.litC, Ez.litD, Ez.splice, Ez.scalar, Option.bind_eq_bind, Option.bind_some, if_true, if_false, Option.map_some, Option.map_none, Ez.dInt, Ez.binV, Ez.isShift, Ez.intBin, Nat.reduceEqDiff, Bool.false_eq_true, List.getElem?_cons_zero, List.getElem?_cons_succ, reduceIte, Nat.add_zero, Nat.zero_add, Nat.add_assoc, Nat.reduceAdd, Nat.reduceMul, Nat.reduceLeDiff, Option.some.injEq, reduceCtorEq, Nat.add_left_cancel_iff, List.map_cons, List.map_nil, List.length_cons, List.length_nil, List.take_succ_cons, List.drop_succ_cons, List.take_zero, List.drop_zero, List.take_nil, List.drop_nil, List.all_cons, List.all_nil, Bool.and_self, Bool.and_true, List.cons_append, List.nil_append, List.append_nil, Int.toNat_natCast, Nat.mul_one, Int.natCast_nonneg, and_self, and_true, true_and, Nat.le_refl, Nat.zero_le, Int.reduceLE, Int.reduceToNat, Ez.minmax, Ez.undefD, Ez.boolV, Ez.unV, Bool.not_true, Bool.not_false, Ez.slcD, Ez.loOf, Ez.hiOf, Nat.reduceSub, ha, e3, e9, e10, e34, hq, hr, hb, g0, g1, t0, t1, t2, t3, hdl, c128, htm, hw, hw2, f1, f2, f3, f4, f5, f6, x1, x2, x3, x4, x5, x6, b0])
  refine sq_nil (wp_condF rfl ?_)
  refine wp_seq (wp_sq ?_)
  iterate 2 (refine sq_cons rfl ?_; simp only [Nat.add_eq_left, Nat.left_eq_add, oneW_some, Ez.stepC, Ez.step, Ez.evX, Ez.pureD, Ez.loadD, Ez.storeD, Ez.lenD, Ez.asLit, Ez.asInt, Ez.asBool, getE_cons, Ez.putE, Ez.updH, getH_cons, Ez.iadrD, Ez.rowsOf, Ez.appR, Ez.appD, Ez.srcOf, Ez.cpyD, Ez.frzV, Ez.frz, Ez.frz1, Ez.V.cells, Ez.cellsD, Ez.isCell, Ez.fillP, Ez.rowsy, zeros_one, Ez.litC, Ez.litD, Ez.splice, Ez.scalar, Option.bind_eq_bind, Option.bind_some, if_true, if_false, Option.map_some, Option.map_none, Ez.dInt, Ez.binV, Ez.isShift, Ez.intBin, Nat.reduceEqDiff, Bool.false_eq_true, List.getElem?_cons_zero, List.getElem?_cons_succ, reduceIte, Nat.add_zero, Nat.zero_add, Nat.add_assoc, Nat.reduceAdd, Nat.reduceMul, Nat.reduceLeDiff, Option.some.injEq, reduceCtorEq, Nat.add_left_cancel_iff, List.map_cons, List.map_nil, List.length_cons, List.length_nil, List.take_succ_cons, List.drop_succ_cons, List.take_zero, List.drop_zero, List.take_nil, List.drop_nil, List.all_cons, List.all_nil, Bool.and_self, Bool.and_true, List.cons_append, List.nil_append, List.append_nil, Int.toNat_natCast, Nat.mul_one, Int.natCast_nonneg, and_self, and_true, true_and, Nat.le_refl, Nat.zero_le, Int.reduceLE, Int.reduceToNat, Ez.minmax, Ez.undefD, Ez.boolV, Ez.unV, Bool.not_true, Bool.not_false, Ez.slcD, Ez.loOf, Ez.hiOf, Nat.reduceSub, ha, e3, e9, e10, e34, hq, hr, hb, g0, g1, t0, t1, t2, t3, hdl, c128, htm, hw, hw2, f1, f2, f3, f4, f5, f6, x1, x2, x3, x4, x5, x6, b1])
  refine sq_nil (wp_condT rfl ?_)
  refine wp_seq (wp_sq ?_)
  iterate 11 (refine sq_cons rfl ?_; simp only [Nat.add_eq_left, Nat.left_eq_add, oneW_some, Ez.stepC, Ez.step, Ez.evX, Ez.pureD, Ez.loadD, Ez.storeD, Ez.lenD, Ez.asLit, Ez.asInt, Ez.asBool, getE_cons, Ez.putE, Ez.updH, getH_cons, Ez.iadrD, Ez.rowsOf, Ez.appR, Ez.appD, Ez.srcOf, Ez.cpyD, Ez.frzV, Ez.frz, Ez.frz1, Ez.V.cells, Ez.cellsD, Ez.isCell, Ez.fillP, Ez.rowsy, zeros_one, Ez.litC, Ez.litD, Ez.splice, Ez.scalar, Option.bind_eq_bind, Option.bind_some, if_true, if_false, Option.map_some, Option.map_none, Ez.dInt, Ez.binV, Ez.isShift, Ez.intBin, Nat.reduceEqDiff, Bool.false_eq_true, List.getElem?_cons_zero, List.getElem?_cons_succ, reduceIte, Nat.add_zero, Nat.zero_add, Nat.add_assoc, Nat.reduceAdd, Nat.reduceMul, Nat.reduceLeDiff, Option.some.injEq, reduceCtorEq, Nat.add_left_cancel_iff, List.map_cons, List.map_nil, List.length_cons, List.length_nil, List.take_succ_cons, List.drop_succ_cons, List.take_zero, List.drop_zero, List.take_nil, List.drop_nil, List.all_cons, List.all_nil, Bool.and_self, Bool.and_true, List.cons_append, List.nil_append, List.append_nil, Int.toNat_natCast, Nat.mul_one, Int.natCast_nonneg, and_self, and_true, true_and, Nat.le_refl, Nat.zero_le, Int.reduceLE, Int.reduceToNat, Ez.minmax, Ez.undefD, Ez.boolV, Ez.unV, Bool.not_true, Bool.not_false, Ez.slcD, Ez.loOf, Ez.hiOf, Nat.reduceSub, ha, e3, e9, e10, e34, hq, hr, hb, g0, g1, t0, t1, t2, t3, hdl, c128, htm, hw, hw2, f1, f2, f3, f4, f5, f6, x1, x2, x3, x4, x5, x6])
  refine sq_nil (wp_sq ?_)
  iterate 6 (refine sq_cons rfl ?_; simp only [Nat.add_eq_left, Nat.left_eq_add, oneW_some, Ez.stepC, Ez.step, Ez.evX, Ez.pureD, Ez.loadD, Ez.storeD, Ez.lenD, Ez.asLit, Ez.asInt, Ez.asBool, getE_cons, Ez.putE, Ez.updH, getH_cons, Ez.iadrD, Ez.rowsOf, Ez.appR, Ez.appD, Ez.srcOf, Ez.cpyD, Ez.frzV, Ez.frz, Ez.frz1, Ez.V.cells, Ez.cellsD, Ez.isCell, Ez.fillP, Ez.rowsy, zeros_one, Ez.litC, Ez.litD, Ez.splice, Ez.scalar, Option.bind_eq_bind, Option.bind_some, if_true, if_false, Option.map_some, Option.map_none, Ez.dInt, Ez.binV, Ez.isShift, Ez.intBin, Nat.reduceEqDiff, Bool.false_eq_true, List.getElem?_cons_zero, List.getElem?_cons_succ, reduceIte, Nat.add_zero, Nat.zero_add, Nat.add_assoc, Nat.reduceAdd, Nat.reduceMul, Nat.reduceLeDiff, Option.some.injEq, reduceCtorEq, Nat.add_left_cancel_iff, List.map_cons, List.map_nil, List.length_cons, List.length_nil, List.take_succ_cons, List.drop_succ_cons, List.take_zero, List.drop_zero, List.take_nil, List.drop_nil, List.all_cons, List.all_nil, Bool.and_self, Bool.and_true, List.cons_append, List.nil_append, List.append_nil, Int.toNat_natCast, Nat.mul_one, Int.natCast_nonneg, and_self, and_true, true_and, Nat.le_refl, Nat.zero_le, Int.reduceLE, Int.reduceToNat, Ez.minmax, Ez.undefD, Ez.boolV, Ez.unV, Bool.not_true, Bool.not_false, Ez.slcD, Ez.loOf, Ez.hiOf, Nat.reduceSub, ha, e3, e9, e10, e34, hq, hr, hb, g0, g1, t0, t1, t2, t3, hdl, c128, htm, hw, hw2, f1, f2, f3, f4, f5, f6, x1, x2, x3, x4, x5, x6])
  refine sq_nil ?_
  have hset : (bytesC s.data).take j ++ [C.lit (.int .u8 1)] ++ (bytesC s.data).drop (j + 1) = bytesC (s.data.set j 1) := by rw [List.append_assoc]; exact bytesC_set s.data j (by omega) 1
  have hfr : ∀ x, x ≠ b → x ≠ rid → getH ((rid, .rows (rowD i1 l1 ++ [.arr a 0 128, .arr b 0 128] ++ [.c (.lit (.bool true))] ++ rowD i2 l2) 3 32) :: (b, .arr ((bytesC s.data).take j ++ [C.lit (.int .u8 1)] ++ (bytesC s.data).drop (j + 1)) 1 0 5) :: h) x = getH h x := fun x hx hx2 => by simp only [getH_cons, show (b = x) = False by simp; exact fun e => hx e.symm, show (rid = x) = False by simp; exact fun e => hx2 e.symm, if_false]
  have hrow : getH ((rid, .rows (rowD i1 l1 ++ [.arr a 0 128, .arr b 0 128] ++ [.c (.lit (.bool true))] ++ rowD i2 l2) 3 32) :: (b, .arr ((bytesC s.data).take j ++ [C.lit (.int .u8 1)] ++ (bytesC s.data).drop (j + 1)) 1 0 5) :: h) rid = .rows (rowD i1 l1 ++ [.arr a 0 128, .arr b 0 128] ++ [.c (.lit (.bool true))] ++ rowD i2 l2) 3 32 := by simp only [getH_cons, if_true]
  have hrc : RowsC ((rid, .rows (rowD i1 l1 ++ [.arr a 0 128, .arr b 0 128] ++ [.c (.lit (.bool true))] ++ rowD i2 l2) 3 32) :: (b, .arr ((bytesC s.data).take j ++ [C.lit (.int .u8 1)] ++ (bytesC s.data).drop (j + 1)) 1 0 5) :: h) (rowD i1 l1 ++ [.arr a 0 128, .arr b 0 128] ++ [.c (.lit (.bool true))] ++ rowD i2 l2) (l1 ++ ⟨s.sure, s.data.set j 1, true⟩ :: l2) := by
    have key := rows_mid (h := ((rid, .rows (rowD i1 l1 ++ [.arr a 0 128, .arr b 0 128] ++ [.c (.lit (.bool true))] ++ rowD i2 l2) 3 32) :: (b, .arr ((bytesC s.data).take j ++ [C.lit (.int .u8 1)] ++ (bytesC s.data).drop (j + 1)) 1 0 5) :: h)) (s := ⟨s.sure, s.data.set j 1, true⟩) (d3 := .c (.lit (.bool true))) (h1.frame fun x hx => hfr x (fun e => nb1 (e ▸ hx)) (fun e => nr1 (e ▸ hx))) (h2.frame fun x hx => hfr x (fun e => nb2 (e ▸ hx)) (fun e => nr2 (e ▸ hx))) o1 o2 (cont_all (by rw [hfr a nab (fun e => nra e.symm)]; exact ha) s1) (cont_all (id := b) (by simp only [getH_cons, x6, if_true, if_false]; rw [hset]) (by simp [s2])) rfl
    simpa only [List.append_assoc, List.cons_append, List.nil_append] using key
  obtain ⟨us, y1, y2, us2, y3⟩ := frz_rows hrow hrc
  have hm : (l1 ++ ⟨s.sure, s.data.set j 1, true⟩ :: l2).length = m := by simpa using n3
  rw [hm] at y1 y3
  refine hQ _ (.arr rid 0 m) (l1 ++ ⟨s.sure, s.data.set j 1, true⟩ :: l2) false false 0 us us2 ?_ ?_ y1 ?_ y3
  · simp only [getE_cons, Nat.reduceEqDiff, if_false, if_true, e9]
  · simp only [getH_cons, if_true, if_false, x1, x2, x3, x4, hq]; try rfl
  · intro p hp
    rcases y2 p hp with y | y
    · rw [y]; exact fun e => nqr e.symm
    · exact (fun x hx => ids x (by rw [hds]; simpa [arrIds, arrIds_flat] using hx)) p.1 y

theorem w4_2 {F : Tab} {Q : Ex → St → Prop} {e : Env} {h : Heap} {N q rid a b k m at_ j : Nat} {i1 i2 : List (Nat × Nat)} {l1 l2 : List Sec} {s : Sec} {ds : List D}
    (e3 : getE e 3 = .c (.lit (.int .u8 (at_ : Int)))) (e9 : getE e 9 = .loc q 0) (e10 : getE e 10 = .c (.lit (.int .i64 (k : Int)))) (e34 : getE e 34 = .c (.lit (.int .u8 2)))
    (hq : getH h q = .box [.arr rid 0 m, .c (.lit (.bool false)), .c (.lit (.bool false)), .c (.lit (.int .i64 0))]) (hr : getH h rid = .rows ds 3 32) (hds : ds = rowD i1 l1 ++ .arr a 0 128 :: .arr b 0 128 :: .c (boolC s.fresh) :: rowD i2 l2)
    (n1 : i1.length = l1.length) (n2 : l1.length = k) (n3 : (l1 ++ s :: l2).length = m) (h1 : Held h i1 l1) (h2 : Held h i2 l2) (o1 : Okay l1) (o2 : Okay l2) (s1 : s.sure.length = 128) (s2 : s.data.length = 128)
    (ha : getH h a = .arr (bytesC s.sure) 1 0 5) (hb : getH h b = .arr (bytesC s.data) 1 0 5) (nd : (q :: rid :: a :: b :: (flat i1 ++ flat i2)).Nodup) (hat : at_ < 256) (hj : j = at_ % 128)
    (hQ : ∀ (t : St) (X : D) (l : List Sec) (d ar : Bool) (le : Int) (us us2 : List (Nat × Ez.Obj)), getE t.env 9 = .loc q 0 → getH t.heap q = .box [X, .c (boolC d), .c (boolC ar), .c (intC le)] → frz t.heap X = some (secsS l, us) → (∀ p ∈ us, p.1 ≠ q) → frz (updH t.heap us) X = some (secsS l, us2) → Q .normal t) : WP F W4 ⟨e, h, N⟩ Q := by
  have hlen := rowD_len n1
  rw [n2] at hlen
  simp only [List.nodup_cons, List.mem_cons, List.mem_append, not_or] at nd
  obtain ⟨⟨nqr, nqa, nqb, nq1, nq2⟩, ⟨nra, nrb, nr1, nr2⟩, ⟨nab, na1, na2⟩, ⟨nb1, nb2⟩, nd12⟩ := nd
  have g0 : ds[k * 3]? = some (.arr a 0 128) := by rw [hds, List.getElem?_append_right (by omega), hlen, Nat.sub_self]; rfl
  have g1 : ds[k * 3 + 1]? = some (.arr b 0 128) := by rw [hds, List.getElem?_append_right (by omega), hlen, Nat.add_sub_cancel_left]; rfl
  have t0 : ds.take (k * 3) = rowD i1 l1 := by rw [hds, List.take_append_of_le_length (by omega), List.take_of_length_le (by omega)]
  have t1 : ds.drop (k * 3 + 1) = .arr b 0 128 :: .c (boolC s.fresh) :: rowD i2 l2 := by rw [hds, List.drop_append, hlen, List.drop_eq_nil_of_le (by omega), Nat.add_sub_cancel_left]; rfl
  have t2 : ds.take (k * 3 + 2) = rowD i1 l1 ++ [.arr a 0 128, .arr b 0 128] := by rw [hds, List.take_append, hlen, List.take_of_length_le (by omega), Nat.add_sub_cancel_left]; rfl
  have t3 : ds.drop (k * 3 + 3) = rowD i2 l2 := by rw [hds, List.drop_append, hlen, List.drop_eq_nil_of_le (by omega), Nat.add_sub_cancel_left]; rfl
  have hdl : ds.length = m * 3 := by rw [hds, List.length_append, hlen, ← n3]; simp [rowD_len h2.len]; omega
  have hkm : k < m := by rw [← n3, List.length_append, n2]; simp
  have hj128 : j < 128 := by omega
  have c128 : ((128 : Int) = 0) = False := by simp
  have htm : (at_ : Int).tmod 128 = (j : Int) := by rw [hj]; rfl
  have hw : IntKind.wrap .i64 (at_ : Int) = (at_ : Int) := Go.Proofs.Ytfphnpelampoeaa.wrap_i64 _ (by omega)
  have hw2 : IntKind.wrap .i64 ((at_ : Int) - 100) = (at_ : Int) - 100 := Go.Proofs.Ytfphnpelampoeaa.wrap_i64 _ (by omega)
  have f1 : ((k : Int) < (m : Int)) = True := by simpa using hkm
  have f2 : ((j : Int) < ((128 : Nat) : Int)) = True := by simp; omega
  have f3 : (bytesC s.data).length = 128 := by rw [bytesC_len]; exact s2
  have f4 : (j + 1 ≤ 128) = True := by simp; omega
  have f5 : (k * 3 + 3 ≤ m * 3) = True := by simp; omega
  have f6 : (k * 3 + 1 ≤ m * 3) = True := by simp; omega
  have x1 : (q = rid) = False := by simpa using nqr
  have x2 : (rid = q) = False := by simpa using fun e : rid = q => nqr e.symm
  have x3 : (b = q) = False := by simpa using fun e : b = q => nqb e.symm
  have x4 : (b = rid) = False := by simpa using fun e : b = rid => nrb e.symm
  have x5 : (q = b) = False := by simpa using nqb
  have x6 : (rid = b) = False := by simpa using nrb
  have ids : ∀ x, x ∈ arrIds ds → x ≠ q := by
    intro x hx
    rw [hds, arrIds_flat, List.flatMap_append, ← arrIds_flat, ← arrIds_flat] at hx
    simp only [arrIds, List.mem_append, List.mem_cons] at hx
    rcases hx with hx | hx | hx | hx
    · exact fun e => nq1 (e ▸ arrIds_rowD x hx)
    · rw [hx]; exact fun e => nqa e.symm
    · rw [hx]; exact fun e => nqb e.symm
    · exact fun e => nq2 (e ▸ arrIds_rowD x hx)
  have b0 : ((2 : Int) == 0) = false := rfl
  have b1 : ((2 : Int) == 1) = false := rfl
  have b2 : ((2 : Int) == 2) = true := rfl
  simp only [W4, I4]
  refine wp_block ?_
  refine wp_seq (wp_sq ?_)
  iterate 2 (refine sq_cons rfl ?_; simp only [Nat.add_eq_left, Nat.left_eq_add, oneW_some, Ez.stepC, Ez.step, Ez.evX, Ez.pureD, Ez.loadD, Ez.storeD, Ez.lenD, Ez.asLit, Ez.asInt, Ez.asBool, getE_cons, Ez.putE, Ez.updH, getH_cons, Ez.iadrD, Ez.rowsOf, Ez.appR, Ez.appD, Ez.srcOf, Ez.cpyD, Ez.frzV, Ez.frz, Ez.frz1, Ez.V.cells, Ez.cellsD, Ez.isCell, Ez.fillP, Ez.rowsy, zeros_one, Ez.litC, Ez.litD, Ez.splice, Ez.scalar, Option.bind_eq_bind, Option.bind_some, if_true, if_false, Option.map_some, Option.map_none, Ez.dInt, Ez.binV, Ez.isShift, Ez.intBin, Nat.reduceEqDiff, Bool.false_eq_true, List.getElem?_cons_zero, List.getElem?_cons_succ, reduceIte, Nat.add_zero, Nat.zero_add, Nat.add_assoc, Nat.reduceAdd, Nat.reduceMul, Nat.reduceLeDiff, Option.some.injEq, reduceCtorEq, Nat.add_left_cancel_iff, List.map_cons, List.map_nil, List.length_cons, List.length_nil, List.take_succ_cons, List.drop_succ_cons, List.take_zero, List.drop_zero, List.take_nil, List.drop_nil, List.all_cons, List.all_nil, Bool.and_self, Bool.and_true, List.cons_append, List.nil_append, List.append_nil, Int.toNat_natCast, Nat.mul_one, Int.natCast_nonneg, and_self, and_true, true_and, Nat.le_refl, Nat.zero_le, Int.reduceLE, Int.reduceToNat, Ez.minmax, Ez.undefD, Ez.boolV, Ez.unV, Bool.not_true, Bool.not_false, Ez.slcD, Ez.loOf, Ez.hiOf, Nat.reduceSub, ha, e3, e9, e10, e34, hq, hr, hb, g0, g1, t0, t1, t2, t3, hdl, c128, htm, hw, hw2, f1, f2, f3, f4, f5, f6, x1, x2, x3, x4, x5, x6, b0])
  refine sq_nil (wp_condF rfl ?_)
  refine wp_seq (wp_sq ?_)
  iterate 2 (refine sq_cons rfl ?_; simp only [Nat.add_eq_left, Nat.left_eq_add, oneW_some, Ez.stepC, Ez.step, Ez.evX, Ez.pureD, Ez.loadD, Ez.storeD, Ez.lenD, Ez.asLit, Ez.asInt, Ez.asBool, getE_cons, Ez.putE, Ez.updH, getH_cons, Ez.iadrD, Ez.rowsOf, Ez.appR, Ez.appD, Ez.srcOf, Ez.cpyD, Ez.frzV, Ez.frz, Ez.frz1, Ez.V.cells, Ez.cellsD, Ez.isCell, Ez.fillP, Ez.rowsy, zeros_one, Ez.litC, Ez.litD, Ez.splice, Ez.scalar, Option.bind_eq_bind, Option.bind_some, if_true, if_false, Option.map_some, Option.map_none, Ez.dInt, Ez.binV, Ez.isShift, Ez.intBin, Nat.reduceEqDiff, Bool.false_eq_true, List.getElem?_cons_zero, List.getElem?_cons_succ, reduceIte, Nat.add_zero, Nat.zero_add, Nat.add_assoc, Nat.reduceAdd, Nat.reduceMul, Nat.reduceLeDiff, Option.some.injEq, reduceCtorEq, Nat.add_left_cancel_iff, List.map_cons, List.map_nil, List.length_cons, List.length_nil, List.take_succ_cons, List.drop_succ_cons, List.take_zero, List.drop_zero, List.take_nil, List.drop_nil, List.all_cons, List.all_nil, Bool.and_self, Bool.and_true, List.cons_append, List.nil_append, List.append_nil, Int.toNat_natCast, Nat.mul_one, Int.natCast_nonneg, and_self, and_true, true_and, Nat.le_refl, Nat.zero_le, Int.reduceLE, Int.reduceToNat, Ez.minmax, Ez.undefD, Ez.boolV, Ez.unV, Bool.not_true, Bool.not_false, Ez.slcD, Ez.loOf, Ez.hiOf, Nat.reduceSub, ha, e3, e9, e10, e34, hq, hr, hb, g0, g1, t0, t1, t2, t3, hdl, c128, htm, hw, hw2, f1, f2, f3, f4, f5, f6, x1, x2, x3, x4, x5, x6, b1])
  refine sq_nil (wp_condF rfl ?_)
  refine wp_seq (wp_sq ?_)
  iterate 2 (refine sq_cons rfl ?_; simp only [Nat.add_eq_left, Nat.left_eq_add, oneW_some, Ez.stepC, Ez.step, Ez.evX, Ez.pureD, Ez.loadD, Ez.storeD, Ez.lenD, Ez.asLit, Ez.asInt, Ez.asBool, getE_cons, Ez.putE, Ez.updH, getH_cons, Ez.iadrD, Ez.rowsOf, Ez.appR, Ez.appD, Ez.srcOf, Ez.cpyD, Ez.frzV, Ez.frz, Ez.frz1, Ez.V.cells, Ez.cellsD, Ez.isCell, Ez.fillP, Ez.rowsy, zeros_one, Ez.litC, Ez.litD, Ez.splice, Ez.scalar, Option.bind_eq_bind, Option.bind_some, if_true, if_false, Option.map_some, Option.map_none, Ez.dInt, Ez.binV, Ez.isShift, Ez.intBin, Nat.reduceEqDiff, Bool.false_eq_true, List.getElem?_cons_zero, List.getElem?_cons_succ, reduceIte, Nat.add_zero, Nat.zero_add, Nat.add_assoc, Nat.reduceAdd, Nat.reduceMul, Nat.reduceLeDiff, Option.some.injEq, reduceCtorEq, Nat.add_left_cancel_iff, List.map_cons, List.map_nil, List.length_cons, List.length_nil, List.take_succ_cons, List.drop_succ_cons, List.take_zero, List.drop_zero, List.take_nil, List.drop_nil, List.all_cons, List.all_nil, Bool.and_self, Bool.and_true, List.cons_append, List.nil_append, List.append_nil, Int.toNat_natCast, Nat.mul_one, Int.natCast_nonneg, and_self, and_true, true_and, Nat.le_refl, Nat.zero_le, Int.reduceLE, Int.reduceToNat, Ez.minmax, Ez.undefD, Ez.boolV, Ez.unV, Bool.not_true, Bool.not_false, Ez.slcD, Ez.loOf, Ez.hiOf, Nat.reduceSub, ha, e3, e9, e10, e34, hq, hr, hb, g0, g1, t0, t1, t2, t3, hdl, c128, htm, hw, hw2, f1, f2, f3, f4, f5, f6, x1, x2, x3, x4, x5, x6, b2])
  refine sq_nil (wp_condT rfl ?_)
  refine wp_sq ?_
  iterate 5 (refine sq_cons rfl ?_; simp only [Nat.add_eq_left, Nat.left_eq_add, oneW_some, Ez.stepC, Ez.step, Ez.evX, Ez.pureD, Ez.loadD, Ez.storeD, Ez.lenD, Ez.asLit, Ez.asInt, Ez.asBool, getE_cons, Ez.putE, Ez.updH, getH_cons, Ez.iadrD, Ez.rowsOf, Ez.appR, Ez.appD, Ez.srcOf, Ez.cpyD, Ez.frzV, Ez.frz, Ez.frz1, Ez.V.cells, Ez.cellsD, Ez.isCell, Ez.fillP, Ez.rowsy, zeros_one, Ez.litC, Ez.litD, Ez.splice, Ez.scalar, Option.bind_eq_bind, Option.bind_some, if_true, if_false, Option.map_some, Option.map_none, Ez.dInt, Ez.binV, Ez.isShift, Ez.intBin, Nat.reduceEqDiff, Bool.false_eq_true, List.getElem?_cons_zero, List.getElem?_cons_succ, reduceIte, Nat.add_zero, Nat.zero_add, Nat.add_assoc, Nat.reduceAdd, Nat.reduceMul, Nat.reduceLeDiff, Option.some.injEq, reduceCtorEq, Nat.add_left_cancel_iff, List.map_cons, List.map_nil, List.length_cons, List.length_nil, List.take_succ_cons, List.drop_succ_cons, List.take_zero, List.drop_zero, List.take_nil, List.drop_nil, List.all_cons, List.all_nil, Bool.and_self, Bool.and_true, List.cons_append, List.nil_append, List.append_nil, Int.toNat_natCast, Nat.mul_one, Int.natCast_nonneg, and_self, and_true, true_and, Nat.le_refl, Nat.zero_le, Int.reduceLE, Int.reduceToNat, Ez.minmax, Ez.undefD, Ez.boolV, Ez.unV, Bool.not_true, Bool.not_false, Ez.slcD, Ez.loOf, Ez.hiOf, Nat.reduceSub, ha, e3, e9, e10, e34, hq, hr, hb, g0, g1, t0, t1, t2, t3, hdl, c128, htm, hw, hw2, f1, f2, f3, f4, f5, f6, x1, x2, x3, x4, x5, x6])
  refine sq_nil ?_
  have hfr : ∀ x, x ≠ q → getH ((q, .box [.arr rid 0 m, .c (.lit (.bool false)), .c (.lit (.bool false)), .c (.lit (.int .i64 ((at_ : Int) - 100)))]) :: h) x = getH h x := fun x hx => by simp only [getH_cons, show (q = x) = False by simp; exact fun e => hx e.symm, if_false]
  have hrow : getH ((q, .box [.arr rid 0 m, .c (.lit (.bool false)), .c (.lit (.bool false)), .c (.lit (.int .i64 ((at_ : Int) - 100)))]) :: h) rid = .rows ds 3 32 := by rw [hfr rid (fun e => nqr e.symm)]; exact hr
  have hrc : RowsC ((q, .box [.arr rid 0 m, .c (.lit (.bool false)), .c (.lit (.bool false)), .c (.lit (.int .i64 ((at_ : Int) - 100)))]) :: h) ds (l1 ++ s :: l2) := by
    rw [hds]
    exact rows_mid (h1.frame fun x hx => hfr x fun e => nq1 (e ▸ hx)) (h2.frame fun x hx => hfr x fun e => nq2 (e ▸ hx)) o1 o2 (cont_all (by rw [hfr a (fun e => nqa e.symm)]; exact ha) s1) (cont_all (by rw [hfr b (fun e => nqb e.symm)]; exact hb) s2) rfl
  obtain ⟨us, y1, y2, us2, y3⟩ := frz_rows hrow hrc
  have hm : (l1 ++ s :: l2).length = m := by simpa using n3
  rw [hm] at y1 y3
  refine hQ _ (.arr rid 0 m) (l1 ++ s :: l2) false false ((at_ : Int) - 100) us us2 ?_ ?_ y1 ?_ y3
  · simp only [getE_cons, Nat.reduceEqDiff, if_false, if_true, e9]
  · simp only [getH_cons, if_true, if_false, x1, x2, x3, x4, hq]; try rfl
  · intro p hp
    rcases y2 p hp with y | y
    · rw [y]; exact fun e => nqr e.symm
    · exact ids p.1 y

theorem w4_3 {F : Tab} {Q : Ex → St → Prop} {e : Env} {h : Heap} {N q rid a b k m at_ j : Nat} {i1 i2 : List (Nat × Nat)} {l1 l2 : List Sec} {s : Sec} {ds : List D}
    (e3 : getE e 3 = .c (.lit (.int .u8 (at_ : Int)))) (e9 : getE e 9 = .loc q 0) (e10 : getE e 10 = .c (.lit (.int .i64 (k : Int)))) (e34 : getE e 34 = .c (.lit (.int .u8 3)))
    (hq : getH h q = .box [.arr rid 0 m, .c (.lit (.bool false)), .c (.lit (.bool false)), .c (.lit (.int .i64 0))]) (hr : getH h rid = .rows ds 3 32) (hds : ds = rowD i1 l1 ++ .arr a 0 128 :: .arr b 0 128 :: .c (boolC s.fresh) :: rowD i2 l2)
    (n1 : i1.length = l1.length) (n2 : l1.length = k) (n3 : (l1 ++ s :: l2).length = m) (h1 : Held h i1 l1) (h2 : Held h i2 l2) (o1 : Okay l1) (o2 : Okay l2) (s1 : s.sure.length = 128) (s2 : s.data.length = 128)
    (ha : getH h a = .arr (bytesC s.sure) 1 0 5) (hb : getH h b = .arr (bytesC s.data) 1 0 5) (nd : (q :: rid :: a :: b :: (flat i1 ++ flat i2)).Nodup) (hat : at_ < 256) (hj : j = at_ % 128)
    (hQ : ∀ (t : St) (X : D) (l : List Sec) (d ar : Bool) (le : Int) (us us2 : List (Nat × Ez.Obj)), getE t.env 9 = .loc q 0 → getH t.heap q = .box [X, .c (boolC d), .c (boolC ar), .c (intC le)] → frz t.heap X = some (secsS l, us) → (∀ p ∈ us, p.1 ≠ q) → frz (updH t.heap us) X = some (secsS l, us2) → Q .normal t) : WP F W4 ⟨e, h, N⟩ Q := by
  have hlen := rowD_len n1
  rw [n2] at hlen
  simp only [List.nodup_cons, List.mem_cons, List.mem_append, not_or] at nd
  obtain ⟨⟨nqr, nqa, nqb, nq1, nq2⟩, ⟨nra, nrb, nr1, nr2⟩, ⟨nab, na1, na2⟩, ⟨nb1, nb2⟩, nd12⟩ := nd
  have g0 : ds[k * 3]? = some (.arr a 0 128) := by rw [hds, List.getElem?_append_right (by omega), hlen, Nat.sub_self]; rfl
  have g1 : ds[k * 3 + 1]? = some (.arr b 0 128) := by rw [hds, List.getElem?_append_right (by omega), hlen, Nat.add_sub_cancel_left]; rfl
  have t0 : ds.take (k * 3) = rowD i1 l1 := by rw [hds, List.take_append_of_le_length (by omega), List.take_of_length_le (by omega)]
  have t1 : ds.drop (k * 3 + 1) = .arr b 0 128 :: .c (boolC s.fresh) :: rowD i2 l2 := by rw [hds, List.drop_append, hlen, List.drop_eq_nil_of_le (by omega), Nat.add_sub_cancel_left]; rfl
  have t2 : ds.take (k * 3 + 2) = rowD i1 l1 ++ [.arr a 0 128, .arr b 0 128] := by rw [hds, List.take_append, hlen, List.take_of_length_le (by omega), Nat.add_sub_cancel_left]; rfl
  have t3 : ds.drop (k * 3 + 3) = rowD i2 l2 := by rw [hds, List.drop_append, hlen, List.drop_eq_nil_of_le (by omega), Nat.add_sub_cancel_left]; rfl
  have hdl : ds.length = m * 3 := by rw [hds, List.length_append, hlen, ← n3]; simp [rowD_len h2.len]; omega
  have hkm : k < m := by rw [← n3, List.length_append, n2]; simp
  have hj128 : j < 128 := by omega
  have c128 : ((128 : Int) = 0) = False := by simp
  have htm : (at_ : Int).tmod 128 = (j : Int) := by rw [hj]; rfl
  have hw : IntKind.wrap .i64 (at_ : Int) = (at_ : Int) := Go.Proofs.Ytfphnpelampoeaa.wrap_i64 _ (by omega)
  have hw2 : IntKind.wrap .i64 ((at_ : Int) - 100) = (at_ : Int) - 100 := Go.Proofs.Ytfphnpelampoeaa.wrap_i64 _ (by omega)
  have f1 : ((k : Int) < (m : Int)) = True := by simpa using hkm
  have f2 : ((j : Int) < ((128 : Nat) : Int)) = True := by simp; omega
  have f3 : (bytesC s.data).length = 128 := by rw [bytesC_len]; exact s2
  have f4 : (j + 1 ≤ 128) = True := by simp; omega
  have f5 : (k * 3 + 3 ≤ m * 3) = True := by simp; omega
  have f6 : (k * 3 + 1 ≤ m * 3) = True := by simp; omega
  have x1 : (q = rid) = False := by simpa using nqr
  have x2 : (rid = q) = False := by simpa using fun e : rid = q => nqr e.symm
  have x3 : (b = q) = False := by simpa using fun e : b = q => nqb e.symm
  have x4 : (b = rid) = False := by simpa using fun e : b = rid => nrb e.symm
  have x5 : (q = b) = False := by simpa using nqb
  have x6 : (rid = b) = False := by simpa using nrb
  have ids : ∀ x, x ∈ arrIds ds → x ≠ q := by
    intro x hx
    rw [hds, arrIds_flat, List.flatMap_append, ← arrIds_flat, ← arrIds_flat] at hx
    simp only [arrIds, List.mem_append, List.mem_cons] at hx
    rcases hx with hx | hx | hx | hx
    · exact fun e => nq1 (e ▸ arrIds_rowD x hx)
    · rw [hx]; exact fun e => nqa e.symm
    · rw [hx]; exact fun e => nqb e.symm
    · exact fun e => nq2 (e ▸ arrIds_rowD x hx)
  have b0 : ((3 : Int) == 0) = false := rfl
  have b1 : ((3 : Int) == 1) = false := rfl
  have b2 : ((3 : Int) == 2) = false := rfl
  have b3 : ((3 : Int) == 3) = true := rfl
  simp only [W4, I4]
  refine wp_block ?_
  refine wp_seq (wp_sq ?_)
  iterate 2 (refine sq_cons rfl ?_; simp only [Nat.add_eq_left, Nat.left_eq_add, oneW_some, Ez.stepC, Ez.step, Ez.evX, Ez.pureD, Ez.loadD, Ez.storeD, Ez.lenD, Ez.asLit, Ez.asInt, Ez.asBool, getE_cons, Ez.putE, Ez.updH, getH_cons, Ez.iadrD, Ez.rowsOf, Ez.appR, Ez.appD, Ez.srcOf, Ez.cpyD, Ez.frzV, Ez.frz, Ez.frz1, Ez.V.cells, Ez.cellsD, Ez.isCell, Ez.fillP, Ez.rowsy, zeros_one, Ez.litC, Ez.litD, Ez.splice, Ez.scalar, Option.bind_eq_bind, Option.bind_some, if_true, if_false, Option.map_some, Option.map_none, Ez.dInt, Ez.binV, Ez.isShift, Ez.intBin, Nat.reduceEqDiff, Bool.false_eq_true, List.getElem?_cons_zero, List.getElem?_cons_succ, reduceIte, Nat.add_zero, Nat.zero_add, Nat.add_assoc, Nat.reduceAdd, Nat.reduceMul, Nat.reduceLeDiff, Option.some.injEq, reduceCtorEq, Nat.add_left_cancel_iff, List.map_cons, List.map_nil, List.length_cons, List.length_nil, List.take_succ_cons, List.drop_succ_cons, List.take_zero, List.drop_zero, List.take_nil, List.drop_nil, List.all_cons, List.all_nil, Bool.and_self, Bool.and_true, List.cons_append, List.nil_append, List.append_nil, Int.toNat_natCast, Nat.mul_one, Int.natCast_nonneg, and_self, and_true, true_and, Nat.le_refl, Nat.zero_le, Int.reduceLE, Int.reduceToNat, Ez.minmax, Ez.undefD, Ez.boolV, Ez.unV, Bool.not_true, Bool.not_false, Ez.slcD, Ez.loOf, Ez.hiOf, Nat.reduceSub, ha, e3, e9, e10, e34, hq, hr, hb, g0, g1, t0, t1, t2, t3, hdl, c128, htm, hw, hw2, f1, f2, f3, f4, f5, f6, x1, x2, x3, x4, x5, x6, b0])
  refine sq_nil (wp_condF rfl ?_)
  refine wp_seq (wp_sq ?_)
  iterate 2 (refine sq_cons rfl ?_; simp only [Nat.add_eq_left, Nat.left_eq_add, oneW_some, Ez.stepC, Ez.step, Ez.evX, Ez.pureD, Ez.loadD, Ez.storeD, Ez.lenD, Ez.asLit, Ez.asInt, Ez.asBool, getE_cons, Ez.putE, Ez.updH, getH_cons, Ez.iadrD, Ez.rowsOf, Ez.appR, Ez.appD, Ez.srcOf, Ez.cpyD, Ez.frzV, Ez.frz, Ez.frz1, Ez.V.cells, Ez.cellsD, Ez.isCell, Ez.fillP, Ez.rowsy, zeros_one, Ez.litC, Ez.litD, Ez.splice, Ez.scalar, Option.bind_eq_bind, Option.bind_some, if_true, if_false, Option.map_some, Option.map_none, Ez.dInt, Ez.binV, Ez.isShift, Ez.intBin, Nat.reduceEqDiff, Bool.false_eq_true, List.getElem?_cons_zero, List.getElem?_cons_succ, reduceIte, Nat.add_zero, Nat.zero_add, Nat.add_assoc, Nat.reduceAdd, Nat.reduceMul, Nat.reduceLeDiff, Option.some.injEq, reduceCtorEq, Nat.add_left_cancel_iff, List.map_cons, List.map_nil, List.length_cons, List.length_nil, List.take_succ_cons, List.drop_succ_cons, List.take_zero, List.drop_zero, List.take_nil, List.drop_nil, List.all_cons, List.all_nil, Bool.and_self, Bool.and_true, List.cons_append, List.nil_append, List.append_nil, Int.toNat_natCast, Nat.mul_one, Int.natCast_nonneg, and_self, and_true, true_and, Nat.le_refl, Nat.zero_le, Int.reduceLE, Int.reduceToNat, Ez.minmax, Ez.undefD, Ez.boolV, Ez.unV, Bool.not_true, Bool.not_false, Ez.slcD, Ez.loOf, Ez.hiOf, Nat.reduceSub, ha, e3, e9, e10, e34, hq, hr, hb, g0, g1, t0, t1, t2, t3, hdl, c128, htm, hw, hw2, f1, f2, f3, f4, f5, f6, x1, x2, x3, x4, x5, x6, b1])
  refine sq_nil (wp_condF rfl ?_)
  refine wp_seq (wp_sq ?_)
  iterate 2 (refine sq_cons rfl ?_; simp only [Nat.add_eq_left, Nat.left_eq_add, oneW_some, Ez.stepC, Ez.step, Ez.evX, Ez.pureD, Ez.loadD, Ez.storeD, Ez.lenD, Ez.asLit, Ez.asInt, Ez.asBool, getE_cons, Ez.putE, Ez.updH, getH_cons, Ez.iadrD, Ez.rowsOf, Ez.appR, Ez.appD, Ez.srcOf, Ez.cpyD, Ez.frzV, Ez.frz, Ez.frz1, Ez.V.cells, Ez.cellsD, Ez.isCell, Ez.fillP, Ez.rowsy, zeros_one, Ez.litC, Ez.litD, Ez.splice, Ez.scalar, Option.bind_eq_bind, Option.bind_some, if_true, if_false, Option.map_some, Option.map_none, Ez.dInt, Ez.binV, Ez.isShift, Ez.intBin, Nat.reduceEqDiff, Bool.false_eq_true, List.getElem?_cons_zero, List.getElem?_cons_succ, reduceIte, Nat.add_zero, Nat.zero_add, Nat.add_assoc, Nat.reduceAdd, Nat.reduceMul, Nat.reduceLeDiff, Option.some.injEq, reduceCtorEq, Nat.add_left_cancel_iff, List.map_cons, List.map_nil, List.length_cons, List.length_nil, List.take_succ_cons, List.drop_succ_cons, List.take_zero, List.drop_zero, List.take_nil, List.drop_nil, List.all_cons, List.all_nil, Bool.and_self, Bool.and_true, List.cons_append, List.nil_append, List.append_nil, Int.toNat_natCast, Nat.mul_one, Int.natCast_nonneg, and_self, and_true, true_and, Nat.le_refl, Nat.zero_le, Int.reduceLE, Int.reduceToNat, Ez.minmax, Ez.undefD, Ez.boolV, Ez.unV, Bool.not_true, Bool.not_false, Ez.slcD, Ez.loOf, Ez.hiOf, Nat.reduceSub, ha, e3, e9, e10, e34, hq, hr, hb, g0, g1, t0, t1, t2, t3, hdl, c128, htm, hw, hw2, f1, f2, f3, f4, f5, f6, x1, x2, x3, x4, x5, x6, b2])
  refine sq_nil (wp_condF rfl ?_)
  refine wp_seq (wp_sq ?_)
  iterate 2 (refine sq_cons rfl ?_; simp only [Nat.add_eq_left, Nat.left_eq_add, oneW_some, Ez.stepC, Ez.step, Ez.evX, Ez.pureD, Ez.loadD, Ez.storeD, Ez.lenD, Ez.asLit, Ez.asInt, Ez.asBool, getE_cons, Ez.putE, Ez.updH, getH_cons, Ez.iadrD, Ez.rowsOf, Ez.appR, Ez.appD, Ez.srcOf, Ez.cpyD, Ez.frzV, Ez.frz, Ez.frz1, Ez.V.cells, Ez.cellsD, Ez.isCell, Ez.fillP, Ez.rowsy, zeros_one, Ez.litC, Ez.litD, Ez.splice, Ez.scalar, Option.bind_eq_bind, Option.bind_some, if_true, if_false, Option.map_some, Option.map_none, Ez.dInt, Ez.binV, Ez.isShift, Ez.intBin, Nat.reduceEqDiff, Bool.false_eq_true, List.getElem?_cons_zero, List.getElem?_cons_succ, reduceIte, Nat.add_zero, Nat.zero_add, Nat.add_assoc, Nat.reduceAdd, Nat.reduceMul, Nat.reduceLeDiff, Option.some.injEq, reduceCtorEq, Nat.add_left_cancel_iff, List.map_cons, List.map_nil, List.length_cons, List.length_nil, List.take_succ_cons, List.drop_succ_cons, List.take_zero, List.drop_zero, List.take_nil, List.drop_nil, List.all_cons, List.all_nil, Bool.and_self, Bool.and_true, List.cons_append, List.nil_append, List.append_nil, Int.toNat_natCast, Nat.mul_one, Int.natCast_nonneg, and_self, and_true, true_and, Nat.le_refl, Nat.zero_le, Int.reduceLE, Int.reduceToNat, Ez.minmax, Ez.undefD, Ez.boolV, Ez.unV, Bool.not_true, Bool.not_false, Ez.slcD, Ez.loOf, Ez.hiOf, Nat.reduceSub, ha, e3, e9, e10, e34, hq, hr, hb, g0, g1, t0, t1, t2, t3, hdl, c128, htm, hw, hw2, f1, f2, f3, f4, f5, f6, x1, x2, x3, x4, x5, x6, b3])
  refine sq_nil (wp_condT rfl ?_)
  refine wp_sq ?_
  iterate 7 (refine sq_cons rfl ?_; simp only [Nat.add_eq_left, Nat.left_eq_add, oneW_some, Ez.stepC, Ez.step, Ez.evX, Ez.pureD, Ez.loadD, Ez.storeD, Ez.lenD, Ez.asLit, Ez.asInt, Ez.asBool, getE_cons, Ez.putE, Ez.updH, getH_cons, Ez.iadrD, Ez.rowsOf, Ez.appR, Ez.appD, Ez.srcOf, Ez.cpyD, Ez.frzV, Ez.frz, Ez.frz1, Ez.V.cells, Ez.cellsD, Ez.isCell, Ez.fillP, Ez.rowsy, zeros_one, Ez.litC, Ez.litD, Ez.splice, Ez.scalar, Option.bind_eq_bind, Option.bind_some, if_true, if_false, Option.map_some, Option.map_none, Ez.dInt, Ez.binV, Ez.isShift, Ez.intBin, Nat.reduceEqDiff, Bool.false_eq_true, List.getElem?_cons_zero, List.getElem?_cons_succ, reduceIte, Nat.add_zero, Nat.zero_add, Nat.add_assoc, Nat.reduceAdd, Nat.reduceMul, Nat.reduceLeDiff, Option.some.injEq, reduceCtorEq, Nat.add_left_cancel_iff, List.map_cons, List.map_nil, List.length_cons, List.length_nil, List.take_succ_cons, List.drop_succ_cons, List.take_zero, List.drop_zero, List.take_nil, List.drop_nil, List.all_cons, List.all_nil, Bool.and_self, Bool.and_true, List.cons_append, List.nil_append, List.append_nil, Int.toNat_natCast, Nat.mul_one, Int.natCast_nonneg, and_self, and_true, true_and, Nat.le_refl, Nat.zero_le, Int.reduceLE, Int.reduceToNat, Ez.minmax, Ez.undefD, Ez.boolV, Ez.unV, Bool.not_true, Bool.not_false, Ez.slcD, Ez.loOf, Ez.hiOf, Nat.reduceSub, ha, e3, e9, e10, e34, hq, hr, hb, g0, g1, t0, t1, t2, t3, hdl, c128, htm, hw, hw2, f1, f2, f3, f4, f5, f6, x1, x2, x3, x4, x5, x6])
  refine sq_nil ?_
  have hfr : ∀ x, x ≠ q → getH ((q, .box [.arr rid 0 m, .c (.lit (.bool false)), .c (.lit (.bool true)), .c (.lit (.int .i64 ((at_ : Int) - 100)))]) :: (q, .box [.arr rid 0 m, .c (.lit (.bool false)), .c (.lit (.bool true)), .c (.lit (.int .i64 0))]) :: h) x = getH h x := fun x hx => by simp only [getH_cons, show (q = x) = False by simp; exact fun e => hx e.symm, if_false]
  have hrow : getH ((q, .box [.arr rid 0 m, .c (.lit (.bool false)), .c (.lit (.bool true)), .c (.lit (.int .i64 ((at_ : Int) - 100)))]) :: (q, .box [.arr rid 0 m, .c (.lit (.bool false)), .c (.lit (.bool true)), .c (.lit (.int .i64 0))]) :: h) rid = .rows ds 3 32 := by rw [hfr rid (fun e => nqr e.symm)]; exact hr
  have hrc : RowsC ((q, .box [.arr rid 0 m, .c (.lit (.bool false)), .c (.lit (.bool true)), .c (.lit (.int .i64 ((at_ : Int) - 100)))]) :: (q, .box [.arr rid 0 m, .c (.lit (.bool false)), .c (.lit (.bool true)), .c (.lit (.int .i64 0))]) :: h) ds (l1 ++ s :: l2) := by
    rw [hds]
    exact rows_mid (h1.frame fun x hx => hfr x fun e => nq1 (e ▸ hx)) (h2.frame fun x hx => hfr x fun e => nq2 (e ▸ hx)) o1 o2 (cont_all (by rw [hfr a (fun e => nqa e.symm)]; exact ha) s1) (cont_all (by rw [hfr b (fun e => nqb e.symm)]; exact hb) s2) rfl
  obtain ⟨us, y1, y2, us2, y3⟩ := frz_rows hrow hrc
  have hm : (l1 ++ s :: l2).length = m := by simpa using n3
  rw [hm] at y1 y3
  refine hQ _ (.arr rid 0 m) (l1 ++ s :: l2) false true ((at_ : Int) - 100) us us2 ?_ ?_ y1 ?_ y3
  · simp only [getE_cons, Nat.reduceEqDiff, if_false, if_true, e9]
  · simp only [getH_cons, if_true, if_false, x1, x2, x3, x4, hq]; try rfl
  · intro p hp
    rcases y2 p hp with y | y
    · rw [y]; exact fun e => nqr e.symm
    · exact ids p.1 y

theorem w4_4 {F : Tab} {Q : Ex → St → Prop} {e : Env} {h : Heap} {N q rid a b k m at_ j : Nat} {i1 i2 : List (Nat × Nat)} {l1 l2 : List Sec} {s : Sec} {ds : List D}
    (e3 : getE e 3 = .c (.lit (.int .u8 (at_ : Int)))) (e9 : getE e 9 = .loc q 0) (e10 : getE e 10 = .c (.lit (.int .i64 (k : Int)))) (e34 : getE e 34 = .c (.lit (.int .u8 4)))
    (hq : getH h q = .box [.arr rid 0 m, .c (.lit (.bool false)), .c (.lit (.bool false)), .c (.lit (.int .i64 0))]) (hr : getH h rid = .rows ds 3 32) (hds : ds = rowD i1 l1 ++ .arr a 0 128 :: .arr b 0 128 :: .c (boolC s.fresh) :: rowD i2 l2)
    (n1 : i1.length = l1.length) (n2 : l1.length = k) (n3 : (l1 ++ s :: l2).length = m) (h1 : Held h i1 l1) (h2 : Held h i2 l2) (o1 : Okay l1) (o2 : Okay l2) (s1 : s.sure.length = 128) (s2 : s.data.length = 128)
    (ha : getH h a = .arr (bytesC s.sure) 1 0 5) (hb : getH h b = .arr (bytesC s.data) 1 0 5) (nd : (q :: rid :: a :: b :: (flat i1 ++ flat i2)).Nodup) (hat : at_ < 256) (hj : j = at_ % 128)
    (hQ : ∀ (t : St) (X : D) (l : List Sec) (d ar : Bool) (le : Int) (us us2 : List (Nat × Ez.Obj)), getE t.env 9 = .loc q 0 → getH t.heap q = .box [X, .c (boolC d), .c (boolC ar), .c (intC le)] → frz t.heap X = some (secsS l, us) → (∀ p ∈ us, p.1 ≠ q) → frz (updH t.heap us) X = some (secsS l, us2) → Q .normal t) : WP F W4 ⟨e, h, N⟩ Q := by
  have hlen := rowD_len n1
  rw [n2] at hlen
  simp only [List.nodup_cons, List.mem_cons, List.mem_append, not_or] at nd
  obtain ⟨⟨nqr, nqa, nqb, nq1, nq2⟩, ⟨nra, nrb, nr1, nr2⟩, ⟨nab, na1, na2⟩, ⟨nb1, nb2⟩, nd12⟩ := nd
  have g0 : ds[k * 3]? = some (.arr a 0 128) := by rw [hds, List.getElem?_append_right (by omega), hlen, Nat.sub_self]; rfl
  have g1 : ds[k * 3 + 1]? = some (.arr b 0 128) := by rw [hds, List.getElem?_append_right (by omega), hlen, Nat.add_sub_cancel_left]; rfl
  have t0 : ds.take (k * 3) = rowD i1 l1 := by rw [hds, List.take_append_of_le_length (by omega), List.take_of_length_le (by omega)]
  have t1 : ds.drop (k * 3 + 1) = .arr b 0 128 :: .c (boolC s.fresh) :: rowD i2 l2 := by rw [hds, List.drop_append, hlen, List.drop_eq_nil_of_le (by omega), Nat.add_sub_cancel_left]; rfl
  have t2 : ds.take (k * 3 + 2) = rowD i1 l1 ++ [.arr a 0 128, .arr b 0 128] := by rw [hds, List.take_append, hlen, List.take_of_length_le (by omega), Nat.add_sub_cancel_left]; rfl
  have t3 : ds.drop (k * 3 + 3) = rowD i2 l2 := by rw [hds, List.drop_append, hlen, List.drop_eq_nil_of_le (by omega), Nat.add_sub_cancel_left]; rfl
  have hdl : ds.length = m * 3 := by rw [hds, List.length_append, hlen, ← n3]; simp [rowD_len h2.len]; omega
  have hkm : k < m := by rw [← n3, List.length_append, n2]; simp
  have hj128 : j < 128 := by omega
  have c128 : ((128 : Int) = 0) = False := by simp
  have htm : (at_ : Int).tmod 128 = (j : Int) := by rw [hj]; rfl
  have hw : IntKind.wrap .i64 (at_ : Int) = (at_ : Int) := Go.Proofs.Ytfphnpelampoeaa.wrap_i64 _ (by omega)
  have hw2 : IntKind.wrap .i64 ((at_ : Int) - 100) = (at_ : Int) - 100 := Go.Proofs.Ytfphnpelampoeaa.wrap_i64 _ (by omega)
  have f1 : ((k : Int) < (m : Int)) = True := by simpa using hkm
  have f2 : ((j : Int) < ((128 : Nat) : Int)) = True := by simp; omega
  have f3 : (bytesC s.data).length = 128 := by rw [bytesC_len]; exact s2
  have f4 : (j + 1 ≤ 128) = True := by simp; omega
  have f5 : (k * 3 + 3 ≤ m * 3) = True := by simp; omega
  have f6 : (k * 3 + 1 ≤ m * 3) = True := by simp; omega
  have x1 : (q = rid) = False := by simpa using nqr
  have x2 : (rid = q) = False := by simpa using fun e : rid = q => nqr e.symm
  have x3 : (b = q) = False := by simpa using fun e : b = q => nqb e.symm
  have x4 : (b = rid) = False := by simpa using fun e : b = rid => nrb e.symm
  have x5 : (q = b) = False := by simpa using nqb
  have x6 : (rid = b) = False := by simpa using nrb
  have ids : ∀ x, x ∈ arrIds ds → x ≠ q := by
    intro x hx
    rw [hds, arrIds_flat, List.flatMap_append, ← arrIds_flat, ← arrIds_flat] at hx
    simp only [arrIds, List.mem_append, List.mem_cons] at hx
    rcases hx with hx | hx | hx | hx
    · exact fun e => nq1 (e ▸ arrIds_rowD x hx)
    · rw [hx]; exact fun e => nqa e.symm
    · rw [hx]; exact fun e => nqb e.symm
    · exact fun e => nq2 (e ▸ arrIds_rowD x hx)
  have b0 : ((4 : Int) == 0) = false := rfl
  have b1 : ((4 : Int) == 1) = false := rfl
  have b2 : ((4 : Int) == 2) = false := rfl
  have b3 : ((4 : Int) == 3) = false := rfl
  have b4 : ((4 : Int) == 4) = true := rfl
  simp only [W4, I4]
  refine wp_block ?_
  refine wp_seq (wp_sq ?_)
  iterate 2 (refine sq_cons rfl ?_; simp only [Nat.add_eq_left, Nat.left_eq_add, oneW_some, Ez.stepC, Ez.step, Ez.evX, Ez.pureD, Ez.loadD, Ez.storeD, Ez.lenD, Ez.asLit, Ez.asInt, Ez.asBool, getE_cons, Ez.putE, Ez.updH, getH_cons, Ez.iadrD, Ez.rowsOf, Ez.appR, Ez.appD, Ez.srcOf, Ez.cpyD, Ez.frzV, Ez.frz, Ez.frz1, Ez.V.cells, Ez.cellsD, Ez.isCell, Ez.fillP, Ez.rowsy, zeros_one, Ez.litC, Ez.litD, Ez.splice, Ez.scalar, Option.bind_eq_bind, Option.bind_some, if_true, if_false, Option.map_some, Option.map_none, Ez.dInt, Ez.binV, Ez.isShift, Ez.intBin, Nat.reduceEqDiff, Bool.false_eq_true, List.getElem?_cons_zero, List.getElem?_cons_succ, reduceIte, Nat.add_zero, Nat.zero_add, Nat.add_assoc, Nat.reduceAdd, Nat.reduceMul, Nat.reduceLeDiff, Option.some.injEq, reduceCtorEq, Nat.add_left_cancel_iff, List.map_cons, List.map_nil, List.length_cons, List.length_nil, List.take_succ_cons, List.drop_succ_cons, List.take_zero, List.drop_zero, List.take_nil, List.drop_nil, List.all_cons, List.all_nil, Bool.and_self, Bool.and_true, List.cons_append, List.nil_append, List.append_nil, Int.toNat_natCast, Nat.mul_one, Int.natCast_nonneg, and_self, and_true, true_and, Nat.le_refl, Nat.zero_le, Int.reduceLE, Int.reduceToNat, Ez.minmax, Ez.undefD, Ez.boolV, Ez.unV, Bool.not_true, Bool.not_false, Ez.slcD, Ez.loOf, Ez.hiOf, Nat.reduceSub, ha, e3, e9, e10, e34, hq, hr, hb, g0, g1, t0, t1, t2, t3, hdl, c128, htm, hw, hw2, f1, f2, f3, f4, f5, f6, x1, x2, x3, x4, x5, x6, b0])
  refine sq_nil (wp_condF rfl ?_)
  refine wp_seq (wp_sq ?_)
  iterate 2 (refine sq_cons rfl ?_; simp only [Nat.add_eq_left, Nat.left_eq_add, oneW_some, Ez.stepC, Ez.step, Ez.evX, Ez.pureD, Ez.loadD, Ez.storeD, Ez.lenD, Ez.asLit, Ez.asInt, Ez.asBool, getE_cons, Ez.putE, Ez.updH, getH_cons, Ez.iadrD, Ez.rowsOf, Ez.appR, Ez.appD, Ez.srcOf, Ez.cpyD, Ez.frzV, Ez.frz, Ez.frz1, Ez.V.cells, Ez.cellsD, Ez.isCell, Ez.fillP, Ez.rowsy, zeros_one, Ez.litC, Ez.litD, Ez.splice, Ez.scalar, Option.bind_eq_bind, Option.bind_some, if_true, if_false, Option.map_some, Option.map_none, Ez.dInt, Ez.binV, Ez.isShift, Ez.intBin, Nat.reduceEqDiff, Bool.false_eq_true, List.getElem?_cons_zero, List.getElem?_cons_succ, reduceIte, Nat.add_zero, Nat.zero_add, Nat.add_assoc, Nat.reduceAdd, Nat.reduceMul, Nat.reduceLeDiff, Option.some.injEq, reduceCtorEq, Nat.add_left_cancel_iff, List.map_cons, List.map_nil, List.length_cons, List.length_nil, List.take_succ_cons, List.drop_succ_cons, List.take_zero, List.drop_zero, List.take_nil, List.drop_nil, List.all_cons, List.all_nil, Bool.and_self, Bool.and_true, List.cons_append, List.nil_append, List.append_nil, Int.toNat_natCast, Nat.mul_one, Int.natCast_nonneg, and_self, and_true, true_and, Nat.le_refl, Nat.zero_le, Int.reduceLE, Int.reduceToNat, Ez.minmax, Ez.undefD, Ez.boolV, Ez.unV, Bool.not_true, Bool.not_false, Ez.slcD, Ez.loOf, Ez.hiOf, Nat.reduceSub, ha, e3, e9, e10, e34, hq, hr, hb, g0, g1, t0, t1, t2, t3, hdl, c128, htm, hw, hw2, f1, f2, f3, f4, f5, f6, x1, x2, x3, x4, x5, x6, b1])
  refine sq_nil (wp_condF rfl ?_)
  refine wp_seq (wp_sq ?_)
  iterate 2 (refine sq_cons rfl ?_; simp only [Nat.add_eq_left, Nat.left_eq_add, oneW_some, Ez.stepC, Ez.step, Ez.evX, Ez.pureD, Ez.loadD, Ez.storeD, Ez.lenD, Ez.asLit, Ez.asInt, Ez.asBool, getE_cons, Ez.putE, Ez.updH, getH_cons, Ez.iadrD, Ez.rowsOf, Ez.appR, Ez.appD, Ez.srcOf, Ez.cpyD, Ez.frzV, Ez.frz, Ez.frz1, Ez.V.cells, Ez.cellsD, Ez.isCell, Ez.fillP, Ez.rowsy, zeros_one, Ez.litC, Ez.litD, Ez.splice, Ez.scalar, Option.bind_eq_bind, Option.bind_some, if_true, if_false, Option.map_some, Option.map_none, Ez.dInt, Ez.binV, Ez.isShift, Ez.intBin, Nat.reduceEqDiff, Bool.false_eq_true, List.getElem?_cons_zero, List.getElem?_cons_succ, reduceIte, Nat.add_zero, Nat.zero_add, Nat.add_assoc, Nat.reduceAdd, Nat.reduceMul, Nat.reduceLeDiff, Option.some.injEq, reduceCtorEq, Nat.add_left_cancel_iff, List.map_cons, List.map_nil, List.length_cons, List.length_nil, List.take_succ_cons, List.drop_succ_cons, List.take_zero, List.drop_zero, List.take_nil, List.drop_nil, List.all_cons, List.all_nil, Bool.and_self, Bool.and_true, List.cons_append, List.nil_append, List.append_nil, Int.toNat_natCast, Nat.mul_one, Int.natCast_nonneg, and_self, and_true, true_and, Nat.le_refl, Nat.zero_le, Int.reduceLE, Int.reduceToNat, Ez.minmax, Ez.undefD, Ez.boolV, Ez.unV, Bool.not_true, Bool.not_false, Ez.slcD, Ez.loOf, Ez.hiOf, Nat.reduceSub, ha, e3, e9, e10, e34, hq, hr, hb, g0, g1, t0, t1, t2, t3, hdl, c128, htm, hw, hw2, f1, f2, f3, f4, f5, f6, x1, x2, x3, x4, x5, x6, b2])
  refine sq_nil (wp_condF rfl ?_)
  refine wp_seq (wp_sq ?_)
  iterate 2 (refine sq_cons rfl ?_; simp only [Nat.add_eq_left, Nat.left_eq_add, oneW_some, Ez.stepC, Ez.step, Ez.evX, Ez.pureD, Ez.loadD, Ez.storeD, Ez.lenD, Ez.asLit, Ez.asInt, Ez.asBool, getE_cons, Ez.putE, Ez.updH, getH_cons, Ez.iadrD, Ez.rowsOf, Ez.appR, Ez.appD, Ez.srcOf, Ez.cpyD, Ez.frzV, Ez.frz, Ez.frz1, Ez.V.cells, Ez.cellsD, Ez.isCell, Ez.fillP, Ez.rowsy, zeros_one, Ez.litC, Ez.litD, Ez.splice, Ez.scalar, Option.bind_eq_bind, Option.bind_some, if_true, if_false, Option.map_some, Option.map_none, Ez.dInt, Ez.binV, Ez.isShift, Ez.intBin, Nat.reduceEqDiff, Bool.false_eq_true, List.getElem?_cons_zero, List.getElem?_cons_succ, reduceIte, Nat.add_zero, Nat.zero_add, Nat.add_assoc, Nat.reduceAdd, Nat.reduceMul, Nat.reduceLeDiff, Option.some.injEq, reduceCtorEq, Nat.add_left_cancel_iff, List.map_cons, List.map_nil, List.length_cons, List.length_nil, List.take_succ_cons, List.drop_succ_cons, List.take_zero, List.drop_zero, List.take_nil, List.drop_nil, List.all_cons, List.all_nil, Bool.and_self, Bool.and_true, List.cons_append, List.nil_append, List.append_nil, Int.toNat_natCast, Nat.mul_one, Int.natCast_nonneg, and_self, and_true, true_and, Nat.le_refl, Nat.zero_le, Int.reduceLE, Int.reduceToNat, Ez.minmax, Ez.undefD, Ez.boolV, Ez.unV, Bool.not_true, Bool.not_false, Ez.slcD, Ez.loOf, Ez.hiOf, Nat.reduceSub, ha, e3, e9, e10, e34, hq, hr, hb, g0, g1, t0, t1, t2, t3, hdl, c128, htm, hw, hw2, f1, f2, f3, f4, f5, f6, x1, x2, x3, x4, x5, x6, b3])
  refine sq_nil (wp_condF rfl ?_)
  refine wp_seq (wp_sq ?_)
  iterate 2 (refine sq_cons rfl ?_; simp only [Nat.add_eq_left, Nat.left_eq_add, oneW_some, Ez.stepC, Ez.step, Ez.evX, Ez.pureD, Ez.loadD, Ez.storeD, Ez.lenD, Ez.asLit, Ez.asInt, Ez.asBool, getE_cons, Ez.putE, Ez.updH, getH_cons, Ez.iadrD, Ez.rowsOf, Ez.appR, Ez.appD, Ez.srcOf, Ez.cpyD, Ez.frzV, Ez.frz, Ez.frz1, Ez.V.cells, Ez.cellsD, Ez.isCell, Ez.fillP, Ez.rowsy, zeros_one, Ez.litC, Ez.litD, Ez.splice, Ez.scalar, Option.bind_eq_bind, Option.bind_some, if_true, if_false, Option.map_some, Option.map_none, Ez.dInt, Ez.binV, Ez.isShift, Ez.intBin, Nat.reduceEqDiff, Bool.false_eq_true, List.getElem?_cons_zero, List.getElem?_cons_succ, reduceIte, Nat.add_zero, Nat.zero_add, Nat.add_assoc, Nat.reduceAdd, Nat.reduceMul, Nat.reduceLeDiff, Option.some.injEq, reduceCtorEq, Nat.add_left_cancel_iff, List.map_cons, List.map_nil, List.length_cons, List.length_nil, List.take_succ_cons, List.drop_succ_cons, List.take_zero, List.drop_zero, List.take_nil, List.drop_nil, List.all_cons, List.all_nil, Bool.and_self, Bool.and_true, List.cons_append, List.nil_append, List.append_nil, Int.toNat_natCast, Nat.mul_one, Int.natCast_nonneg, and_self, and_true, true_and, Nat.le_refl, Nat.zero_le, Int.reduceLE, Int.reduceToNat, Ez.minmax, Ez.undefD, Ez.boolV, Ez.unV, Bool.not_true, Bool.not_false, Ez.slcD, Ez.loOf, Ez.hiOf, Nat.reduceSub, ha, e3, e9, e10, e34, hq, hr, hb, g0, g1, t0, t1, t2, t3, hdl, c128, htm, hw, hw2, f1, f2, f3, f4, f5, f6, x1, x2, x3, x4, x5, x6, b4])
  refine sq_nil (wp_condT rfl ?_)
  refine wp_dr ?_
  iterate 13 (refine dr_cons rfl ?_; simp only [Nat.add_eq_left, Nat.left_eq_add, oneW_some, Ez.stepC, Ez.step, Ez.evX, Ez.pureD, Ez.loadD, Ez.storeD, Ez.lenD, Ez.asLit, Ez.asInt, Ez.asBool, getE_cons, Ez.putE, Ez.updH, getH_cons, Ez.iadrD, Ez.rowsOf, Ez.appR, Ez.appD, Ez.srcOf, Ez.cpyD, Ez.frzV, Ez.frz, Ez.frz1, Ez.V.cells, Ez.cellsD, Ez.isCell, Ez.fillP, Ez.rowsy, zeros_one, Ez.litC, Ez.litD, Ez.splice, Ez.scalar, Option.bind_eq_bind, Option.bind_some, if_true, if_false, Option.map_some, Option.map_none, Ez.dInt, Ez.binV, Ez.isShift, Ez.intBin, Nat.reduceEqDiff, Bool.false_eq_true, List.getElem?_cons_zero, List.getElem?_cons_succ, reduceIte, Nat.add_zero, Nat.zero_add, Nat.add_assoc, Nat.reduceAdd, Nat.reduceMul, Nat.reduceLeDiff, Option.some.injEq, reduceCtorEq, Nat.add_left_cancel_iff, List.map_cons, List.map_nil, List.length_cons, List.length_nil, List.take_succ_cons, List.drop_succ_cons, List.take_zero, List.drop_zero, List.take_nil, List.drop_nil, List.all_cons, List.all_nil, Bool.and_self, Bool.and_true, List.cons_append, List.nil_append, List.append_nil, Int.toNat_natCast, Nat.mul_one, Int.natCast_nonneg, and_self, and_true, true_and, Nat.le_refl, Nat.zero_le, Int.reduceLE, Int.reduceToNat, Ez.minmax, Ez.undefD, Ez.boolV, Ez.unV, Bool.not_true, Bool.not_false, Ez.slcD, Ez.loOf, Ez.hiOf, Nat.reduceSub, ha, e3, e9, e10, e34, hq, hr, hb, g0, g1, t0, t1, t2, t3, hdl, c128, htm, hw, hw2, f1, f2, f3, f4, f5, f6, x1, x2, x3, x4, x5, x6])
  refine dr_nil ⟨?_, ?_⟩
  · simp [drawOk, drawFrom, okRow, clash, meets, touches, frzIds, ids1, opX, tmpsX, Nat.testBit, evX, getE_cons, e9, e10, hq, hr, x1, x2, getH_cons, nqr, nra]
  have hfr : ∀ x, x ≠ rid → getH ((rid, .rows (rowD i1 l1 ++ [.arr a 1 127] ++ (.arr b 0 128 :: .c (boolC s.fresh) :: rowD i2 l2)) 3 32) :: h) x = getH h x := fun x hx2 => by simp only [getH_cons, show (rid = x) = False by simp; exact fun e => hx2 e.symm, if_false]
  have hrow : getH ((rid, .rows (rowD i1 l1 ++ [.arr a 1 127] ++ (.arr b 0 128 :: .c (boolC s.fresh) :: rowD i2 l2)) 3 32) :: h) rid = .rows (rowD i1 l1 ++ [.arr a 1 127] ++ (.arr b 0 128 :: .c (boolC s.fresh) :: rowD i2 l2)) 3 32 := by simp only [getH_cons, if_true]
  have hrc : RowsC ((rid, .rows (rowD i1 l1 ++ [.arr a 1 127] ++ (.arr b 0 128 :: .c (boolC s.fresh) :: rowD i2 l2)) 3 32) :: h) (rowD i1 l1 ++ [.arr a 1 127] ++ (.arr b 0 128 :: .c (boolC s.fresh) :: rowD i2 l2)) (l1 ++ ⟨s.sure.drop 1, s.data, s.fresh⟩ :: l2) := by
    have ca : Cont ((rid, .rows (rowD i1 l1 ++ [.arr a 1 127] ++ (.arr b 0 128 :: .c (boolC s.fresh) :: rowD i2 l2)) 3 32) :: h) (.arr a 1 127) (s.sure.drop 1) := by
      refine ⟨a, 1, bytesC s.sure, 0, 5, by simp [s1], by rw [hfr a (fun e => nra e.symm)]; exact ha, by rw [bytesC_len]; simp [s1], ?_⟩
      rw [List.take_of_length_le (by simp [bytesC_len])]
      simp [bytesC]
    have key := rows_mid (h := ((rid, .rows (rowD i1 l1 ++ [.arr a 1 127] ++ (.arr b 0 128 :: .c (boolC s.fresh) :: rowD i2 l2)) 3 32) :: h)) (s := ⟨s.sure.drop 1, s.data, s.fresh⟩) (d3 := .c (boolC s.fresh)) (h1.frame fun x hx => hfr x (fun e => nr1 (e ▸ hx))) (h2.frame fun x hx => hfr x (fun e => nr2 (e ▸ hx))) o1 o2 ca (cont_all (by rw [hfr b (fun e => nrb e.symm)]; exact hb) s2) rfl
    simpa only [List.append_assoc, List.cons_append, List.nil_append] using key
  obtain ⟨us, y1, y2, us2, y3⟩ := frz_rows hrow hrc
  have hm : (l1 ++ ⟨s.sure.drop 1, s.data, s.fresh⟩ :: l2).length = m := by simpa using n3
  rw [hm] at y1 y3
  refine hQ _ (.arr rid 0 m) (l1 ++ ⟨s.sure.drop 1, s.data, s.fresh⟩ :: l2) false false 0 us us2 ?_ ?_ y1 ?_ y3
  · simp only [getE_cons, Nat.reduceEqDiff, if_false, if_true, e9]
  · simp only [getH_cons, if_true, if_false, x1, x2, x3, x4, hq]; try rfl
  · intro p hp
    rcases y2 p hp with y | y
    · rw [y]; exact fun e => nqr e.symm
    · exact (fun x hx => ids x (by rw [hds]; simpa [arrIds, arrIds_flat] using hx)) p.1 y

theorem w4_5 {F : Tab} {Q : Ex → St → Prop} {e : Env} {h : Heap} {N q rid a b k m at_ j : Nat} {i1 i2 : List (Nat × Nat)} {l1 l2 : List Sec} {s : Sec} {ds : List D}
    (e3 : getE e 3 = .c (.lit (.int .u8 (at_ : Int)))) (e9 : getE e 9 = .loc q 0) (e10 : getE e 10 = .c (.lit (.int .i64 (k : Int)))) (e34 : getE e 34 = .c (.lit (.int .u8 5)))
    (hq : getH h q = .box [.arr rid 0 m, .c (.lit (.bool false)), .c (.lit (.bool false)), .c (.lit (.int .i64 0))]) (hr : getH h rid = .rows ds 3 32) (hds : ds = rowD i1 l1 ++ .arr a 0 128 :: .arr b 0 128 :: .c (boolC s.fresh) :: rowD i2 l2)
    (n1 : i1.length = l1.length) (n2 : l1.length = k) (n3 : (l1 ++ s :: l2).length = m) (h1 : Held h i1 l1) (h2 : Held h i2 l2) (o1 : Okay l1) (o2 : Okay l2) (s1 : s.sure.length = 128) (s2 : s.data.length = 128)
    (ha : getH h a = .arr (bytesC s.sure) 1 0 5) (hb : getH h b = .arr (bytesC s.data) 1 0 5) (nd : (q :: rid :: a :: b :: (flat i1 ++ flat i2)).Nodup) (hat : at_ < 256) (hj : j = at_ % 128)
    (hQ : ∀ (t : St) (X : D) (l : List Sec) (d ar : Bool) (le : Int) (us us2 : List (Nat × Ez.Obj)), getE t.env 9 = .loc q 0 → getH t.heap q = .box [X, .c (boolC d), .c (boolC ar), .c (intC le)] → frz t.heap X = some (secsS l, us) → (∀ p ∈ us, p.1 ≠ q) → frz (updH t.heap us) X = some (secsS l, us2) → Q .normal t) : WP F W4 ⟨e, h, N⟩ Q := by
  have hlen := rowD_len n1
  rw [n2] at hlen
  simp only [List.nodup_cons, List.mem_cons, List.mem_append, not_or] at nd
  obtain ⟨⟨nqr, nqa, nqb, nq1, nq2⟩, ⟨nra, nrb, nr1, nr2⟩, ⟨nab, na1, na2⟩, ⟨nb1, nb2⟩, nd12⟩ := nd
  have g0 : ds[k * 3]? = some (.arr a 0 128) := by rw [hds, List.getElem?_append_right (by omega), hlen, Nat.sub_self]; rfl
  have g1 : ds[k * 3 + 1]? = some (.arr b 0 128) := by rw [hds, List.getElem?_append_right (by omega), hlen, Nat.add_sub_cancel_left]; rfl
  have t0 : ds.take (k * 3) = rowD i1 l1 := by rw [hds, List.take_append_of_le_length (by omega), List.take_of_length_le (by omega)]
  have t1 : ds.drop (k * 3 + 1) = .arr b 0 128 :: .c (boolC s.fresh) :: rowD i2 l2 := by rw [hds, List.drop_append, hlen, List.drop_eq_nil_of_le (by omega), Nat.add_sub_cancel_left]; rfl
  have t2 : ds.take (k * 3 + 2) = rowD i1 l1 ++ [.arr a 0 128, .arr b 0 128] := by rw [hds, List.take_append, hlen, List.take_of_length_le (by omega), Nat.add_sub_cancel_left]; rfl
  have t3 : ds.drop (k * 3 + 3) = rowD i2 l2 := by rw [hds, List.drop_append, hlen, List.drop_eq_nil_of_le (by omega), Nat.add_sub_cancel_left]; rfl
  have hdl : ds.length = m * 3 := by rw [hds, List.length_append, hlen, ← n3]; simp [rowD_len h2.len]; omega
  have hkm : k < m := by rw [← n3, List.length_append, n2]; simp
  have hj128 : j < 128 := by omega
  have c128 : ((128 : Int) = 0) = False := by simp
  have htm : (at_ : Int).tmod 128 = (j : Int) := by rw [hj]; rfl
  have hw : IntKind.wrap .i64 (at_ : Int) = (at_ : Int) := Go.Proofs.Ytfphnpelampoeaa.wrap_i64 _ (by omega)
  have hw2 : IntKind.wrap .i64 ((at_ : Int) - 100) = (at_ : Int) - 100 := Go.Proofs.Ytfphnpelampoeaa.wrap_i64 _ (by omega)
  have f1 : ((k : Int) < (m : Int)) = True := by simpa using hkm
  have f2 : ((j : Int) < ((128 : Nat) : Int)) = True := by simp; omega
  have f3 : (bytesC s.data).length = 128 := by rw [bytesC_len]; exact s2
  have f4 : (j + 1 ≤ 128) = True := by simp; omega
  have f5 : (k * 3 + 3 ≤ m * 3) = True := by simp; omega
  have f6 : (k * 3 + 1 ≤ m * 3) = True := by simp; omega
  have x1 : (q = rid) = False := by simpa using nqr
  have x2 : (rid = q) = False := by simpa using fun e : rid = q => nqr e.symm
  have x3 : (b = q) = False := by simpa using fun e : b = q => nqb e.symm
  have x4 : (b = rid) = False := by simpa using fun e : b = rid => nrb e.symm
  have x5 : (q = b) = False := by simpa using nqb
  have x6 : (rid = b) = False := by simpa using nrb
  have ids : ∀ x, x ∈ arrIds ds → x ≠ q := by
    intro x hx
    rw [hds, arrIds_flat, List.flatMap_append, ← arrIds_flat, ← arrIds_flat] at hx
    simp only [arrIds, List.mem_append, List.mem_cons] at hx
    rcases hx with hx | hx | hx | hx
    · exact fun e => nq1 (e ▸ arrIds_rowD x hx)
    · rw [hx]; exact fun e => nqa e.symm
    · rw [hx]; exact fun e => nqb e.symm
    · exact fun e => nq2 (e ▸ arrIds_rowD x hx)
  have b0 : ((5 : Int) == 0) = false := rfl
  have b1 : ((5 : Int) == 1) = false := rfl
  have b2 : ((5 : Int) == 2) = false := rfl
  have b3 : ((5 : Int) == 3) = false := rfl
  have b4 : ((5 : Int) == 4) = false := rfl
  have b5 : ((5 : Int) == 5) = true := rfl
  simp only [W4, I4]
  refine wp_block ?_
  refine wp_seq (wp_sq ?_)
  iterate 2 (refine sq_cons rfl ?_; simp only [Nat.add_eq_left, Nat.left_eq_add, oneW_some, Ez.stepC, Ez.step, Ez.evX, Ez.pureD, Ez.loadD, Ez.storeD, Ez.lenD, Ez.asLit, Ez.asInt, Ez.asBool, getE_cons, Ez.putE, Ez.updH, getH_cons, Ez.iadrD, Ez.rowsOf, Ez.appR, Ez.appD, Ez.srcOf, Ez.cpyD, Ez.frzV, Ez.frz, Ez.frz1, Ez.V.cells, Ez.cellsD, Ez.isCell, Ez.fillP, Ez.rowsy, zeros_one, Ez.litC, Ez.litD, Ez.splice, Ez.scalar, Option.bind_eq_bind, Option.bind_some, if_true, if_false, Option.map_some, Option.map_none, Ez.dInt, Ez.binV, Ez.isShift, Ez.intBin, Nat.reduceEqDiff, Bool.false_eq_true, List.getElem?_cons_zero, List.getElem?_cons_succ, reduceIte, Nat.add_zero, Nat.zero_add, Nat.add_assoc, Nat.reduceAdd, Nat.reduceMul, Nat.reduceLeDiff, Option.some.injEq, reduceCtorEq, Nat.add_left_cancel_iff, List.map_cons, List.map_nil, List.length_cons, List.length_nil, List.take_succ_cons, List.drop_succ_cons, List.take_zero, List.drop_zero, List.take_nil, List.drop_nil, List.all_cons, List.all_nil, Bool.and_self, Bool.and_true, List.cons_append, List.nil_append, List.append_nil, Int.toNat_natCast, Nat.mul_one, Int.natCast_nonneg, and_self, and_true, true_and, Nat.le_refl, Nat.zero_le, Int.reduceLE, Int.reduceToNat, Ez.minmax, Ez.undefD, Ez.boolV, Ez.unV, Bool.not_true, Bool.not_false, Ez.slcD, Ez.loOf, Ez.hiOf, Nat.reduceSub, ha, e3, e9, e10, e34, hq, hr, hb, g0, g1, t0, t1, t2, t3, hdl, c128, htm, hw, hw2, f1, f2, f3, f4, f5, f6, x1, x2, x3, x4, x5, x6, b0])
  refine sq_nil (wp_condF rfl ?_)
  refine wp_seq (wp_sq ?_)
  iterate 2 (refine sq_cons rfl ?_; simp only [Nat.add_eq_left, Nat.left_eq_add, oneW_some, Ez.stepC, Ez.step, Ez.evX, Ez.pureD, Ez.loadD, Ez.storeD, Ez.lenD, Ez.asLit, Ez.asInt, Ez.asBool, getE_cons, Ez.putE, Ez.updH, getH_cons, Ez.iadrD, Ez.rowsOf, Ez.appR, Ez.appD, Ez.srcOf, Ez.cpyD, Ez.frzV, Ez.frz, Ez.frz1, Ez.V.cells, Ez.cellsD, Ez.isCell, Ez.fillP, Ez.rowsy, zeros_one, Ez.litC, Ez.litD, Ez.splice, Ez.scalar, Option.bind_eq_bind, Option.bind_some, if_true, if_false, Option.map_some, Option.map_none, Ez.dInt, Ez.binV, Ez.isShift, Ez.intBin, Nat.reduceEqDiff, Bool.false_eq_true, List.getElem?_cons_zero, List.getElem?_cons_succ, reduceIte, Nat.add_zero, Nat.zero_add, Nat.add_assoc, Nat.reduceAdd, Nat.reduceMul, Nat.reduceLeDiff, Option.some.injEq, reduceCtorEq, Nat.add_left_cancel_iff, List.map_cons, List.map_nil, List.length_cons, List.length_nil, List.take_succ_cons, List.drop_succ_cons, List.take_zero, List.drop_zero, List.take_nil, List.drop_nil, List.all_cons, List.all_nil, Bool.and_self, Bool.and_true, List.cons_append, List.nil_append, List.append_nil, Int.toNat_natCast, Nat.mul_one, Int.natCast_nonneg, and_self, and_true, true_and, Nat.le_refl, Nat.zero_le, Int.reduceLE, Int.reduceToNat, Ez.minmax, Ez.undefD, Ez.boolV, Ez.unV, Bool.not_true, Bool.not_false, Ez.slcD, Ez.loOf, Ez.hiOf, Nat.reduceSub, ha, e3, e9, e10, e34, hq, hr, hb, g0, g1, t0, t1, t2, t3, hdl, c128, htm, hw, hw2, f1, f2, f3, f4, f5, f6, x1, x2, x3, x4, x5, x6, b1])
  refine sq_nil (wp_condF rfl ?_)
  refine wp_seq (wp_sq ?_)
  iterate 2 (refine sq_cons rfl ?_; simp only [Nat.add_eq_left, Nat.left_eq_add, oneW_some, Ez.stepC, Ez.step, Ez.evX, Ez.pureD, Ez.loadD, Ez.storeD, Ez.lenD, Ez.asLit, Ez.asInt, Ez.asBool, getE_cons, Ez.putE, Ez.updH, getH_cons, Ez.iadrD, Ez.rowsOf, Ez.appR, Ez.appD, Ez.srcOf, Ez.cpyD, Ez.frzV, Ez.frz, Ez.frz1, Ez.V.cells, Ez.cellsD, Ez.isCell, Ez.fillP, Ez.rowsy, zeros_one, Ez.litC, Ez.litD, Ez.splice, Ez.scalar, Option.bind_eq_bind, Option.bind_some, if_true, if_false, Option.map_some, Option.map_none, Ez.dInt, Ez.binV, Ez.isShift, Ez.intBin, Nat.reduceEqDiff, Bool.false_eq_true, List.getElem?_cons_zero, List.getElem?_cons_succ, reduceIte, Nat.add_zero, Nat.zero_add, Nat.add_assoc, Nat.reduceAdd, Nat.reduceMul, Nat.reduceLeDiff, Option.some.injEq, reduceCtorEq, Nat.add_left_cancel_iff, List.map_cons, List.map_nil, List.length_cons, List.length_nil, List.take_succ_cons, List.drop_succ_cons, List.take_zero, List.drop_zero, List.take_nil, List.drop_nil, List.all_cons, List.all_nil, Bool.and_self, Bool.and_true, List.cons_append, List.nil_append, List.append_nil, Int.toNat_natCast, Nat.mul_one, Int.natCast_nonneg, and_self, and_true, true_and, Nat.le_refl, Nat.zero_le, Int.reduceLE, Int.reduceToNat, Ez.minmax, Ez.undefD, Ez.boolV, Ez.unV, Bool.not_true, Bool.not_false, Ez.slcD, Ez.loOf, Ez.hiOf, Nat.reduceSub, ha, e3, e9, e10, e34, hq, hr, hb, g0, g1, t0, t1, t2, t3, hdl, c128, htm, hw, hw2, f1, f2, f3, f4, f5, f6, x1, x2, x3, x4, x5, x6, b2])
  refine sq_nil (wp_condF rfl ?_)
  refine wp_seq (wp_sq ?_)
  iterate 2 (refine sq_cons rfl ?_; simp only [Nat.add_eq_left, Nat.left_eq_add, oneW_some, Ez.stepC, Ez.step, Ez.evX, Ez.pureD, Ez.loadD, Ez.storeD, Ez.lenD, Ez.asLit, Ez.asInt, Ez.asBool, getE_cons, Ez.putE, Ez.updH, getH_cons, Ez.iadrD, Ez.rowsOf, Ez.appR, Ez.appD, Ez.srcOf, Ez.cpyD, Ez.frzV, Ez.frz, Ez.frz1, Ez.V.cells, Ez.cellsD, Ez.isCell, Ez.fillP, Ez.rowsy, zeros_one, Ez.litC, Ez.litD, Ez.splice, Ez.scalar, Option.bind_eq_bind, Option.bind_some, if_true, if_false, Option.map_some, Option.map_none, Ez.dInt, Ez.binV, Ez.isShift, Ez.intBin, Nat.reduceEqDiff, Bool.false_eq_true, List.getElem?_cons_zero, List.getElem?_cons_succ, reduceIte, Nat.add_zero, Nat.zero_add, Nat.add_assoc, Nat.reduceAdd, Nat.reduceMul, Nat.reduceLeDiff, Option.some.injEq, reduceCtorEq, Nat.add_left_cancel_iff, List.map_cons, List.map_nil, List.length_cons, List.length_nil, List.take_succ_cons, List.drop_succ_cons, List.take_zero, List.drop_zero, List.take_nil, List.drop_nil, List.all_cons, List.all_nil, Bool.and_self, Bool.and_true, List.cons_append, List.nil_append, List.append_nil, Int.toNat_natCast, Nat.mul_one, Int.natCast_nonneg, and_self, and_true, true_and, Nat.le_refl, Nat.zero_le, Int.reduceLE, Int.reduceToNat, Ez.minmax, Ez.undefD, Ez.boolV, Ez.unV, Bool.not_true, Bool.not_false, Ez.slcD, Ez.loOf, Ez.hiOf, Nat.reduceSub, ha, e3, e9, e10, e34, hq, hr, hb, g0, g1, t0, t1, t2, t3, hdl, c128, htm, hw, hw2, f1, f2, f3, f4, f5, f6, x1, x2, x3, x4, x5, x6, b3])
  refine sq_nil (wp_condF rfl ?_)
  refine wp_seq (wp_sq ?_)
  iterate 2 (refine sq_cons rfl ?_; simp only [Nat.add_eq_left, Nat.left_eq_add, oneW_some, Ez.stepC, Ez.step, Ez.evX, Ez.pureD, Ez.loadD, Ez.storeD, Ez.lenD, Ez.asLit, Ez.asInt, Ez.asBool, getE_cons, Ez.putE, Ez.updH, getH_cons, Ez.iadrD, Ez.rowsOf, Ez.appR, Ez.appD, Ez.srcOf, Ez.cpyD, Ez.frzV, Ez.frz, Ez.frz1, Ez.V.cells, Ez.cellsD, Ez.isCell, Ez.fillP, Ez.rowsy, zeros_one, Ez.litC, Ez.litD, Ez.splice, Ez.scalar, Option.bind_eq_bind, Option.bind_some, if_true, if_false, Option.map_some, Option.map_none, Ez.dInt, Ez.binV, Ez.isShift, Ez.intBin, Nat.reduceEqDiff, Bool.false_eq_true, List.getElem?_cons_zero, List.getElem?_cons_succ, reduceIte, Nat.add_zero, Nat.zero_add, Nat.add_assoc, Nat.reduceAdd, Nat.reduceMul, Nat.reduceLeDiff, Option.some.injEq, reduceCtorEq, Nat.add_left_cancel_iff, List.map_cons, List.map_nil, List.length_cons, List.length_nil, List.take_succ_cons, List.drop_succ_cons, List.take_zero, List.drop_zero, List.take_nil, List.drop_nil, List.all_cons, List.all_nil, Bool.and_self, Bool.and_true, List.cons_append, List.nil_append, List.append_nil, Int.toNat_natCast, Nat.mul_one, Int.natCast_nonneg, and_self, and_true, true_and, Nat.le_refl, Nat.zero_le, Int.reduceLE, Int.reduceToNat, Ez.minmax, Ez.undefD, Ez.boolV, Ez.unV, Bool.not_true, Bool.not_false, Ez.slcD, Ez.loOf, Ez.hiOf, Nat.reduceSub, ha, e3, e9, e10, e34, hq, hr, hb, g0, g1, t0, t1, t2, t3, hdl, c128, htm, hw, hw2, f1, f2, f3, f4, f5, f6, x1, x2, x3, x4, x5, x6, b4])
  refine sq_nil (wp_condF rfl ?_)
  refine wp_seq (wp_sq ?_)
  iterate 2 (refine sq_cons rfl ?_; simp only [Nat.add_eq_left, Nat.left_eq_add, oneW_some, Ez.stepC, Ez.step, Ez.evX, Ez.pureD, Ez.loadD, Ez.storeD, Ez.lenD, Ez.asLit, Ez.asInt, Ez.asBool, getE_cons, Ez.putE, Ez.updH, getH_cons, Ez.iadrD, Ez.rowsOf, Ez.appR, Ez.appD, Ez.srcOf, Ez.cpyD, Ez.frzV, Ez.frz, Ez.frz1, Ez.V.cells, Ez.cellsD, Ez.isCell, Ez.fillP, Ez.rowsy, zeros_one, Ez.litC, Ez.litD, Ez.splice, Ez.scalar, Option.bind_eq_bind, Option.bind_some, if_true, if_false, Option.map_some, Option.map_none, Ez.dInt, Ez.binV, Ez.isShift, Ez.intBin, Nat.reduceEqDiff, Bool.false_eq_true, List.getElem?_cons_zero, List.getElem?_cons_succ, reduceIte, Nat.add_zero, Nat.zero_add, Nat.add_assoc, Nat.reduceAdd, Nat.reduceMul, Nat.reduceLeDiff, Option.some.injEq, reduceCtorEq, Nat.add_left_cancel_iff, List.map_cons, List.map_nil, List.length_cons, List.length_nil, List.take_succ_cons, List.drop_succ_cons, List.take_zero, List.drop_zero, List.take_nil, List.drop_nil, List.all_cons, List.all_nil, Bool.and_self, Bool.and_true, List.cons_append, List.nil_append, List.append_nil, Int.toNat_natCast, Nat.mul_one, Int.natCast_nonneg, and_self, and_true, true_and, Nat.le_refl, Nat.zero_le, Int.reduceLE, Int.reduceToNat, Ez.minmax, Ez.undefD, Ez.boolV, Ez.unV, Bool.not_true, Bool.not_false, Ez.slcD, Ez.loOf, Ez.hiOf, Nat.reduceSub, ha, e3, e9, e10, e34, hq, hr, hb, g0, g1, t0, t1, t2, t3, hdl, c128, htm, hw, hw2, f1, f2, f3, f4, f5, f6, x1, x2, x3, x4, x5, x6, b5])
  refine sq_nil (wp_condT rfl ?_)
  refine wp_sq ?_
  iterate 2 (refine sq_cons rfl ?_; simp only [Nat.add_eq_left, Nat.left_eq_add, oneW_some, Ez.stepC, Ez.step, Ez.evX, Ez.pureD, Ez.loadD, Ez.storeD, Ez.lenD, Ez.asLit, Ez.asInt, Ez.asBool, getE_cons, Ez.putE, Ez.updH, getH_cons, Ez.iadrD, Ez.rowsOf, Ez.appR, Ez.appD, Ez.srcOf, Ez.cpyD, Ez.frzV, Ez.frz, Ez.frz1, Ez.V.cells, Ez.cellsD, Ez.isCell, Ez.fillP, Ez.rowsy, zeros_one, Ez.litC, Ez.litD, Ez.splice, Ez.scalar, Option.bind_eq_bind, Option.bind_some, if_true, if_false, Option.map_some, Option.map_none, Ez.dInt, Ez.binV, Ez.isShift, Ez.intBin, Nat.reduceEqDiff, Bool.false_eq_true, List.getElem?_cons_zero, List.getElem?_cons_succ, reduceIte, Nat.add_zero, Nat.zero_add, Nat.add_assoc, Nat.reduceAdd, Nat.reduceMul, Nat.reduceLeDiff, Option.some.injEq, reduceCtorEq, Nat.add_left_cancel_iff, List.map_cons, List.map_nil, List.length_cons, List.length_nil, List.take_succ_cons, List.drop_succ_cons, List.take_zero, List.drop_zero, List.take_nil, List.drop_nil, List.all_cons, List.all_nil, Bool.and_self, Bool.and_true, List.cons_append, List.nil_append, List.append_nil, Int.toNat_natCast, Nat.mul_one, Int.natCast_nonneg, and_self, and_true, true_and, Nat.le_refl, Nat.zero_le, Int.reduceLE, Int.reduceToNat, Ez.minmax, Ez.undefD, Ez.boolV, Ez.unV, Bool.not_true, Bool.not_false, Ez.slcD, Ez.loOf, Ez.hiOf, Nat.reduceSub, ha, e3, e9, e10, e34, hq, hr, hb, g0, g1, t0, t1, t2, t3, hdl, c128, htm, hw, hw2, f1, f2, f3, f4, f5, f6, x1, x2, x3, x4, x5, x6])
  refine sq_nil ?_
  refine hQ _ (.full [] 0) [] false false 0 [] [] ?_ ?_ ?_ ?_ ?_
  · simp only [getE_cons, Nat.reduceEqDiff, if_false, if_true, e9]
  · simp only [getH_cons, if_true]; rfl
  · rfl
  · simp
  · rfl

theorem w4_6 {F : Tab} {Q : Ex → St → Prop} {e : Env} {h : Heap} {N q rid a b k m at_ j : Nat} {i1 i2 : List (Nat × Nat)} {l1 l2 : List Sec} {s : Sec} {ds : List D}
    (e3 : getE e 3 = .c (.lit (.int .u8 (at_ : Int)))) (e9 : getE e 9 = .loc q 0) (e10 : getE e 10 = .c (.lit (.int .i64 (k : Int)))) (e34 : getE e 34 = .c (.lit (.int .u8 6)))
    (hq : getH h q = .box [.arr rid 0 m, .c (.lit (.bool false)), .c (.lit (.bool false)), .c (.lit (.int .i64 0))]) (hr : getH h rid = .rows ds 3 32) (hds : ds = rowD i1 l1 ++ .arr a 0 128 :: .arr b 0 128 :: .c (boolC s.fresh) :: rowD i2 l2)
    (n1 : i1.length = l1.length) (n2 : l1.length = k) (n3 : (l1 ++ s :: l2).length = m) (h1 : Held h i1 l1) (h2 : Held h i2 l2) (o1 : Okay l1) (o2 : Okay l2) (s1 : s.sure.length = 128) (s2 : s.data.length = 128)
    (ha : getH h a = .arr (bytesC s.sure) 1 0 5) (hb : getH h b = .arr (bytesC s.data) 1 0 5) (nd : (q :: rid :: a :: b :: (flat i1 ++ flat i2)).Nodup) (hat : at_ < 256) (hj : j = at_ % 128)
    (hQ : ∀ (t : St) (X : D) (l : List Sec) (d ar : Bool) (le : Int) (us us2 : List (Nat × Ez.Obj)), getE t.env 9 = .loc q 0 → getH t.heap q = .box [X, .c (boolC d), .c (boolC ar), .c (intC le)] → frz t.heap X = some (secsS l, us) → (∀ p ∈ us, p.1 ≠ q) → frz (updH t.heap us) X = some (secsS l, us2) → Q .normal t) : WP F W4 ⟨e, h, N⟩ Q := by
  have hlen := rowD_len n1
  rw [n2] at hlen
  simp only [List.nodup_cons, List.mem_cons, List.mem_append, not_or] at nd
  obtain ⟨⟨nqr, nqa, nqb, nq1, nq2⟩, ⟨nra, nrb, nr1, nr2⟩, ⟨nab, na1, na2⟩, ⟨nb1, nb2⟩, nd12⟩ := nd
  have g0 : ds[k * 3]? = some (.arr a 0 128) := by rw [hds, List.getElem?_append_right (by omega), hlen, Nat.sub_self]; rfl
  have g1 : ds[k * 3 + 1]? = some (.arr b 0 128) := by rw [hds, List.getElem?_append_right (by omega), hlen, Nat.add_sub_cancel_left]; rfl
  have t0 : ds.take (k * 3) = rowD i1 l1 := by rw [hds, List.take_append_of_le_length (by omega), List.take_of_length_le (by omega)]
  have t1 : ds.drop (k * 3 + 1) = .arr b 0 128 :: .c (boolC s.fresh) :: rowD i2 l2 := by rw [hds, List.drop_append, hlen, List.drop_eq_nil_of_le (by omega), Nat.add_sub_cancel_left]; rfl
  have t2 : ds.take (k * 3 + 2) = rowD i1 l1 ++ [.arr a 0 128, .arr b 0 128] := by rw [hds, List.take_append, hlen, List.take_of_length_le (by omega), Nat.add_sub_cancel_left]; rfl
  have t3 : ds.drop (k * 3 + 3) = rowD i2 l2 := by rw [hds, List.drop_append, hlen, List.drop_eq_nil_of_le (by omega), Nat.add_sub_cancel_left]; rfl
  have hdl : ds.length = m * 3 := by rw [hds, List.length_append, hlen, ← n3]; simp [rowD_len h2.len]; omega
  have hkm : k < m := by rw [← n3, List.length_append, n2]; simp
  have hj128 : j < 128 := by omega
  have c128 : ((128 : Int) = 0) = False := by simp
  have htm : (at_ : Int).tmod 128 = (j : Int) := by rw [hj]; rfl
  have hw : IntKind.wrap .i64 (at_ : Int) = (at_ : Int) := Go.Proofs.Ytfphnpelampoeaa.wrap_i64 _ (by omega)
  have hw2 : IntKind.wrap .i64 ((at_ : Int) - 100) = (at_ : Int) - 100 := Go.Proofs.Ytfphnpelampoeaa.wrap_i64 _ (by omega)
  have f1 : ((k : Int) < (m : Int)) = True := by simpa using hkm
  have f2 : ((j : Int) < ((128 : Nat) : Int)) = True := by simp; omega
  have f3 : (bytesC s.data).length = 128 := by rw [bytesC_len]; exact s2
  have f4 : (j + 1 ≤ 128) = True := by simp; omega
  have f5 : (k * 3 + 3 ≤ m * 3) = True := by simp; omega
  have f6 : (k * 3 + 1 ≤ m * 3) = True := by simp; omega
  have x1 : (q = rid) = False := by simpa using nqr
  have x2 : (rid = q) = False := by simpa using fun e : rid = q => nqr e.symm
  have x3 : (b = q) = False := by simpa using fun e : b = q => nqb e.symm
  have x4 : (b = rid) = False := by simpa using fun e : b = rid => nrb e.symm
  have x5 : (q = b) = False := by simpa using nqb
  have x6 : (rid = b) = False := by simpa using nrb
  have ids : ∀ x, x ∈ arrIds ds → x ≠ q := by
    intro x hx
    rw [hds, arrIds_flat, List.flatMap_append, ← arrIds_flat, ← arrIds_flat] at hx
    simp only [arrIds, List.mem_append, List.mem_cons] at hx
    rcases hx with hx | hx | hx | hx
    · exact fun e => nq1 (e ▸ arrIds_rowD x hx)
    · rw [hx]; exact fun e => nqa e.symm
    · rw [hx]; exact fun e => nqb e.symm
    · exact fun e => nq2 (e ▸ arrIds_rowD x hx)
  have b0 : ((6 : Int) == 0) = false := rfl
  have b1 : ((6 : Int) == 1) = false := rfl
  have b2 : ((6 : Int) == 2) = false := rfl
  have b3 : ((6 : Int) == 3) = false := rfl
  have b4 : ((6 : Int) == 4) = false := rfl
  have b5 : ((6 : Int) == 5) = false := rfl
  have b6 : ((6 : Int) == 6) = true := rfl
  simp only [W4, I4]
  refine wp_block ?_
  refine wp_seq (wp_sq ?_)
  iterate 2 (refine sq_cons rfl ?_; simp only [Nat.add_eq_left, Nat.left_eq_add, oneW_some, Ez.stepC, Ez.step, Ez.evX, Ez.pureD, Ez.loadD, Ez.storeD, Ez.lenD, Ez.asLit, Ez.asInt, Ez.asBool, getE_cons, Ez.putE, Ez.updH, getH_cons, Ez.iadrD, Ez.rowsOf, Ez.appR, Ez.appD, Ez.srcOf, Ez.cpyD, Ez.frzV, Ez.frz, Ez.frz1, Ez.V.cells, Ez.cellsD, Ez.isCell, Ez.fillP, Ez.rowsy, zeros_one, Ez.litC, Ez.litD, Ez.splice, Ez.scalar, Option.bind_eq_bind, Option.bind_some, if_true, if_false, Option.map_some, Option.map_none, Ez.dInt, Ez.binV, Ez.isShift, Ez.intBin, Nat.reduceEqDiff, Bool.false_eq_true, List.getElem?_cons_zero, List.getElem?_cons_succ, reduceIte, Nat.add_zero, Nat.zero_add, Nat.add_assoc, Nat.reduceAdd, Nat.reduceMul, Nat.reduceLeDiff, Option.some.injEq, reduceCtorEq, Nat.add_left_cancel_iff, List.map_cons, List.map_nil, List.length_cons, List.length_nil, List.take_succ_cons, List.drop_succ_cons, List.take_zero, List.drop_zero, List.take_nil, List.drop_nil, List.all_cons, List.all_nil, Bool.and_self, Bool.and_true, List.cons_append, List.nil_append, List.append_nil, Int.toNat_natCast, Nat.mul_one, Int.natCast_nonneg, and_self, and_true, true_and, Nat.le_refl, Nat.zero_le, Int.reduceLE, Int.reduceToNat, Ez.minmax, Ez.undefD, Ez.boolV, Ez.unV, Bool.not_true, Bool.not_false, Ez.slcD, Ez.loOf, Ez.hiOf, Nat.reduceSub, ha, e3, e9, e10, e34, hq, hr, hb, g0, g1, t0, t1, t2, t3, hdl, c128, htm, hw, hw2, f1, f2, f3, f4, f5, f6, x1, x2, x3, x4, x5, x6, b0])
  refine sq_nil (wp_condF rfl ?_)
  refine wp_seq (wp_sq ?_)
  iterate 2 (refine sq_cons rfl ?_; simp only [Nat.add_eq_left, Nat.left_eq_add, oneW_some, Ez.stepC, Ez.step, Ez.evX, Ez.pureD, Ez.loadD, Ez.storeD, Ez.lenD, Ez.asLit, Ez.asInt, Ez.asBool, getE_cons, Ez.putE, Ez.updH, getH_cons, Ez.iadrD, Ez.rowsOf, Ez.appR, Ez.appD, Ez.srcOf, Ez.cpyD, Ez.frzV, Ez.frz, Ez.frz1, Ez.V.cells, Ez.cellsD, Ez.isCell, Ez.fillP, Ez.rowsy, zeros_one, Ez.litC, Ez.litD, Ez.splice, Ez.scalar, Option.bind_eq_bind, Option.bind_some, if_true, if_false, Option.map_some, Option.map_none, Ez.dInt, Ez.binV, Ez.isShift, Ez.intBin, Nat.reduceEqDiff, Bool.false_eq_true, List.getElem?_cons_zero, List.getElem?_cons_succ, reduceIte, Nat.add_zero, Nat.zero_add, Nat.add_assoc, Nat.reduceAdd, Nat.reduceMul, Nat.reduceLeDiff, Option.some.injEq, reduceCtorEq, Nat.add_left_cancel_iff, List.map_cons, List.map_nil, List.length_cons, List.length_nil, List.take_succ_cons, List.drop_succ_cons, List.take_zero, List.drop_zero, List.take_nil, List.drop_nil, List.all_cons, List.all_nil, Bool.and_self, Bool.and_true, List.cons_append, List.nil_append, List.append_nil, Int.toNat_natCast, Nat.mul_one, Int.natCast_nonneg, and_self, and_true, true_and, Nat.le_refl, Nat.zero_le, Int.reduceLE, Int.reduceToNat, Ez.minmax, Ez.undefD, Ez.boolV, Ez.unV, Bool.not_true, Bool.not_false, Ez.slcD, Ez.loOf, Ez.hiOf, Nat.reduceSub, ha, e3, e9, e10, e34, hq, hr, hb, g0, g1, t0, t1, t2, t3, hdl, c128, htm, hw, hw2, f1, f2, f3, f4, f5, f6, x1, x2, x3, x4, x5, x6, b1])
  refine sq_nil (wp_condF rfl ?_)
  refine wp_seq (wp_sq ?_)
  iterate 2 (refine sq_cons rfl ?_; simp only [Nat.add_eq_left, Nat.left_eq_add, oneW_some, Ez.stepC, Ez.step, Ez.evX, Ez.pureD, Ez.loadD, Ez.storeD, Ez.lenD, Ez.asLit, Ez.asInt, Ez.asBool, getE_cons, Ez.putE, Ez.updH, getH_cons, Ez.iadrD, Ez.rowsOf, Ez.appR, Ez.appD, Ez.srcOf, Ez.cpyD, Ez.frzV, Ez.frz, Ez.frz1, Ez.V.cells, Ez.cellsD, Ez.isCell, Ez.fillP, Ez.rowsy, zeros_one, Ez.litC, Ez.litD, Ez.splice, Ez.scalar, Option.bind_eq_bind, Option.bind_some, if_true, if_false, Option.map_some, Option.map_none, Ez.dInt, Ez.binV, Ez.isShift, Ez.intBin, Nat.reduceEqDiff, Bool.false_eq_true, List.getElem?_cons_zero, List.getElem?_cons_succ, reduceIte, Nat.add_zero, Nat.zero_add, Nat.add_assoc, Nat.reduceAdd, Nat.reduceMul, Nat.reduceLeDiff, Option.some.injEq, reduceCtorEq, Nat.add_left_cancel_iff, List.map_cons, List.map_nil, List.length_cons, List.length_nil, List.take_succ_cons, List.drop_succ_cons, List.take_zero, List.drop_zero, List.take_nil, List.drop_nil, List.all_cons, List.all_nil, Bool.and_self, Bool.and_true, List.cons_append, List.nil_append, List.append_nil, Int.toNat_natCast, Nat.mul_one, Int.natCast_nonneg, and_self, and_true, true_and, Nat.le_refl, Nat.zero_le, Int.reduceLE, Int.reduceToNat, Ez.minmax, Ez.undefD, Ez.boolV, Ez.unV, Bool.not_true, Bool.not_false, Ez.slcD, Ez.loOf, Ez.hiOf, Nat.reduceSub, ha, e3, e9, e10, e34, hq, hr, hb, g0, g1, t0, t1, t2, t3, hdl, c128, htm, hw, hw2, f1, f2, f3, f4, f5, f6, x1, x2, x3, x4, x5, x6, b2])
  refine sq_nil (wp_condF rfl ?_)
  refine wp_seq (wp_sq ?_)
  iterate 2 (refine sq_cons rfl ?_; simp only [Nat.add_eq_left, Nat.left_eq_add, oneW_some, Ez.stepC, Ez.step, Ez.evX, Ez.pureD, Ez.loadD, Ez.storeD, Ez.lenD, Ez.asLit, Ez.asInt, Ez.asBool, getE_cons, Ez.putE, Ez.updH, getH_cons, Ez.iadrD, Ez.rowsOf, Ez.appR, Ez.appD, Ez.srcOf, Ez.cpyD, Ez.frzV, Ez.frz, Ez.frz1, Ez.V.cells, Ez.cellsD, Ez.isCell, Ez.fillP, Ez.rowsy, zeros_one, Ez.litC, Ez.litD, Ez.splice, Ez.scalar, Option.bind_eq_bind, Option.bind_some, if_true, if_false, Option.map_some, Option.map_none, Ez.dInt, Ez.binV, Ez.isShift, Ez.intBin, Nat.reduceEqDiff, Bool.false_eq_true, List.getElem?_cons_zero, List.getElem?_cons_succ, reduceIte, Nat.add_zero, Nat.zero_add, Nat.add_assoc, Nat.reduceAdd, Nat.reduceMul, Nat.reduceLeDiff, Option.some.injEq, reduceCtorEq, Nat.add_left_cancel_iff, List.map_cons, List.map_nil, List.length_cons, List.length_nil, List.take_succ_cons, List.drop_succ_cons, List.take_zero, List.drop_zero, List.take_nil, List.drop_nil, List.all_cons, List.all_nil, Bool.and_self, Bool.and_true, List.cons_append, List.nil_append, List.append_nil, Int.toNat_natCast, Nat.mul_one, Int.natCast_nonneg, and_self, and_true, true_and, Nat.le_refl, Nat.zero_le, Int.reduceLE, Int.reduceToNat, Ez.minmax, Ez.undefD, Ez.boolV, Ez.unV, Bool.not_true, Bool.not_false, Ez.slcD, Ez.loOf, Ez.hiOf, Nat.reduceSub, ha, e3, e9, e10, e34, hq, hr, hb, g0, g1, t0, t1, t2, t3, hdl, c128, htm, hw, hw2, f1, f2, f3, f4, f5, f6, x1, x2, x3, x4, x5, x6, b3])
  refine sq_nil (wp_condF rfl ?_)
  refine wp_seq (wp_sq ?_)
  iterate 2 (refine sq_cons rfl ?_; simp only [Nat.add_eq_left, Nat.left_eq_add, oneW_some, Ez.stepC, Ez.step, Ez.evX, Ez.pureD, Ez.loadD, Ez.storeD, Ez.lenD, Ez.asLit, Ez.asInt, Ez.asBool, getE_cons, Ez.putE, Ez.updH, getH_cons, Ez.iadrD, Ez.rowsOf, Ez.appR, Ez.appD, Ez.srcOf, Ez.cpyD, Ez.frzV, Ez.frz, Ez.frz1, Ez.V.cells, Ez.cellsD, Ez.isCell, Ez.fillP, Ez.rowsy, zeros_one, Ez.litC, Ez.litD, Ez.splice, Ez.scalar, Option.bind_eq_bind, Option.bind_some, if_true, if_false, Option.map_some, Option.map_none, Ez.dInt, Ez.binV, Ez.isShift, Ez.intBin, Nat.reduceEqDiff, Bool.false_eq_true, List.getElem?_cons_zero, List.getElem?_cons_succ, reduceIte, Nat.add_zero, Nat.zero_add, Nat.add_assoc, Nat.reduceAdd, Nat.reduceMul, Nat.reduceLeDiff, Option.some.injEq, reduceCtorEq, Nat.add_left_cancel_iff, List.map_cons, List.map_nil, List.length_cons, List.length_nil, List.take_succ_cons, List.drop_succ_cons, List.take_zero, List.drop_zero, List.take_nil, List.drop_nil, List.all_cons, List.all_nil, Bool.and_self, Bool.and_true, List.cons_append, List.nil_append, List.append_nil, Int.toNat_natCast, Nat.mul_one, Int.natCast_nonneg, and_self, and_true, true_and, Nat.le_refl, Nat.zero_le, Int.reduceLE, Int.reduceToNat, Ez.minmax, Ez.undefD, Ez.boolV, Ez.unV, Bool.not_true, Bool.not_false, Ez.slcD, Ez.loOf, Ez.hiOf, Nat.reduceSub, ha, e3, e9, e10, e34, hq, hr, hb, g0, g1, t0, t1, t2, t3, hdl, c128, htm, hw, hw2, f1, f2, f3, f4, f5, f6, x1, x2, x3, x4, x5, x6, b4])
  refine sq_nil (wp_condF rfl ?_)
  refine wp_seq (wp_sq ?_)
  iterate 2 (refine sq_cons rfl ?_; simp only [Nat.add_eq_left, Nat.left_eq_add, oneW_some, Ez.stepC, Ez.step, Ez.evX, Ez.pureD, Ez.loadD, Ez.storeD, Ez.lenD, Ez.asLit, Ez.asInt, Ez.asBool, getE_cons, Ez.putE, Ez.updH, getH_cons, Ez.iadrD, Ez.rowsOf, Ez.appR, Ez.appD, Ez.srcOf, Ez.cpyD, Ez.frzV, Ez.frz, Ez.frz1, Ez.V.cells, Ez.cellsD, Ez.isCell, Ez.fillP, Ez.rowsy, zeros_one, Ez.litC, Ez.litD, Ez.splice, Ez.scalar, Option.bind_eq_bind, Option.bind_some, if_true, if_false, Option.map_some, Option.map_none, Ez.dInt, Ez.binV, Ez.isShift, Ez.intBin, Nat.reduceEqDiff, Bool.false_eq_true, List.getElem?_cons_zero, List.getElem?_cons_succ, reduceIte, Nat.add_zero, Nat.zero_add, Nat.add_assoc, Nat.reduceAdd, Nat.reduceMul, Nat.reduceLeDiff, Option.some.injEq, reduceCtorEq, Nat.add_left_cancel_iff, List.map_cons, List.map_nil, List.length_cons, List.length_nil, List.take_succ_cons, List.drop_succ_cons, List.take_zero, List.drop_zero, List.take_nil, List.drop_nil, List.all_cons, List.all_nil, Bool.and_self, Bool.and_true, List.cons_append, List.nil_append, List.append_nil, Int.toNat_natCast, Nat.mul_one, Int.natCast_nonneg, and_self, and_true, true_and, Nat.le_refl, Nat.zero_le, Int.reduceLE, Int.reduceToNat, Ez.minmax, Ez.undefD, Ez.boolV, Ez.unV, Bool.not_true, Bool.not_false, Ez.slcD, Ez.loOf, Ez.hiOf, Nat.reduceSub, ha, e3, e9, e10, e34, hq, hr, hb, g0, g1, t0, t1, t2, t3, hdl, c128, htm, hw, hw2, f1, f2, f3, f4, f5, f6, x1, x2, x3, x4, x5, x6, b5])
  refine sq_nil (wp_condF rfl ?_)
  refine wp_seq (wp_sq ?_)
  iterate 2 (refine sq_cons rfl ?_; simp only [Nat.add_eq_left, Nat.left_eq_add, oneW_some, Ez.stepC, Ez.step, Ez.evX, Ez.pureD, Ez.loadD, Ez.storeD, Ez.lenD, Ez.asLit, Ez.asInt, Ez.asBool, getE_cons, Ez.putE, Ez.updH, getH_cons, Ez.iadrD, Ez.rowsOf, Ez.appR, Ez.appD, Ez.srcOf, Ez.cpyD, Ez.frzV, Ez.frz, Ez.frz1, Ez.V.cells, Ez.cellsD, Ez.isCell, Ez.fillP, Ez.rowsy, zeros_one, Ez.litC, Ez.litD, Ez.splice, Ez.scalar, Option.bind_eq_bind, Option.bind_some, if_true, if_false, Option.map_some, Option.map_none, Ez.dInt, Ez.binV, Ez.isShift, Ez.intBin, Nat.reduceEqDiff, Bool.false_eq_true, List.getElem?_cons_zero, List.getElem?_cons_succ, reduceIte, Nat.add_zero, Nat.zero_add, Nat.add_assoc, Nat.reduceAdd, Nat.reduceMul, Nat.reduceLeDiff, Option.some.injEq, reduceCtorEq, Nat.add_left_cancel_iff, List.map_cons, List.map_nil, List.length_cons, List.length_nil, List.take_succ_cons, List.drop_succ_cons, List.take_zero, List.drop_zero, List.take_nil, List.drop_nil, List.all_cons, List.all_nil, Bool.and_self, Bool.and_true, List.cons_append, List.nil_append, List.append_nil, Int.toNat_natCast, Nat.mul_one, Int.natCast_nonneg, and_self, and_true, true_and, Nat.le_refl, Nat.zero_le, Int.reduceLE, Int.reduceToNat, Ez.minmax, Ez.undefD, Ez.boolV, Ez.unV, Bool.not_true, Bool.not_false, Ez.slcD, Ez.loOf, Ez.hiOf, Nat.reduceSub, ha, e3, e9, e10, e34, hq, hr, hb, g0, g1, t0, t1, t2, t3, hdl, c128, htm, hw, hw2, f1, f2, f3, f4, f5, f6, x1, x2, x3, x4, x5, x6, b6])
  refine sq_nil (wp_condT rfl ?_)
  refine wp_sq ?_
  iterate 2 (refine sq_cons rfl ?_; simp only [Nat.add_eq_left, Nat.left_eq_add, oneW_some, Ez.stepC, Ez.step, Ez.evX, Ez.pureD, Ez.loadD, Ez.storeD, Ez.lenD, Ez.asLit, Ez.asInt, Ez.asBool, getE_cons, Ez.putE, Ez.updH, getH_cons, Ez.iadrD, Ez.rowsOf, Ez.appR, Ez.appD, Ez.srcOf, Ez.cpyD, Ez.frzV, Ez.frz, Ez.frz1, Ez.V.cells, Ez.cellsD, Ez.isCell, Ez.fillP, Ez.rowsy, zeros_one, Ez.litC, Ez.litD, Ez.splice, Ez.scalar, Option.bind_eq_bind, Option.bind_some, if_true, if_false, Option.map_some, Option.map_none, Ez.dInt, Ez.binV, Ez.isShift, Ez.intBin, Nat.reduceEqDiff, Bool.false_eq_true, List.getElem?_cons_zero, List.getElem?_cons_succ, reduceIte, Nat.add_zero, Nat.zero_add, Nat.add_assoc, Nat.reduceAdd, Nat.reduceMul, Nat.reduceLeDiff, Option.some.injEq, reduceCtorEq, Nat.add_left_cancel_iff, List.map_cons, List.map_nil, List.length_cons, List.length_nil, List.take_succ_cons, List.drop_succ_cons, List.take_zero, List.drop_zero, List.take_nil, List.drop_nil, List.all_cons, List.all_nil, Bool.and_self, Bool.and_true, List.cons_append, List.nil_append, List.append_nil, Int.toNat_natCast, Nat.mul_one, Int.natCast_nonneg, and_self, and_true, true_and, Nat.le_refl, Nat.zero_le, Int.reduceLE, Int.reduceToNat, Ez.minmax, Ez.undefD, Ez.boolV, Ez.unV, Bool.not_true, Bool.not_false, Ez.slcD, Ez.loOf, Ez.hiOf, Nat.reduceSub, ha, e3, e9, e10, e34, hq, hr, hb, g0, g1, t0, t1, t2, t3, hdl, c128, htm, hw, hw2, f1, f2, f3, f4, f5, f6, x1, x2, x3, x4, x5, x6])
  refine sq_nil ?_
  have hfr : ∀ x, x ≠ q → getH ((q, .box [.arr rid 0 m, .c (.lit (.bool true)), .c (.lit (.bool false)), .c (.lit (.int .i64 0))]) :: h) x = getH h x := fun x hx => by simp only [getH_cons, show (q = x) = False by simp; exact fun e => hx e.symm, if_false]
  have hrow : getH ((q, .box [.arr rid 0 m, .c (.lit (.bool true)), .c (.lit (.bool false)), .c (.lit (.int .i64 0))]) :: h) rid = .rows ds 3 32 := by rw [hfr rid (fun e => nqr e.symm)]; exact hr
  have hrc : RowsC ((q, .box [.arr rid 0 m, .c (.lit (.bool true)), .c (.lit (.bool false)), .c (.lit (.int .i64 0))]) :: h) ds (l1 ++ s :: l2) := by
    rw [hds]
    exact rows_mid (h1.frame fun x hx => hfr x fun e => nq1 (e ▸ hx)) (h2.frame fun x hx => hfr x fun e => nq2 (e ▸ hx)) o1 o2 (cont_all (by rw [hfr a (fun e => nqa e.symm)]; exact ha) s1) (cont_all (by rw [hfr b (fun e => nqb e.symm)]; exact hb) s2) rfl
  obtain ⟨us, y1, y2, us2, y3⟩ := frz_rows hrow hrc
  have hm : (l1 ++ s :: l2).length = m := by simpa using n3
  rw [hm] at y1 y3
  refine hQ _ (.arr rid 0 m) (l1 ++ s :: l2) true false 0 us us2 ?_ ?_ y1 ?_ y3
  · simp only [getE_cons, Nat.reduceEqDiff, if_false, if_true, e9]
  · simp only [getH_cons, if_true, if_false, x1, x2, x3, x4, hq]; try rfl
  · intro p hp
    rcases y2 p hp with y | y
    · rw [y]; exact fun e => nqr e.symm
    · exact ids p.1 y

theorem w4_7 {F : Tab} {Q : Ex → St → Prop} {e : Env} {h : Heap} {N q rid a b k m at_ j : Nat} {i1 i2 : List (Nat × Nat)} {l1 l2 : List Sec} {s : Sec} {ds : List D}
    (e3 : getE e 3 = .c (.lit (.int .u8 (at_ : Int)))) (e9 : getE e 9 = .loc q 0) (e10 : getE e 10 = .c (.lit (.int .i64 (k : Int)))) (e34 : getE e 34 = .c (.lit (.int .u8 7)))
    (hq : getH h q = .box [.arr rid 0 m, .c (.lit (.bool false)), .c (.lit (.bool false)), .c (.lit (.int .i64 0))]) (hr : getH h rid = .rows ds 3 32) (hds : ds = rowD i1 l1 ++ .arr a 0 128 :: .arr b 0 128 :: .c (boolC s.fresh) :: rowD i2 l2)
    (n1 : i1.length = l1.length) (n2 : l1.length = k) (n3 : (l1 ++ s :: l2).length = m) (h1 : Held h i1 l1) (h2 : Held h i2 l2) (o1 : Okay l1) (o2 : Okay l2) (s1 : s.sure.length = 128) (s2 : s.data.length = 128)
    (ha : getH h a = .arr (bytesC s.sure) 1 0 5) (hb : getH h b = .arr (bytesC s.data) 1 0 5) (nd : (q :: rid :: a :: b :: (flat i1 ++ flat i2)).Nodup) (hat : at_ < 256) (hj : j = at_ % 128)
    (hQ : ∀ (t : St) (X : D) (l : List Sec) (d ar : Bool) (le : Int) (us us2 : List (Nat × Ez.Obj)), getE t.env 9 = .loc q 0 → getH t.heap q = .box [X, .c (boolC d), .c (boolC ar), .c (intC le)] → frz t.heap X = some (secsS l, us) → (∀ p ∈ us, p.1 ≠ q) → frz (updH t.heap us) X = some (secsS l, us2) → Q .normal t) : WP F W4 ⟨e, h, N⟩ Q := by
  have hlen := rowD_len n1
  rw [n2] at hlen
  simp only [List.nodup_cons, List.mem_cons, List.mem_append, not_or] at nd
  obtain ⟨⟨nqr, nqa, nqb, nq1, nq2⟩, ⟨nra, nrb, nr1, nr2⟩, ⟨nab, na1, na2⟩, ⟨nb1, nb2⟩, nd12⟩ := nd
  have g0 : ds[k * 3]? = some (.arr a 0 128) := by rw [hds, List.getElem?_append_right (by omega), hlen, Nat.sub_self]; rfl
  have g1 : ds[k * 3 + 1]? = some (.arr b 0 128) := by rw [hds, List.getElem?_append_right (by omega), hlen, Nat.add_sub_cancel_left]; rfl
  have t0 : ds.take (k * 3) = rowD i1 l1 := by rw [hds, List.take_append_of_le_length (by omega), List.take_of_length_le (by omega)]
  have t1 : ds.drop (k * 3 + 1) = .arr b 0 128 :: .c (boolC s.fresh) :: rowD i2 l2 := by rw [hds, List.drop_append, hlen, List.drop_eq_nil_of_le (by omega), Nat.add_sub_cancel_left]; rfl
  have t2 : ds.take (k * 3 + 2) = rowD i1 l1 ++ [.arr a 0 128, .arr b 0 128] := by rw [hds, List.take_append, hlen, List.take_of_length_le (by omega), Nat.add_sub_cancel_left]; rfl
  have t3 : ds.drop (k * 3 + 3) = rowD i2 l2 := by rw [hds, List.drop_append, hlen, List.drop_eq_nil_of_le (by omega), Nat.add_sub_cancel_left]; rfl
  have hdl : ds.length = m * 3 := by rw [hds, List.length_append, hlen, ← n3]; simp [rowD_len h2.len]; omega
  have hkm : k < m := by rw [← n3, List.length_append, n2]; simp
  have hj128 : j < 128 := by omega
  have c128 : ((128 : Int) = 0) = False := by simp
  have htm : (at_ : Int).tmod 128 = (j : Int) := by rw [hj]; rfl
  have hw : IntKind.wrap .i64 (at_ : Int) = (at_ : Int) := Go.Proofs.Ytfphnpelampoeaa.wrap_i64 _ (by omega)
  have hw2 : IntKind.wrap .i64 ((at_ : Int) - 100) = (at_ : Int) - 100 := Go.Proofs.Ytfphnpelampoeaa.wrap_i64 _ (by omega)
  have f1 : ((k : Int) < (m : Int)) = True := by simpa using hkm
  have f2 : ((j : Int) < ((128 : Nat) : Int)) = True := by simp; omega
  have f3 : (bytesC s.data).length = 128 := by rw [bytesC_len]; exact s2
  have f4 : (j + 1 ≤ 128) = True := by simp; omega
  have f5 : (k * 3 + 3 ≤ m * 3) = True := by simp; omega
  have f6 : (k * 3 + 1 ≤ m * 3) = True := by simp; omega
  have x1 : (q = rid) = False := by simpa using nqr
  have x2 : (rid = q) = False := by simpa using fun e : rid = q => nqr e.symm
  have x3 : (b = q) = False := by simpa using fun e : b = q => nqb e.symm
  have x4 : (b = rid) = False := by simpa using fun e : b = rid => nrb e.symm
  have x5 : (q = b) = False := by simpa using nqb
  have x6 : (rid = b) = False := by simpa using nrb
  have ids : ∀ x, x ∈ arrIds ds → x ≠ q := by
    intro x hx
    rw [hds, arrIds_flat, List.flatMap_append, ← arrIds_flat, ← arrIds_flat] at hx
    simp only [arrIds, List.mem_append, List.mem_cons] at hx
    rcases hx with hx | hx | hx | hx
    · exact fun e => nq1 (e ▸ arrIds_rowD x hx)
    · rw [hx]; exact fun e => nqa e.symm
    · rw [hx]; exact fun e => nqb e.symm
    · exact fun e => nq2 (e ▸ arrIds_rowD x hx)
  have b0 : ((7 : Int) == 0) = false := rfl
  have b1 : ((7 : Int) == 1) = false := rfl
  have b2 : ((7 : Int) == 2) = false := rfl
  have b3 : ((7 : Int) == 3) = false := rfl
  have b4 : ((7 : Int) == 4) = false := rfl
  have b5 : ((7 : Int) == 5) = false := rfl
  have b6 : ((7 : Int) == 6) = false := rfl
  simp only [W4, I4]
  refine wp_block ?_
  refine wp_seq (wp_sq ?_)
  iterate 2 (refine sq_cons rfl ?_; simp only [Nat.add_eq_left, Nat.left_eq_add, oneW_some, Ez.stepC, Ez.step, Ez.evX, Ez.pureD, Ez.loadD, Ez.storeD, Ez.lenD, Ez.asLit, Ez.asInt, Ez.asBool, getE_cons, Ez.putE, Ez.updH, getH_cons, Ez.iadrD, Ez.rowsOf, Ez.appR, Ez.appD, Ez.srcOf, Ez.cpyD, Ez.frzV, Ez.frz, Ez.frz1, Ez.V.cells, Ez.cellsD, Ez.isCell, Ez.fillP, Ez.rowsy, zeros_one, Ez.litC, Ez.litD, Ez.splice, Ez.scalar, Option.bind_eq_bind, Option.bind_some, if_true, if_false, Option.map_some, Option.map_none, Ez.dInt, Ez.binV, Ez.isShift, Ez.intBin, Nat.reduceEqDiff, Bool.false_eq_true, List.getElem?_cons_zero, List.getElem?_cons_succ, reduceIte, Nat.add_zero, Nat.zero_add, Nat.add_assoc, Nat.reduceAdd, Nat.reduceMul, Nat.reduceLeDiff, Option.some.injEq, reduceCtorEq, Nat.add_left_cancel_iff, List.map_cons, List.map_nil, List.length_cons, List.length_nil, List.take_succ_cons, List.drop_succ_cons, List.take_zero, List.drop_zero, List.take_nil, List.drop_nil, List.all_cons, List.all_nil, Bool.and_self, Bool.and_true, List.cons_append, List.nil_append, List.append_nil, Int.toNat_natCast, Nat.mul_one, Int.natCast_nonneg, and_self, and_true, true_and, Nat.le_refl, Nat.zero_le, Int.reduceLE, Int.reduceToNat, Ez.minmax, Ez.undefD, Ez.boolV, Ez.unV, Bool.not_true, Bool.not_false, Ez.slcD, Ez.loOf, Ez.hiOf, Nat.reduceSub, ha, e3, e9, e10, e34, hq, hr, hb, g0, g1, t0, t1, t2, t3, hdl, c128, htm, hw, hw2, f1, f2, f3, f4, f5, f6, x1, x2, x3, x4, x5, x6, b0])
  refine sq_nil (wp_condF rfl ?_)
  refine wp_seq (wp_sq ?_)
  iterate 2 (refine sq_cons rfl ?_; simp only [Nat.add_eq_left, Nat.left_eq_add, oneW_some, Ez.stepC, Ez.step, Ez.evX, Ez.pureD, Ez.loadD, Ez.storeD, Ez.lenD, Ez.asLit, Ez.asInt, Ez.asBool, getE_cons, Ez.putE, Ez.updH, getH_cons, Ez.iadrD, Ez.rowsOf, Ez.appR, Ez.appD, Ez.srcOf, Ez.cpyD, Ez.frzV, Ez.frz, Ez.frz1, Ez.V.cells, Ez.cellsD, Ez.isCell, Ez.fillP, Ez.rowsy, zeros_one, Ez.litC, Ez.litD, Ez.splice, Ez.scalar, Option.bind_eq_bind, Option.bind_some, if_true, if_false, Option.map_some, Option.map_none, Ez.dInt, Ez.binV, Ez.isShift, Ez.intBin, Nat.reduceEqDiff, Bool.false_eq_true, List.getElem?_cons_zero, List.getElem?_cons_succ, reduceIte, Nat.add_zero, Nat.zero_add, Nat.add_assoc, Nat.reduceAdd, Nat.reduceMul, Nat.reduceLeDiff, Option.some.injEq, reduceCtorEq, Nat.add_left_cancel_iff, List.map_cons, List.map_nil, List.length_cons, List.length_nil, List.take_succ_cons, List.drop_succ_cons, List.take_zero, List.drop_zero, List.take_nil, List.drop_nil, List.all_cons, List.all_nil, Bool.and_self, Bool.and_true, List.cons_append, List.nil_append, List.append_nil, Int.toNat_natCast, Nat.mul_one, Int.natCast_nonneg, and_self, and_true, true_and, Nat.le_refl, Nat.zero_le, Int.reduceLE, Int.reduceToNat, Ez.minmax, Ez.undefD, Ez.boolV, Ez.unV, Bool.not_true, Bool.not_false, Ez.slcD, Ez.loOf, Ez.hiOf, Nat.reduceSub, ha, e3, e9, e10, e34, hq, hr, hb, g0, g1, t0, t1, t2, t3, hdl, c128, htm, hw, hw2, f1, f2, f3, f4, f5, f6, x1, x2, x3, x4, x5, x6, b1])
  refine sq_nil (wp_condF rfl ?_)
  refine wp_seq (wp_sq ?_)
  iterate 2 (refine sq_cons rfl ?_; simp only [Nat.add_eq_left, Nat.left_eq_add, oneW_some, Ez.stepC, Ez.step, Ez.evX, Ez.pureD, Ez.loadD, Ez.storeD, Ez.lenD, Ez.asLit, Ez.asInt, Ez.asBool, getE_cons, Ez.putE, Ez.updH, getH_cons, Ez.iadrD, Ez.rowsOf, Ez.appR, Ez.appD, Ez.srcOf, Ez.cpyD, Ez.frzV, Ez.frz, Ez.frz1, Ez.V.cells, Ez.cellsD, Ez.isCell, Ez.fillP, Ez.rowsy, zeros_one, Ez.litC, Ez.litD, Ez.splice, Ez.scalar, Option.bind_eq_bind, Option.bind_some, if_true, if_false, Option.map_some, Option.map_none, Ez.dInt, Ez.binV, Ez.isShift, Ez.intBin, Nat.reduceEqDiff, Bool.false_eq_true, List.getElem?_cons_zero, List.getElem?_cons_succ, reduceIte, Nat.add_zero, Nat.zero_add, Nat.add_assoc, Nat.reduceAdd, Nat.reduceMul, Nat.reduceLeDiff, Option.some.injEq, reduceCtorEq, Nat.add_left_cancel_iff, List.map_cons, List.map_nil, List.length_cons, List.length_nil, List.take_succ_cons, List.drop_succ_cons, List.take_zero, List.drop_zero, List.take_nil, List.drop_nil, List.all_cons, List.all_nil, Bool.and_self, Bool.and_true, List.cons_append, List.nil_append, List.append_nil, Int.toNat_natCast, Nat.mul_one, Int.natCast_nonneg, and_self, and_true, true_and, Nat.le_refl, Nat.zero_le, Int.reduceLE, Int.reduceToNat, Ez.minmax, Ez.undefD, Ez.boolV, Ez.unV, Bool.not_true, Bool.not_false, Ez.slcD, Ez.loOf, Ez.hiOf, Nat.reduceSub, ha, e3, e9, e10, e34, hq, hr, hb, g0, g1, t0, t1, t2, t3, hdl, c128, htm, hw, hw2, f1, f2, f3, f4, f5, f6, x1, x2, x3, x4, x5, x6, b2])
  refine sq_nil (wp_condF rfl ?_)
  refine wp_seq (wp_sq ?_)
  iterate 2 (refine sq_cons rfl ?_; simp only [Nat.add_eq_left, Nat.left_eq_add, oneW_some, Ez.stepC, Ez.step, Ez.evX, Ez.pureD, Ez.loadD, Ez.storeD, Ez.lenD, Ez.asLit, Ez.asInt, Ez.asBool, getE_cons, Ez.putE, Ez.updH, getH_cons, Ez.iadrD, Ez.rowsOf, Ez.appR, Ez.appD, Ez.srcOf, Ez.cpyD, Ez.frzV, Ez.frz, Ez.frz1, Ez.V.cells, Ez.cellsD, Ez.isCell, Ez.fillP, Ez.rowsy, zeros_one, Ez.litC, Ez.litD, Ez.splice, Ez.scalar, Option.bind_eq_bind, Option.bind_some, if_true, if_false, Option.map_some, Option.map_none, Ez.dInt, Ez.binV, Ez.isShift, Ez.intBin, Nat.reduceEqDiff, Bool.false_eq_true, List.getElem?_cons_zero, List.getElem?_cons_succ, reduceIte, Nat.add_zero, Nat.zero_add, Nat.add_assoc, Nat.reduceAdd, Nat.reduceMul, Nat.reduceLeDiff, Option.some.injEq, reduceCtorEq, Nat.add_left_cancel_iff, List.map_cons, List.map_nil, List.length_cons, List.length_nil, List.take_succ_cons, List.drop_succ_cons, List.take_zero, List.drop_zero, List.take_nil, List.drop_nil, List.all_cons, List.all_nil, Bool.and_self, Bool.and_true, List.cons_append, List.nil_append, List.append_nil, Int.toNat_natCast, Nat.mul_one, Int.natCast_nonneg, and_self, and_true, true_and, Nat.le_refl, Nat.zero_le, Int.reduceLE, Int.reduceToNat, Ez.minmax, Ez.undefD, Ez.boolV, Ez.unV, Bool.not_true, Bool.not_false, Ez.slcD, Ez.loOf, Ez.hiOf, Nat.reduceSub, ha, e3, e9, e10, e34, hq, hr, hb, g0, g1, t0, t1, t2, t3, hdl, c128, htm, hw, hw2, f1, f2, f3, f4, f5, f6, x1, x2, x3, x4, x5, x6, b3])
  refine sq_nil (wp_condF rfl ?_)
  refine wp_seq (wp_sq ?_)
  iterate 2 (refine sq_cons rfl ?_; simp only [Nat.add_eq_left, Nat.left_eq_add, oneW_some, Ez.stepC, Ez.step, Ez.evX, Ez.pureD, Ez.loadD, Ez.storeD, Ez.lenD, Ez.asLit, Ez.asInt, Ez.asBool, getE_cons, Ez.putE, Ez.updH, getH_cons, Ez.iadrD, Ez.rowsOf, Ez.appR, Ez.appD, Ez.srcOf, Ez.cpyD, Ez.frzV, Ez.frz, Ez.frz1, Ez.V.cells, Ez.cellsD, Ez.isCell, Ez.fillP, Ez.rowsy, zeros_one, Ez.litC, Ez.litD, Ez.splice, Ez.scalar, Option.bind_eq_bind, Option.bind_some, if_true, if_false, Option.map_some, Option.map_none, Ez.dInt, Ez.binV, Ez.isShift, Ez.intBin, Nat.reduceEqDiff, Bool.false_eq_true, List.getElem?_cons_zero, List.getElem?_cons_succ, reduceIte, Nat.add_zero, Nat.zero_add, Nat.add_assoc, Nat.reduceAdd, Nat.reduceMul, Nat.reduceLeDiff, Option.some.injEq, reduceCtorEq, Nat.add_left_cancel_iff, List.map_cons, List.map_nil, List.length_cons, List.length_nil, List.take_succ_cons, List.drop_succ_cons, List.take_zero, List.drop_zero, List.take_nil, List.drop_nil, List.all_cons, List.all_nil, Bool.and_self, Bool.and_true, List.cons_append, List.nil_append, List.append_nil, Int.toNat_natCast, Nat.mul_one, Int.natCast_nonneg, and_self, and_true, true_and, Nat.le_refl, Nat.zero_le, Int.reduceLE, Int.reduceToNat, Ez.minmax, Ez.undefD, Ez.boolV, Ez.unV, Bool.not_true, Bool.not_false, Ez.slcD, Ez.loOf, Ez.hiOf, Nat.reduceSub, ha, e3, e9, e10, e34, hq, hr, hb, g0, g1, t0, t1, t2, t3, hdl, c128, htm, hw, hw2, f1, f2, f3, f4, f5, f6, x1, x2, x3, x4, x5, x6, b4])
  refine sq_nil (wp_condF rfl ?_)
  refine wp_seq (wp_sq ?_)
  iterate 2 (refine sq_cons rfl ?_; simp only [Nat.add_eq_left, Nat.left_eq_add, oneW_some, Ez.stepC, Ez.step, Ez.evX, Ez.pureD, Ez.loadD, Ez.storeD, Ez.lenD, Ez.asLit, Ez.asInt, Ez.asBool, getE_cons, Ez.putE, Ez.updH, getH_cons, Ez.iadrD, Ez.rowsOf, Ez.appR, Ez.appD, Ez.srcOf, Ez.cpyD, Ez.frzV, Ez.frz, Ez.frz1, Ez.V.cells, Ez.cellsD, Ez.isCell, Ez.fillP, Ez.rowsy, zeros_one, Ez.litC, Ez.litD, Ez.splice, Ez.scalar, Option.bind_eq_bind, Option.bind_some, if_true, if_false, Option.map_some, Option.map_none, Ez.dInt, Ez.binV, Ez.isShift, Ez.intBin, Nat.reduceEqDiff, Bool.false_eq_true, List.getElem?_cons_zero, List.getElem?_cons_succ, reduceIte, Nat.add_zero, Nat.zero_add, Nat.add_assoc, Nat.reduceAdd, Nat.reduceMul, Nat.reduceLeDiff, Option.some.injEq, reduceCtorEq, Nat.add_left_cancel_iff, List.map_cons, List.map_nil, List.length_cons, List.length_nil, List.take_succ_cons, List.drop_succ_cons, List.take_zero, List.drop_zero, List.take_nil, List.drop_nil, List.all_cons, List.all_nil, Bool.and_self, Bool.and_true, List.cons_append, List.nil_append, List.append_nil, Int.toNat_natCast, Nat.mul_one, Int.natCast_nonneg, and_self, and_true, true_and, Nat.le_refl, Nat.zero_le, Int.reduceLE, Int.reduceToNat, Ez.minmax, Ez.undefD, Ez.boolV, Ez.unV, Bool.not_true, Bool.not_false, Ez.slcD, Ez.loOf, Ez.hiOf, Nat.reduceSub, ha, e3, e9, e10, e34, hq, hr, hb, g0, g1, t0, t1, t2, t3, hdl, c128, htm, hw, hw2, f1, f2, f3, f4, f5, f6, x1, x2, x3, x4, x5, x6, b5])
  refine sq_nil (wp_condF rfl ?_)
  refine wp_seq (wp_sq ?_)
  iterate 2 (refine sq_cons rfl ?_; simp only [Nat.add_eq_left, Nat.left_eq_add, oneW_some, Ez.stepC, Ez.step, Ez.evX, Ez.pureD, Ez.loadD, Ez.storeD, Ez.lenD, Ez.asLit, Ez.asInt, Ez.asBool, getE_cons, Ez.putE, Ez.updH, getH_cons, Ez.iadrD, Ez.rowsOf, Ez.appR, Ez.appD, Ez.srcOf, Ez.cpyD, Ez.frzV, Ez.frz, Ez.frz1, Ez.V.cells, Ez.cellsD, Ez.isCell, Ez.fillP, Ez.rowsy, zeros_one, Ez.litC, Ez.litD, Ez.splice, Ez.scalar, Option.bind_eq_bind, Option.bind_some, if_true, if_false, Option.map_some, Option.map_none, Ez.dInt, Ez.binV, Ez.isShift, Ez.intBin, Nat.reduceEqDiff, Bool.false_eq_true, List.getElem?_cons_zero, List.getElem?_cons_succ, reduceIte, Nat.add_zero, Nat.zero_add, Nat.add_assoc, Nat.reduceAdd, Nat.reduceMul, Nat.reduceLeDiff, Option.some.injEq, reduceCtorEq, Nat.add_left_cancel_iff, List.map_cons, List.map_nil, List.length_cons, List.length_nil, List.take_succ_cons, List.drop_succ_cons, List.take_zero, List.drop_zero, List.take_nil, List.drop_nil, List.all_cons, List.all_nil, Bool.and_self, Bool.and_true, List.cons_append, List.nil_append, List.append_nil, Int.toNat_natCast, Nat.mul_one, Int.natCast_nonneg, and_self, and_true, true_and, Nat.le_refl, Nat.zero_le, Int.reduceLE, Int.reduceToNat, Ez.minmax, Ez.undefD, Ez.boolV, Ez.unV, Bool.not_true, Bool.not_false, Ez.slcD, Ez.loOf, Ez.hiOf, Nat.reduceSub, ha, e3, e9, e10, e34, hq, hr, hb, g0, g1, t0, t1, t2, t3, hdl, c128, htm, hw, hw2, f1, f2, f3, f4, f5, f6, x1, x2, x3, x4, x5, x6, b6])
  refine sq_nil (wp_condF rfl ?_)
  refine wp_skip ?_
  have hfr : ∀ x, x ≠ q → getH h x = getH h x := fun _ _ => rfl
  have hrow : getH h rid = .rows ds 3 32 := by rw [hfr rid (fun e => nqr e.symm)]; exact hr
  have hrc : RowsC h ds (l1 ++ s :: l2) := by
    rw [hds]
    exact rows_mid (h1.frame fun x hx => hfr x fun e => nq1 (e ▸ hx)) (h2.frame fun x hx => hfr x fun e => nq2 (e ▸ hx)) o1 o2 (cont_all (by rw [hfr a (fun e => nqa e.symm)]; exact ha) s1) (cont_all (by rw [hfr b (fun e => nqb e.symm)]; exact hb) s2) rfl
  obtain ⟨us, y1, y2, us2, y3⟩ := frz_rows hrow hrc
  have hm : (l1 ++ s :: l2).length = m := by simpa using n3
  rw [hm] at y1 y3
  refine hQ _ (.arr rid 0 m) (l1 ++ s :: l2) false false 0 us us2 ?_ ?_ y1 ?_ y3
  · simp only [getE_cons, Nat.reduceEqDiff, if_false, if_true, e9]
  · simp only [getH_cons, if_true, if_false, x1, x2, x3, x4, hq]; try rfl
  · intro p hp
    rcases y2 p hp with y | y
    · rw [y]; exact fun e => nqr e.symm
    · exact ids p.1 y

end Go.Proofs.Ytfphnpelampoeaa.Rw

