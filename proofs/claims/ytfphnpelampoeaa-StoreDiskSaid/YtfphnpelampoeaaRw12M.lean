/-
  Power, reads and writes of sectors, by the program.
-/
import Derived.Test.YtfphnpelampoeaaRw11M
set_option linter.unusedVariables false
set_option linter.unusedSimpArgs false
namespace Go.Proofs.Ytfphnpelampoeaa.Rw
open Go Go.Ez

theorem use_off {F : Tab} (hF : F.code = code) (hN : ∀ f vs, f ≠ 10 → F.nat f vs = none) (l : List Sec) (de : Bool) (le : Int) : RunF F 37 [dskV l de false le] [dskV l de false le, .one (boolC true)] := by
  refine RunF.diskE (I := I37) (t := 2) (t2 := 3) (by rw [hF]; rfl) (hN 37 _ (by omega)) rfl rfl rfl ?_
  unfold I37
  simp only [bindArgs, boolC, intC, secsS, V.toD, dskV, List.map_cons, List.map_nil]
  refine wp_seq (wp_sq ?_)
  iterate 3 (refine sq_cons rfl ?_; simp only [ZS, Ez.lenD, Ez.appR, Ez.appD, Ez.srcOf, Ez.cpyD, Ez.frzV, Ez.frz, Ez.frz1, Ez.splice, if_true, if_false, Ez.intBin, Nat.reduceEqDiff, reduceIte, Nat.reduceAdd, Nat.reduceMul, Nat.reduceLeDiff, reduceCtorEq, Int.reduceLE, Int.reduceToNat, Nat.reduceSub, Bool.not_true, Bool.not_false])
  refine sq_nil (wp_seq (wp_seq (wp_sq ?_)))
  iterate 3 (refine sq_cons rfl ?_; simp only [ZS, Ez.lenD, Ez.appR, Ez.appD, Ez.srcOf, Ez.cpyD, Ez.frzV, Ez.frz, Ez.frz1, Ez.splice, if_true, if_false, Ez.intBin, Nat.reduceEqDiff, reduceIte, Nat.reduceAdd, Nat.reduceMul, Nat.reduceLeDiff, reduceCtorEq, Int.reduceLE, Int.reduceToNat, Nat.reduceSub, Bool.not_true, Bool.not_false])
  refine sq_nil (wp_condT rfl (wp_seq (wp_sq ?_)))
  iterate 3 (refine sq_cons rfl ?_; simp only [ZS, Ez.lenD, Ez.appR, Ez.appD, Ez.srcOf, Ez.cpyD, Ez.frzV, Ez.frz, Ez.frz1, Ez.splice, if_true, if_false, Ez.intBin, Nat.reduceEqDiff, reduceIte, Nat.reduceAdd, Nat.reduceMul, Nat.reduceLeDiff, reduceCtorEq, Int.reduceLE, Int.reduceToNat, Nat.reduceSub, Bool.not_true, Bool.not_false])
  refine sq_nil (wp_ret ⟨rfl, ⟨1, ?_, .c (secsS l), [], ?_, rfl⟩, rfl⟩)
  · simp only [getE_cons, Nat.reduceEqDiff, if_false, if_true]
  · simp only [getH_cons, if_true, if_false, Nat.reduceEqDiff]; rfl

theorem use_out {F : Tab} (hF : F.code = code) (hN : ∀ f vs, f ≠ 10 → F.nat f vs = none) (l : List Sec) (de : Bool) : RunF F 37 [dskV l de true 0] [dskV l true true 0, .one (boolC false)] := by
  have c0 : ((0 : Int) == 0) = true := rfl
  refine RunF.diskE (I := I37) (t := 2) (t2 := 3) (by rw [hF]; rfl) (hN 37 _ (by omega)) rfl rfl rfl ?_
  unfold I37
  simp only [bindArgs, boolC, intC, secsS, V.toD, dskV, List.map_cons, List.map_nil]
  refine wp_seq (wp_sq ?_)
  iterate 3 (refine sq_cons rfl ?_; simp only [ZS, Ez.lenD, Ez.appR, Ez.appD, Ez.srcOf, Ez.cpyD, Ez.frzV, Ez.frz, Ez.frz1, Ez.splice, if_true, if_false, Ez.intBin, Nat.reduceEqDiff, reduceIte, Nat.reduceAdd, Nat.reduceMul, Nat.reduceLeDiff, reduceCtorEq, Int.reduceLE, Int.reduceToNat, Nat.reduceSub, Bool.not_true, Bool.not_false])
  refine sq_nil (wp_seq (wp_seq (wp_sq ?_)))
  iterate 3 (refine sq_cons rfl ?_; simp only [ZS, Ez.lenD, Ez.appR, Ez.appD, Ez.srcOf, Ez.cpyD, Ez.frzV, Ez.frz, Ez.frz1, Ez.splice, if_true, if_false, Ez.intBin, Nat.reduceEqDiff, reduceIte, Nat.reduceAdd, Nat.reduceMul, Nat.reduceLeDiff, reduceCtorEq, Int.reduceLE, Int.reduceToNat, Nat.reduceSub, Bool.not_true, Bool.not_false])
  refine sq_nil (wp_condF rfl (wp_skip ?_))
  refine wp_seq (wp_seq (wp_sq ?_))
  iterate 3 (refine sq_cons rfl ?_; simp only [ZS, Ez.lenD, Ez.appR, Ez.appD, Ez.srcOf, Ez.cpyD, Ez.frzV, Ez.frz, Ez.frz1, Ez.splice, if_true, if_false, Ez.intBin, Nat.reduceEqDiff, reduceIte, Nat.reduceAdd, Nat.reduceMul, Nat.reduceLeDiff, reduceCtorEq, Int.reduceLE, Int.reduceToNat, Nat.reduceSub, Bool.not_true, Bool.not_false, c0])
  refine sq_nil (wp_condT rfl (wp_seq (wp_sq ?_)))
  iterate 2 (refine sq_cons rfl ?_; simp only [ZS, Ez.lenD, Ez.appR, Ez.appD, Ez.srcOf, Ez.cpyD, Ez.frzV, Ez.frz, Ez.frz1, Ez.splice, if_true, if_false, Ez.intBin, Nat.reduceEqDiff, reduceIte, Nat.reduceAdd, Nat.reduceMul, Nat.reduceLeDiff, reduceCtorEq, Int.reduceLE, Int.reduceToNat, Nat.reduceSub, Bool.not_true, Bool.not_false])
  refine sq_nil (wp_seq (wp_sq ?_))
  iterate 3 (refine sq_cons rfl ?_; simp only [ZS, Ez.lenD, Ez.appR, Ez.appD, Ez.srcOf, Ez.cpyD, Ez.frzV, Ez.frz, Ez.frz1, Ez.splice, if_true, if_false, Ez.intBin, Nat.reduceEqDiff, reduceIte, Nat.reduceAdd, Nat.reduceMul, Nat.reduceLeDiff, reduceCtorEq, Int.reduceLE, Int.reduceToNat, Nat.reduceSub, Bool.not_true, Bool.not_false])
  refine sq_nil (wp_ret ⟨rfl, ⟨1, ?_, .c (secsS l), [], ?_, rfl⟩, rfl⟩)
  · simp only [getE_cons, Nat.reduceEqDiff, if_false, if_true]
  · simp only [getH_cons, if_true, if_false, Nat.reduceEqDiff]; rfl

theorem use_on {F : Tab} (hF : F.code = code) (hN : ∀ f vs, f ≠ 10 → F.nat f vs = none) (l : List Sec) (de : Bool) (le : Int) (h0 : 0 < le) (h1 : le < 1000000) : RunF F 37 [dskV l de true le] [dskV l de true (le - 1), .one (boolC true)] := by
  have c0 : (le == 0) = false := by simp; omega
  have hw : IntKind.wrap .i64 (le - 1) = le - 1 := Go.Proofs.Ytfphnpelampoeaa.wrap_i64 _ (by omega)
  refine RunF.diskE (I := I37) (t := 2) (t2 := 3) (by rw [hF]; rfl) (hN 37 _ (by omega)) rfl rfl rfl ?_
  unfold I37
  simp only [bindArgs, boolC, intC, secsS, V.toD, dskV, List.map_cons, List.map_nil]
  refine wp_seq (wp_sq ?_)
  iterate 3 (refine sq_cons rfl ?_; simp only [ZS, Ez.lenD, Ez.appR, Ez.appD, Ez.srcOf, Ez.cpyD, Ez.frzV, Ez.frz, Ez.frz1, Ez.splice, if_true, if_false, Ez.intBin, Nat.reduceEqDiff, reduceIte, Nat.reduceAdd, Nat.reduceMul, Nat.reduceLeDiff, reduceCtorEq, Int.reduceLE, Int.reduceToNat, Nat.reduceSub, Bool.not_true, Bool.not_false])
  refine sq_nil (wp_seq (wp_seq (wp_sq ?_)))
  iterate 3 (refine sq_cons rfl ?_; simp only [ZS, Ez.lenD, Ez.appR, Ez.appD, Ez.srcOf, Ez.cpyD, Ez.frzV, Ez.frz, Ez.frz1, Ez.splice, if_true, if_false, Ez.intBin, Nat.reduceEqDiff, reduceIte, Nat.reduceAdd, Nat.reduceMul, Nat.reduceLeDiff, reduceCtorEq, Int.reduceLE, Int.reduceToNat, Nat.reduceSub, Bool.not_true, Bool.not_false])
  refine sq_nil (wp_condF rfl (wp_skip ?_))
  refine wp_seq (wp_seq (wp_sq ?_))
  iterate 3 (refine sq_cons rfl ?_; simp only [ZS, Ez.lenD, Ez.appR, Ez.appD, Ez.srcOf, Ez.cpyD, Ez.frzV, Ez.frz, Ez.frz1, Ez.splice, if_true, if_false, Ez.intBin, Nat.reduceEqDiff, reduceIte, Nat.reduceAdd, Nat.reduceMul, Nat.reduceLeDiff, reduceCtorEq, Int.reduceLE, Int.reduceToNat, Nat.reduceSub, Bool.not_true, Bool.not_false, c0])
  refine sq_nil (wp_condF rfl (wp_skip ?_))
  refine wp_seq (wp_sq ?_)
  iterate 5 (refine sq_cons rfl ?_; simp only [ZS, Ez.lenD, Ez.appR, Ez.appD, Ez.srcOf, Ez.cpyD, Ez.frzV, Ez.frz, Ez.frz1, Ez.splice, if_true, if_false, Ez.intBin, Nat.reduceEqDiff, reduceIte, Nat.reduceAdd, Nat.reduceMul, Nat.reduceLeDiff, reduceCtorEq, Int.reduceLE, Int.reduceToNat, Nat.reduceSub, Bool.not_true, Bool.not_false, hw])
  refine sq_nil (wp_seq (wp_sq ?_))
  iterate 3 (refine sq_cons rfl ?_; simp only [ZS, Ez.lenD, Ez.appR, Ez.appD, Ez.srcOf, Ez.cpyD, Ez.frzV, Ez.frz, Ez.frz1, Ez.splice, if_true, if_false, Ez.intBin, Nat.reduceEqDiff, reduceIte, Nat.reduceAdd, Nat.reduceMul, Nat.reduceLeDiff, reduceCtorEq, Int.reduceLE, Int.reduceToNat, Nat.reduceSub, Bool.not_true, Bool.not_false])
  refine sq_nil (wp_ret ⟨rfl, ⟨1, ?_, .c (secsS l), [], ?_, rfl⟩, rfl⟩)
  · simp only [getE_cons, Nat.reduceEqDiff, if_false, if_true]
  · simp only [getH_cons, if_true, if_false, Nat.reduceEqDiff]; rfl

theorem write_dead {F : Tab} (hF : F.code = code) (hN : ∀ f vs, f ≠ 10 → F.nat f vs = none) (l : List Sec) (ar : Bool) (le i : Int) (b : List UInt8) : RunF F 27 [dskV l true ar le, .one (intC i), .one (bytesS b)] [dskV l true ar le, .one (intC 51)] := by
  refine RunF.diskE (I := I27) (t := 6) (t2 := 7) (by rw [hF]; rfl) (hN 27 _ (by omega)) rfl rfl rfl ?_
  unfold I27
  simp only [bindArgs, boolC, intC, secsS, bytesS, V.toD, dskV, List.map_cons, List.map_nil]
  refine wp_seq (wp_sq ?_)
  iterate 3 (refine sq_cons rfl ?_; simp only [ZS, Ez.lenD, Ez.appR, Ez.appD, Ez.srcOf, Ez.cpyD, Ez.frzV, Ez.frz, Ez.frz1, Ez.splice, if_true, if_false, Ez.intBin, Nat.reduceEqDiff, reduceIte, Nat.reduceAdd, Nat.reduceMul, Nat.reduceLeDiff, reduceCtorEq, Int.reduceLE, Int.reduceToNat, Nat.reduceSub, Bool.not_true, Bool.not_false])
  refine sq_nil (wp_seq (wp_seq (wp_sq ?_)))
  iterate 2 (refine sq_cons rfl ?_; simp only [ZS, Ez.lenD, Ez.appR, Ez.appD, Ez.srcOf, Ez.cpyD, Ez.frzV, Ez.frz, Ez.frz1, Ez.splice, if_true, if_false, Ez.intBin, Nat.reduceEqDiff, reduceIte, Nat.reduceAdd, Nat.reduceMul, Nat.reduceLeDiff, reduceCtorEq, Int.reduceLE, Int.reduceToNat, Nat.reduceSub, Bool.not_true, Bool.not_false])
  refine sq_nil (wp_condT rfl (wp_seq (wp_sq ?_)))
  iterate 3 (refine sq_cons rfl ?_; simp only [ZS, Ez.lenD, Ez.appR, Ez.appD, Ez.srcOf, Ez.cpyD, Ez.frzV, Ez.frz, Ez.frz1, Ez.splice, if_true, if_false, Ez.intBin, Nat.reduceEqDiff, reduceIte, Nat.reduceAdd, Nat.reduceMul, Nat.reduceLeDiff, reduceCtorEq, Int.reduceLE, Int.reduceToNat, Nat.reduceSub, Bool.not_true, Bool.not_false])
  refine sq_nil (wp_ret ⟨rfl, ⟨1, ?_, .c (secsS l), [], ?_, rfl⟩, rfl⟩)
  · simp only [getE_cons, Nat.reduceEqDiff, if_false, if_true]
  · simp only [getH_cons, if_true, if_false, Nat.reduceEqDiff]; rfl

theorem wtest27 (F : Tab) {Q : St → Prop} {e : Env} {h : Heap} {N p n m : Nat} {i : Int} {cells cb : List C} {d1 d2 d3 D6 D8 : D} (e1 : getE e 1 = .c (.lit (.int .i64 i))) (e2 : getE e 2 = .c (.slice cb m)) (e3 : getE e 3 = .loc p 0) (e6 : getE e 6 = D6) (e8 : getE e 8 = D8) (h3 : getH h p = .box [.c (.slice cells n), d1, d2, d3])
    (hQ : ∀ s : St, s.heap = h → N ≤ s.nx → getE s.env 1 = .c (.lit (.int .i64 i)) → getE s.env 2 = .c (.slice cb m) → getE s.env 3 = .loc p 0 → getE s.env 6 = D6 → getE s.env 8 = D8 → getE s.env 26 = .c (.lit (.bool (decide (i < 0) || decide (i ≥ (n : Int)) || ((m : Int) != 128)))) → Q s) :
    sq F (match I27.body with | .seq _ (.seq _ (.seq (.seq (.region is) _) _)) => is | _ => []) ⟨e, h, N⟩ Q := by
  simp only [I27]
  cases x1 : decide (i < 0)
  · iterate 9 (first | (refine sq_cons rfl ?_; simp only [ZS, Ez.lenD, Ez.appR, Ez.appD, Ez.srcOf, Ez.cpyD, Ez.frzV, Ez.frz, Ez.frz1, Ez.splice, if_true, if_false, Ez.intBin, Nat.reduceEqDiff, reduceIte, Nat.reduceAdd, Nat.reduceMul, Nat.reduceLeDiff, reduceCtorEq, Int.reduceLE, Int.reduceToNat, Nat.reduceSub, Bool.not_true, Bool.not_false, e1, e2, e3, h3, x1]) | (refine sq_yes rfl (sq_cons rfl ?_); simp only [ZS, Ez.lenD, Ez.appR, Ez.appD, Ez.srcOf, Ez.cpyD, Ez.frzV, Ez.frz, Ez.frz1, Ez.splice, if_true, if_false, Ez.intBin, Nat.reduceEqDiff, reduceIte, Nat.reduceAdd, Nat.reduceMul, Nat.reduceLeDiff, reduceCtorEq, Int.reduceLE, Int.reduceToNat, Nat.reduceSub, Bool.not_true, Bool.not_false, e1, e2, e3, h3, x1]) | (refine sq_no rfl ?_; simp only [Ez.putE, Ez.undefD]))
    have x2t : True := trivial
    cases x2 : decide (i ≥ (n : Int))
    · try simp only [x2]
      iterate 5 (first | (refine sq_cons rfl ?_; simp only [ZS, Ez.lenD, Ez.appR, Ez.appD, Ez.srcOf, Ez.cpyD, Ez.frzV, Ez.frz, Ez.frz1, Ez.splice, if_true, if_false, Ez.intBin, Nat.reduceEqDiff, reduceIte, Nat.reduceAdd, Nat.reduceMul, Nat.reduceLeDiff, reduceCtorEq, Int.reduceLE, Int.reduceToNat, Nat.reduceSub, Bool.not_true, Bool.not_false, e1, e2, e3, h3, x1]) | (refine sq_yes rfl (sq_cons rfl ?_); simp only [ZS, Ez.lenD, Ez.appR, Ez.appD, Ez.srcOf, Ez.cpyD, Ez.frzV, Ez.frz, Ez.frz1, Ez.splice, if_true, if_false, Ez.intBin, Nat.reduceEqDiff, reduceIte, Nat.reduceAdd, Nat.reduceMul, Nat.reduceLeDiff, reduceCtorEq, Int.reduceLE, Int.reduceToNat, Nat.reduceSub, Bool.not_true, Bool.not_false, e1, e2, e3, h3, x1]) | (refine sq_no rfl ?_; simp only [Ez.putE, Ez.undefD]))
      refine sq_nil (hQ _ rfl (Nat.le_add_right _ _) ?_ ?_ ?_ ?_ ?_ ?_) <;> simp only [getE_cons, Nat.reduceEqDiff, if_false, if_true, e1, e2, e3, e6, e8, x1, x2, Bool.false_or, Bool.or_false]
    · try simp only [x2]
      iterate 5 (first | (refine sq_cons rfl ?_; simp only [ZS, Ez.lenD, Ez.appR, Ez.appD, Ez.srcOf, Ez.cpyD, Ez.frzV, Ez.frz, Ez.frz1, Ez.splice, if_true, if_false, Ez.intBin, Nat.reduceEqDiff, reduceIte, Nat.reduceAdd, Nat.reduceMul, Nat.reduceLeDiff, reduceCtorEq, Int.reduceLE, Int.reduceToNat, Nat.reduceSub, Bool.not_true, Bool.not_false, e1, e2, e3, h3, x1]) | (refine sq_yes rfl (sq_cons rfl ?_); simp only [ZS, Ez.lenD, Ez.appR, Ez.appD, Ez.srcOf, Ez.cpyD, Ez.frzV, Ez.frz, Ez.frz1, Ez.splice, if_true, if_false, Ez.intBin, Nat.reduceEqDiff, reduceIte, Nat.reduceAdd, Nat.reduceMul, Nat.reduceLeDiff, reduceCtorEq, Int.reduceLE, Int.reduceToNat, Nat.reduceSub, Bool.not_true, Bool.not_false, e1, e2, e3, h3, x1]) | (refine sq_no rfl ?_; simp only [Ez.putE, Ez.undefD]))
      refine sq_nil (hQ _ rfl (Nat.le_add_right _ _) ?_ ?_ ?_ ?_ ?_ ?_) <;> simp only [getE_cons, Nat.reduceEqDiff, if_false, if_true, e1, e2, e3, e6, e8, x1, x2, Bool.false_or, Bool.true_or, Bool.or_true]
  · iterate 14 (first | (refine sq_cons rfl ?_; simp only [ZS, Ez.lenD, Ez.appR, Ez.appD, Ez.srcOf, Ez.cpyD, Ez.frzV, Ez.frz, Ez.frz1, Ez.splice, if_true, if_false, Ez.intBin, Nat.reduceEqDiff, reduceIte, Nat.reduceAdd, Nat.reduceMul, Nat.reduceLeDiff, reduceCtorEq, Int.reduceLE, Int.reduceToNat, Nat.reduceSub, Bool.not_true, Bool.not_false, e1, e2, e3, h3, x1]) | (refine sq_yes rfl (sq_cons rfl ?_); simp only [ZS, Ez.lenD, Ez.appR, Ez.appD, Ez.srcOf, Ez.cpyD, Ez.frzV, Ez.frz, Ez.frz1, Ez.splice, if_true, if_false, Ez.intBin, Nat.reduceEqDiff, reduceIte, Nat.reduceAdd, Nat.reduceMul, Nat.reduceLeDiff, reduceCtorEq, Int.reduceLE, Int.reduceToNat, Nat.reduceSub, Bool.not_true, Bool.not_false, e1, e2, e3, h3, x1]) | (refine sq_no rfl ?_; simp only [Ez.putE, Ez.undefD]))
    refine sq_nil (hQ _ rfl (Nat.le_add_right _ _) ?_ ?_ ?_ ?_ ?_ ?_) <;> simp only [getE_cons, Nat.reduceEqDiff, if_false, if_true, e1, e2, e3, e6, e8, x1, Bool.true_or]

theorem BoxD.arr {h : Heap} {q rid fz : Nat} {l : List Sec} {de ar : Bool} {le : Int} (hq : getH h q = .box [.arr rid 0 l.length, .c (boolC de), .c (boolC ar), .c (intC le)]) (hr : getH h rid = .arr (secsC l) 3 fz 32) : BoxD h q l de ar le := by
  refine ⟨.arr rid 0 l.length, if l.length * 3 ≤ fz then [] else [(rid, .arr (secsC l) 3 (l.length * 3) 32)], hq, ?_⟩
  have hlen := secsC_len l
  simp only [frz, hr, frz1, Nat.zero_add, hlen, Nat.le_refl, if_true, List.drop_zero]
  rw [List.take_of_length_le (by omega)]
  rfl

theorem write_bad {F : Tab} (hF : F.code = code) (hN : ∀ f vs, f ≠ 10 → F.nat f vs = none) (l : List Sec) (ar : Bool) (le i : Int) (b : List UInt8) (hb : (decide (i < 0) || decide (i ≥ (l.length : Int)) || ((b.length : Int) != 128)) = true) : RunF F 27 [dskV l false ar le, .one (intC i), .one (bytesS b)] [dskV l false ar le, .one (intC 52)] := by
  refine RunF.diskE (I := I27) (t := 6) (t2 := 7) (by rw [hF]; rfl) (hN 27 _ (by omega)) rfl rfl rfl ?_
  unfold I27
  simp only [bindArgs, boolC, intC, secsS, bytesS, V.toD, dskV, List.map_cons, List.map_nil]
  refine wp_seq (wp_sq ?_)
  iterate 3 (refine sq_cons rfl ?_; simp only [ZS, Ez.lenD, Ez.appR, Ez.appD, Ez.srcOf, Ez.cpyD, Ez.frzV, Ez.frz, Ez.frz1, Ez.splice, if_true, if_false, Ez.intBin, Nat.reduceEqDiff, reduceIte, Nat.reduceAdd, Nat.reduceMul, Nat.reduceLeDiff, reduceCtorEq, Int.reduceLE, Int.reduceToNat, Nat.reduceSub, Bool.not_true, Bool.not_false])
  refine sq_nil (wp_seq (wp_seq (wp_sq ?_)))
  iterate 2 (refine sq_cons rfl ?_; simp only [ZS, Ez.lenD, Ez.appR, Ez.appD, Ez.srcOf, Ez.cpyD, Ez.frzV, Ez.frz, Ez.frz1, Ez.splice, if_true, if_false, Ez.intBin, Nat.reduceEqDiff, reduceIte, Nat.reduceAdd, Nat.reduceMul, Nat.reduceLeDiff, reduceCtorEq, Int.reduceLE, Int.reduceToNat, Nat.reduceSub, Bool.not_true, Bool.not_false])
  refine sq_nil (wp_condF rfl (wp_skip ?_))
  refine wp_seq (wp_seq (wp_sq ?_))
  refine wtest27 F (p := 0) (n := l.length) (m := b.length) (i := i) (cells := secsC l) (cb := bytesC b) (D6 := .loc 1 0) (D8 := .unk) rfl rfl rfl rfl rfl rfl ?_
  intro s g1 g0 g2 g3 g4 g5 g6 g7
  obtain ⟨se, sh, sn⟩ := s
  simp only at g1 g0 g2 g3 g4 g5 g6 g7
  subst g1
  rw [hb] at g7
  refine wp_condT g7 (wp_seq (wp_sq ?_))
  iterate 3 (refine sq_cons rfl ?_; simp only [ZS, Ez.lenD, Ez.appR, Ez.appD, Ez.srcOf, Ez.cpyD, Ez.frzV, Ez.frz, Ez.frz1, Ez.splice, if_true, if_false, Ez.intBin, Nat.reduceEqDiff, reduceIte, Nat.reduceAdd, Nat.reduceMul, Nat.reduceLeDiff, reduceCtorEq, Int.reduceLE, Int.reduceToNat, Nat.reduceSub, Bool.not_true, Bool.not_false, g4, g5])
  refine sq_nil (wp_ret ⟨rfl, ⟨1, ?_, .c (secsS l), [], ?_, rfl⟩, rfl⟩)
  · simp only [getE_cons, Nat.reduceEqDiff, if_false, if_true, g5]
  · simp only [getH_cons, if_true, if_false, Nat.reduceEqDiff]; rfl

theorem write_off {F : Tab} (hF : F.code = code) (hN : ∀ f vs, f ≠ 10 → F.nat f vs = none) (l : List Sec) (ar : Bool) (le i : Int) (b : List UInt8) (hb : (decide (i < 0) || decide (i ≥ (l.length : Int)) || ((b.length : Int) != 128)) = false) (le1 : Int) (hu : RunF F 37 [dskV l false ar le] [dskV l true ar le1, .one (boolC false)]) : RunF F 27 [dskV l false ar le, .one (intC i), .one (bytesS b)] [dskV l true ar le1, .one (intC 51)] := by
  refine RunF.diskE (I := I27) (t := 6) (t2 := 7) (by rw [hF]; rfl) (hN 27 _ (by omega)) rfl rfl rfl ?_
  unfold I27
  simp only [bindArgs, boolC, intC, secsS, bytesS, V.toD, dskV, List.map_cons, List.map_nil]
  refine wp_seq (wp_sq ?_)
  iterate 3 (refine sq_cons rfl ?_; simp only [ZS, Ez.lenD, Ez.appR, Ez.appD, Ez.srcOf, Ez.cpyD, Ez.frzV, Ez.frz, Ez.frz1, Ez.splice, if_true, if_false, Ez.intBin, Nat.reduceEqDiff, reduceIte, Nat.reduceAdd, Nat.reduceMul, Nat.reduceLeDiff, reduceCtorEq, Int.reduceLE, Int.reduceToNat, Nat.reduceSub, Bool.not_true, Bool.not_false])
  refine sq_nil (wp_seq (wp_seq (wp_sq ?_)))
  iterate 2 (refine sq_cons rfl ?_; simp only [ZS, Ez.lenD, Ez.appR, Ez.appD, Ez.srcOf, Ez.cpyD, Ez.frzV, Ez.frz, Ez.frz1, Ez.splice, if_true, if_false, Ez.intBin, Nat.reduceEqDiff, reduceIte, Nat.reduceAdd, Nat.reduceMul, Nat.reduceLeDiff, reduceCtorEq, Int.reduceLE, Int.reduceToNat, Nat.reduceSub, Bool.not_true, Bool.not_false])
  refine sq_nil (wp_condF rfl (wp_skip ?_))
  refine wp_seq (wp_seq (wp_sq ?_))
  refine wtest27 F (p := 0) (n := l.length) (m := b.length) (i := i) (cells := secsC l) (cb := bytesC b) (D6 := .loc 1 0) (D8 := .unk) rfl rfl rfl rfl rfl rfl ?_
  intro s g1 g0 g2 g3 g4 g5 g6 g7
  obtain ⟨se, sh, sn⟩ := s
  simp only at g1 g0 g2 g3 g4 g5 g6 g7
  subst g1
  rw [hb] at g7
  refine wp_condF g7 (wp_skip ?_)
  refine wp_seq (wp_sq ?_)
  iterate 1 (refine sq_cons rfl ?_; simp only [ZS, Ez.lenD, Ez.appR, Ez.appD, Ez.srcOf, Ez.cpyD, Ez.frzV, Ez.frz, Ez.frz1, Ez.splice, if_true, if_false, Ez.intBin, Nat.reduceEqDiff, reduceIte, Nat.reduceAdd, Nat.reduceMul, Nat.reduceLeDiff, reduceCtorEq, Int.reduceLE, Int.reduceToNat, Nat.reduceSub, Bool.not_true, Bool.not_false, g4])
  refine sq_call (us := []) (vs := [dskV l false ar le]) (by rfl) hu ?_
  simp only [retD, V.toD, Ez.putE, Ez.updH, List.map_cons, List.map_nil, dskV, boolC, intC, secsS]
  iterate 5 (refine sq_cons rfl ?_; simp only [ZS, Ez.lenD, Ez.appR, Ez.appD, Ez.srcOf, Ez.cpyD, Ez.frzV, Ez.frz, Ez.frz1, Ez.splice, if_true, if_false, Ez.intBin, Nat.reduceEqDiff, reduceIte, Nat.reduceAdd, Nat.reduceMul, Nat.reduceLeDiff, reduceCtorEq, Int.reduceLE, Int.reduceToNat, Nat.reduceSub, Bool.not_true, Bool.not_false, g4, g5])
  refine sq_nil (wp_seq (wp_seq (wp_sq ?_)))
  iterate 2 (refine sq_cons rfl ?_; simp only [ZS, Ez.lenD, Ez.appR, Ez.appD, Ez.srcOf, Ez.cpyD, Ez.frzV, Ez.frz, Ez.frz1, Ez.splice, if_true, if_false, Ez.intBin, Nat.reduceEqDiff, reduceIte, Nat.reduceAdd, Nat.reduceMul, Nat.reduceLeDiff, reduceCtorEq, Int.reduceLE, Int.reduceToNat, Nat.reduceSub, Bool.not_true, Bool.not_false])
  refine sq_nil (wp_condT rfl (wp_seq (wp_sq ?_)))
  iterate 3 (refine sq_cons rfl ?_; simp only [ZS, Ez.lenD, Ez.appR, Ez.appD, Ez.srcOf, Ez.cpyD, Ez.frzV, Ez.frz, Ez.frz1, Ez.splice, if_true, if_false, Ez.intBin, Nat.reduceEqDiff, reduceIte, Nat.reduceAdd, Nat.reduceMul, Nat.reduceLeDiff, reduceCtorEq, Int.reduceLE, Int.reduceToNat, Nat.reduceSub, Bool.not_true, Bool.not_false, g4, g5])
  refine sq_nil (wp_ret ⟨rfl, ⟨1, ?_, .c (secsS l), [], ?_, rfl⟩, rfl⟩)
  · simp only [getE_cons, Nat.reduceEqDiff, if_false, if_true, g5]
  · simp only [getH_cons, if_true, if_false, Nat.reduceEqDiff]; rfl

theorem write_ok {F : Tab} (hF : F.code = code) (hN : ∀ f vs, f ≠ 10 → F.nat f vs = none) (l : List Sec) (ar : Bool) (le le1 : Int) (k : Nat) (b : List UInt8) (hk : k < l.length) (hn : l.length ≤ 256) (hb128 : b.length = 128) (hu : RunF F 37 [dskV l false ar le] [dskV l false ar le1, .one (boolC true)]) :
    RunF F 27 [dskV l false ar le, .one (intC k), .one (bytesS b)] [dskV (l.set k ⟨(secAt l k).sure, b, true⟩) false ar le1, .one (intC 0)] := by
  have hb : (decide ((k : Int) < 0) || decide ((k : Int) ≥ (l.length : Int)) || ((b.length : Int) != 128)) = false := by simp; omega
  have hcl := secsC_len l
  have p1 : ((0 : Nat) < 1) = True := by simp
  have p3 : ((0 : Nat) < 3) = True := by simp
  have r1 : (l.length * 56 ≤ roomMax) = True := by simp [roomMax]; omega
  have r2 : (l.length ≤ roomMax) = True := by simp [roomMax]; omega
  have r3 : (128 ≤ roomMax) = True := by simp [roomMax]
  have n0 : (l.length = 0) = False := eq_false (by omega)
  have hbl : (bytesC b).length = 128 := by rw [bytesC_len]; exact hb128
  have f1 : ((k : Int) < (l.length : Int)) = True := by simpa using hk
  have f2 : (k * 3 + 2 ≤ l.length * 3) = True := by simp; omega
  have f3 : (k * 3 + 3 ≤ l.length * 3) = True := by simp; omega
  have tb : List.take 128 (bytesC b) = bytesC b := List.take_of_length_le (by omega)
  have hp1 : (secsC l).take (k * 3 + 1) ++ [.slice (bytesC b) 128] ++ (secsC l).drop (k * 3 + 2) = secsC (l.set k { secAt l k with data := b }) := by
    rw [List.append_assoc, ← secsC_put1 k l hk b, bytesS, hb128]; rfl
  have hcl1 : (secsC (l.set k { secAt l k with data := b })).length = l.length * 3 := by rw [secsC_len]; simp
  have hp2 : (secsC (l.set k { secAt l k with data := b })).take (k * 3 + 2) ++ [.lit (.bool true)] ++ (secsC (l.set k { secAt l k with data := b })).drop (k * 3 + 3) = secsC (l.set k ⟨(secAt l k).sure, b, true⟩) := by
    rw [List.append_assoc]
    have := secsC_put2 k (l.set k { secAt l k with data := b }) (by simpa using hk) true
    rw [List.set_set, Go.Proofs.Ytfphnpelampoeaa.secAt_set l k _ hk] at this
    exact this
  refine RunF.diskE (I := I27) (t := 6) (t2 := 7) (by rw [hF]; rfl) (hN 27 _ (by omega)) rfl rfl rfl ?_
  unfold I27
  simp only [bindArgs, boolC, intC, secsS, bytesS, V.toD, dskV, List.map_cons, List.map_nil]
  refine wp_seq (wp_sq ?_)
  iterate 3 (refine sq_cons rfl ?_; simp only [ZS, Ez.lenD, Ez.appR, Ez.appD, Ez.srcOf, Ez.cpyD, Ez.frzV, Ez.frz, Ez.frz1, Ez.splice, if_true, if_false, Ez.intBin, Nat.reduceEqDiff, reduceIte, Nat.reduceAdd, Nat.reduceMul, Nat.reduceLeDiff, reduceCtorEq, Int.reduceLE, Int.reduceToNat, Nat.reduceSub, Bool.not_true, Bool.not_false])
  refine sq_nil (wp_seq (wp_seq (wp_sq ?_)))
  iterate 2 (refine sq_cons rfl ?_; simp only [ZS, Ez.lenD, Ez.appR, Ez.appD, Ez.srcOf, Ez.cpyD, Ez.frzV, Ez.frz, Ez.frz1, Ez.splice, if_true, if_false, Ez.intBin, Nat.reduceEqDiff, reduceIte, Nat.reduceAdd, Nat.reduceMul, Nat.reduceLeDiff, reduceCtorEq, Int.reduceLE, Int.reduceToNat, Nat.reduceSub, Bool.not_true, Bool.not_false])
  refine sq_nil (wp_condF rfl (wp_skip ?_))
  refine wp_seq (wp_seq (wp_sq ?_))
  refine wtest27 F (p := 0) (n := l.length) (m := b.length) (i := (k : Int)) (cells := secsC l) (cb := bytesC b) (D6 := .loc 1 0) (D8 := .unk) rfl rfl rfl rfl rfl rfl ?_
  intro s g1 g0 g2 g3 g4 g5 g6 g7
  obtain ⟨se, sh, sn⟩ := s
  simp only at g1 g0 g2 g3 g4 g5 g6 g7
  subst g1
  rw [hb] at g7
  refine wp_condF g7 (wp_skip ?_)
  refine wp_seq (wp_sq ?_)
  iterate 1 (refine sq_cons rfl ?_; simp only [ZS, Ez.lenD, Ez.appR, Ez.appD, Ez.srcOf, Ez.cpyD, Ez.frzV, Ez.frz, Ez.frz1, Ez.splice, if_true, if_false, Ez.intBin, Nat.reduceEqDiff, reduceIte, Nat.reduceAdd, Nat.reduceMul, Nat.reduceLeDiff, reduceCtorEq, Int.reduceLE, Int.reduceToNat, Nat.reduceSub, Bool.not_true, Bool.not_false, g4])
  refine sq_call (us := []) (vs := [dskV l false ar le]) (by rfl) hu ?_
  simp only [retD, V.toD, Ez.putE, Ez.updH, List.map_cons, List.map_nil, dskV, boolC, intC, secsS]
  iterate 5 (refine sq_cons rfl ?_; simp only [ZS, Ez.lenD, Ez.appR, Ez.appD, Ez.srcOf, Ez.cpyD, Ez.frzV, Ez.frz, Ez.frz1, Ez.splice, if_true, if_false, Ez.intBin, Nat.reduceEqDiff, reduceIte, Nat.reduceAdd, Nat.reduceMul, Nat.reduceLeDiff, reduceCtorEq, Int.reduceLE, Int.reduceToNat, Nat.reduceSub, Bool.not_true, Bool.not_false, g4, g5])
  have z0 : ∀ c, (sn + c = 0) = False := fun c => by simp; omega
  have z1 : ∀ c, (sn + c = 1) = False := fun c => by simp; omega
  have z2 : ∀ c, (0 = sn + c) = False := fun c => by simp; omega
  have z3 : ∀ c, (1 = sn + c) = False := fun c => by simp; omega
  refine sq_nil (wp_seq (wp_seq (wp_sq ?_)))
  iterate 2 (refine sq_cons rfl ?_; simp only [ZS, Ez.lenD, Ez.appR, Ez.appD, Ez.srcOf, Ez.cpyD, Ez.frzV, Ez.frz, Ez.frz1, Ez.splice, if_true, if_false, Ez.intBin, Nat.reduceEqDiff, reduceIte, Nat.reduceAdd, Nat.reduceMul, Nat.reduceLeDiff, reduceCtorEq, Int.reduceLE, Int.reduceToNat, Nat.reduceSub, Bool.not_true, Bool.not_false])
  refine sq_nil (wp_condF rfl (wp_skip ?_))
  refine wp_seq (wp_sq ?_)
  iterate 4 (refine sq_cons rfl ?_; simp only [ZS, Ez.lenD, Ez.appR, Ez.appD, Ez.srcOf, Ez.cpyD, Ez.frzV, Ez.frz, Ez.frz1, Ez.splice, if_true, if_false, Ez.intBin, Nat.reduceEqDiff, reduceIte, Nat.reduceAdd, Nat.reduceMul, Nat.reduceLeDiff, reduceCtorEq, Int.reduceLE, Int.reduceToNat, Nat.reduceSub, Bool.not_true, Bool.not_false, hcl, p1, p3, r1, r2, r3, n0, hbl, f1, f2, f3, tb, hp1, hcl1, hp2, hb128, g2, g3, g4, g5, z0, z1, z2, z3])
  refine sq_nil (wp_seq (wp_sq ?_))
  iterate 7 (refine sq_cons rfl ?_; simp only [ZS, Ez.lenD, Ez.appR, Ez.appD, Ez.srcOf, Ez.cpyD, Ez.frzV, Ez.frz, Ez.frz1, Ez.splice, if_true, if_false, Ez.intBin, Nat.reduceEqDiff, reduceIte, Nat.reduceAdd, Nat.reduceMul, Nat.reduceLeDiff, reduceCtorEq, Int.reduceLE, Int.reduceToNat, Nat.reduceSub, Bool.not_true, Bool.not_false, hcl, p1, p3, r1, r2, r3, n0, hbl, f1, f2, f3, tb, hp1, hcl1, hp2, hb128, g2, g3, g4, g5, z0, z1, z2, z3])
  refine sq_nil (wp_seq (wp_sq ?_))
  iterate 5 (refine sq_cons rfl ?_; simp only [ZS, Ez.lenD, Ez.appR, Ez.appD, Ez.srcOf, Ez.cpyD, Ez.frzV, Ez.frz, Ez.frz1, Ez.splice, if_true, if_false, Ez.intBin, Nat.reduceEqDiff, reduceIte, Nat.reduceAdd, Nat.reduceMul, Nat.reduceLeDiff, reduceCtorEq, Int.reduceLE, Int.reduceToNat, Nat.reduceSub, Bool.not_true, Bool.not_false, hcl, p1, p3, r1, r2, r3, n0, hbl, f1, f2, f3, tb, hp1, hcl1, hp2, hb128, g2, g3, g4, g5, z0, z1, z2, z3])
  refine sq_nil (wp_seq (wp_sq ?_))
  iterate 3 (refine sq_cons rfl ?_; simp only [ZS, Ez.lenD, Ez.appR, Ez.appD, Ez.srcOf, Ez.cpyD, Ez.frzV, Ez.frz, Ez.frz1, Ez.splice, if_true, if_false, Ez.intBin, Nat.reduceEqDiff, reduceIte, Nat.reduceAdd, Nat.reduceMul, Nat.reduceLeDiff, reduceCtorEq, Int.reduceLE, Int.reduceToNat, Nat.reduceSub, Bool.not_true, Bool.not_false, hcl, p1, p3, r1, r2, r3, n0, hbl, f1, f2, f3, tb, hp1, hcl1, hp2, hb128, g2, g3, g4, g5, z0, z1, z2, z3])
  refine sq_nil (wp_seq (wp_sq ?_))
  iterate 3 (refine sq_cons rfl ?_; simp only [ZS, Ez.lenD, Ez.appR, Ez.appD, Ez.srcOf, Ez.cpyD, Ez.frzV, Ez.frz, Ez.frz1, Ez.splice, if_true, if_false, Ez.intBin, Nat.reduceEqDiff, reduceIte, Nat.reduceAdd, Nat.reduceMul, Nat.reduceLeDiff, reduceCtorEq, Int.reduceLE, Int.reduceToNat, Nat.reduceSub, Bool.not_true, Bool.not_false, hcl, p1, p3, r1, r2, r3, n0, hbl, f1, f2, f3, tb, hp1, hcl1, hp2, hb128, g2, g3, g4, g5, z0, z1, z2, z3])
  refine sq_nil (wp_ret ⟨rfl, ⟨1, ?_, BoxD.arr (rid := sn + 11) (fz := 0) ?_ ?_⟩, rfl⟩)
  · simp only [getE_cons, Nat.reduceEqDiff, if_false, if_true, g5]
  · simp only [getH_cons, if_true, if_false, Nat.reduceEqDiff, List.length_set]; rfl
  · simp only [getH_cons, z0, z1, z2, z3, if_true, if_false, Nat.add_left_cancel_iff, Nat.reduceEqDiff]

end Go.Proofs.Ytfphnpelampoeaa.Rw

