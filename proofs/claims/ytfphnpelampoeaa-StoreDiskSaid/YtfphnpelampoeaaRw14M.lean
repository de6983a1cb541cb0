/-
  Writes, by the reference.
-/
import Derived.Test.YtfphnpelampoeaaRw13M
set_option linter.unusedVariables false
set_option linter.unusedSimpArgs false
namespace Go.Proofs.Ytfphnpelampoeaa.Rw
open Go Go.Ez

theorem wtest28 (F : Tab) {Q : St → Prop} {e : Env} {h : Heap} {N p n m : Nat} {i : Int} {cells cb : List C} {d1 d2 d3 D6 D8 : D} (e1 : getE e 1 = .c (.lit (.int .i64 i))) (e2 : getE e 2 = .c (.slice cb m)) (e3 : getE e 3 = .loc p 0) (e6 : getE e 6 = D6) (e8 : getE e 8 = D8) (h3 : getH h p = .box [.c (.slice cells n), d1, d2, d3])
    (hQ : ∀ s : St, s.heap = h → N ≤ s.nx → getE s.env 1 = .c (.lit (.int .i64 i)) → getE s.env 2 = .c (.slice cb m) → getE s.env 3 = .loc p 0 → getE s.env 6 = D6 → getE s.env 8 = D8 → getE s.env 27 = .c (.lit (.bool (decide (i < 0) || decide (i ≥ (n : Int)) || ((m : Int) != 128)))) → Q s) :
    sq F (match I28.body with | .seq _ (.seq _ (.seq _ (.seq (.seq (.region is) _) _))) => is | _ => []) ⟨e, h, N⟩ Q := by
  simp only [I28]
  cases x1 : decide (i < 0)
  · iterate 9 (first | (refine sq_cons rfl ?_; simp only [ZS, Ez.lenD, Ez.appR, Ez.appD, Ez.srcOf, Ez.cpyD, Ez.frzV, Ez.frz, Ez.frz1, Ez.splice, if_true, if_false, Ez.intBin, Nat.reduceEqDiff, reduceIte, Nat.reduceAdd, Nat.reduceMul, Nat.reduceLeDiff, reduceCtorEq, Int.reduceLE, Int.reduceToNat, Nat.reduceSub, Bool.not_true, Bool.not_false, e1, e2, e3, h3, x1]) | (refine sq_yes rfl (sq_cons rfl ?_); simp only [ZS, Ez.lenD, Ez.appR, Ez.appD, Ez.srcOf, Ez.cpyD, Ez.frzV, Ez.frz, Ez.frz1, Ez.splice, if_true, if_false, Ez.intBin, Nat.reduceEqDiff, reduceIte, Nat.reduceAdd, Nat.reduceMul, Nat.reduceLeDiff, reduceCtorEq, Int.reduceLE, Int.reduceToNat, Nat.reduceSub, Bool.not_true, Bool.not_false, e1, e2, e3, h3, x1]) | (refine sq_no rfl ?_; simp only [Ez.putE, Ez.undefD]))
    have x2t : True := trivial
    cases x2 : decide (i ≥ (n : Int))
    · try simp only [x2]
      iterate 5 (first | (refine sq_cons rfl ?_; simp only [ZS, Ez.lenD, Ez.appR, Ez.appD, Ez.srcOf, Ez.cpyD, Ez.frzV, Ez.frz, Ez.frz1, Ez.splice, if_true, if_false, Ez.intBin, Nat.reduceEqDiff, reduceIte, Nat.reduceAdd, Nat.reduceMul, Nat.reduceLeDiff, reduceCtorEq, Int.reduceLE, Int.reduceToNat, Nat.reduceSub, Bool.not_true, Bool.not_false, e1, e2, e3, h3, x1]) | (refine sq_yes rfl (sq_cons rfl ?_); simp only [ZS, Ez.lenD, Ez.appR, Ez.appD, Ez.srcOf, Ez.cpyD, Ez.frzV, Ez.frz, Ez.frz1, Ez.splice, if_true, if_false, Ez.intBin, Nat.reduceEqDiff, reduceIte, Nat.reduceAdd, Nat.reduceMul, Nat.reduceLeDiff, reduceCtorEq, Int.reduceLE, Int.reduceToNat, Nat.reduceSub, Bool.not_true, Bool.not_false, e1, e2, e3, h3, x1]) | (refine sq_no rfl ?_; simp only [Ez.putE, Ez.undefD]))
      refine sq_nil (hQ _ rfl (Nat.le_add_right _ _) ?_ ?_ ?_ ?_ ?_ ?_) <;> simp only [getE_cons, Nat.reduceEqDiff, if_false, if_true, e1, e2, e3, e6, e8, x1, x2, Bool.false_or, Bool.or_false]
    · try simp only [x2]
      iterate 5 (first | (refine sq_cons rfl ?_; simp only [ZS, Ez.lenD, Ez.appR, Ez.appD, Ez.srcOf, Ez.cpyD, Ez.frzV, Ez.frz, Ez.frz1, Ez.splice, if_true, if_false, Ez.intBin, Nat.reduceEqDiff, reduceIte, Nat.reduceAdd, Nat.reduceMul, Nat.reduceLeDiff, reduceCtorEq, Int.reduceLE, Int.reduceToNat, Nat.reduceSub, Bool.not_true, Bool.not_false, e1, e2, e3, h3, x1]) | (refine sq_yes rfl (sq_cons rfl ?_); simp only [ZS, Ez.lenD, Ez.appR, Ez.appD, Ez.srcOf, Ez.cpyD, Ez.frzV, Ez.frz, Ez.frz1, Ez.splice, if_true, if_false, Ez.intBin, Nat.reduceEqDiff, reduceIte, Nat.reduceAdd, Nat.reduceMul, Nat.reduceLeDiff, reduceCtorEq, Int.reduceLE, Int.reduceToNat, Nat.reduceSub, Bool.not_true, Bool.not_false, e1, e2, e3, h3, x1]) | (refine sq_no rfl ?_; simp only [Ez.putE, Ez.undefD]))
      refine sq_nil (hQ _ rfl (Nat.le_add_right _ _) ?_ ?_ ?_ ?_ ?_ ?_) <;> simp only [getE_cons, Nat.reduceEqDiff, if_false, if_true, e1, e2, e3, e6, e8, x1, x2, Bool.false_or, Bool.true_or, Bool.or_true]
  · iterate 14 (first | (refine sq_cons rfl ?_; simp only [ZS, Ez.lenD, Ez.appR, Ez.appD, Ez.srcOf, Ez.cpyD, Ez.frzV, Ez.frz, Ez.frz1, Ez.splice, if_true, if_false, Ez.intBin, Nat.reduceEqDiff, reduceIte, Nat.reduceAdd, Nat.reduceMul, Nat.reduceLeDiff, reduceCtorEq, Int.reduceLE, Int.reduceToNat, Nat.reduceSub, Bool.not_true, Bool.not_false, e1, e2, e3, h3, x1]) | (refine sq_yes rfl (sq_cons rfl ?_); simp only [ZS, Ez.lenD, Ez.appR, Ez.appD, Ez.srcOf, Ez.cpyD, Ez.frzV, Ez.frz, Ez.frz1, Ez.splice, if_true, if_false, Ez.intBin, Nat.reduceEqDiff, reduceIte, Nat.reduceAdd, Nat.reduceMul, Nat.reduceLeDiff, reduceCtorEq, Int.reduceLE, Int.reduceToNat, Nat.reduceSub, Bool.not_true, Bool.not_false, e1, e2, e3, h3, x1]) | (refine sq_no rfl ?_; simp only [Ez.putE, Ez.undefD]))
    refine sq_nil (hQ _ rfl (Nat.le_add_right _ _) ?_ ?_ ?_ ?_ ?_ ?_) <;> simp only [getE_cons, Nat.reduceEqDiff, if_false, if_true, e1, e2, e3, e6, e8, x1, Bool.true_or]

theorem splice_mid0 {P R : List D} {A B C x : D} : splice (P ++ A :: B :: C :: R) P.length [x] = P ++ x :: B :: C :: R := by
  simp [splice]
theorem splice_mid1 {P R : List D} {A B C x : D} : splice (P ++ A :: B :: C :: R) (P.length + 1) [x] = P ++ A :: x :: C :: R := by
  simp [splice, List.take_append, List.drop_append, List.take_of_length_le (show P.length ≤ P.length + 1 by omega), List.drop_eq_nil_of_le (show P.length ≤ P.length + 1 + 1 by omega), show P.length + 1 + 1 - P.length = 2 by omega]
theorem splice_mid2 {P R : List D} {A B C x : D} : splice (P ++ A :: B :: C :: R) (P.length + 2) [x] = P ++ A :: B :: x :: R := by
  simp [splice, List.take_append, List.drop_append, List.take_of_length_le (show P.length ≤ P.length + 2 by omega), List.drop_eq_nil_of_le (show P.length ≤ P.length + 2 + 1 by omega), show P.length + 2 + 1 - P.length = 3 by omega]

theorem wr_dead {F : Tab} (hF : F.code = code) (hN : ∀ f vs, f ≠ 10 → F.nat f vs = none) (l : List Sec) (hO : Okay l) (h1 : 1 ≤ l.length) (hn : l.length ≤ 256) (ar : Bool) (le i : Int) (b : List UInt8) : RunF F 28 [dskV l true ar le, .one (intC i), .one (bytesS b)] [dskV l true ar le, .one (intC 51)] := by
  refine RunF.diskE (I := I28) (t := 6) (t2 := 7) (by rw [hF]; rfl) (hN 28 _ (by omega)) rfl rfl rfl ?_
  unfold I28
  simp only [bindArgs, boolC, intC, secsS, bytesS, V.toD, dskV, List.map_cons, List.map_nil]
  refine wp_seq (wp_sq ?_)
  iterate 3 (refine sq_cons rfl ?_; simp only [ZS, Ez.lenD, Ez.appR, Ez.appD, Ez.srcOf, Ez.cpyD, Ez.frzV, Ez.frz, Ez.frz1, Ez.splice, if_true, if_false, Ez.intBin, Nat.reduceEqDiff, reduceIte, Nat.reduceAdd, Nat.reduceMul, Nat.reduceLeDiff, reduceCtorEq, Int.reduceLE, Int.reduceToNat, Nat.reduceSub, Bool.not_true, Bool.not_false])
  refine sq_nil (wp_seq (wp_sq ?_))
  iterate 1 (refine sq_cons rfl ?_; simp only [ZS, Ez.lenD, Ez.appR, Ez.appD, Ez.srcOf, Ez.cpyD, Ez.frzV, Ez.frz, Ez.frz1, Ez.splice, if_true, if_false, Ez.intBin, Nat.reduceEqDiff, reduceIte, Nat.reduceAdd, Nat.reduceMul, Nat.reduceLeDiff, reduceCtorEq, Int.reduceLE, Int.reduceToNat, Nat.reduceSub, Bool.not_true, Bool.not_false])
  obtain ⟨rid, ids, h', N', hrun, ho, hNN, hfr⟩ := copied_run hF l hO h1 hn true ar le [(1, .box [.full [] 0, .c (.lit (.bool false)), .c (.lit (.bool false)), .c (.lit (.int .i64 0))]), (0, .box [.c (.slice (secsC l) l.length), .c (.lit (.bool true)), .c (.lit (.bool ar)), .c (.lit (.int .i64 le))])] 4
  refine sq_lend (ds := [.agg [.c (secsS l), .c (boolC true), .c (boolC ar), .c (intC le)]]) (us := []) (by rfl) hrun ?_
  simp only [tupD, Ez.putE, boolC, intC]
  iterate 2 (refine sq_cons rfl ?_; simp only [ZS, Ez.lenD, Ez.appR, Ez.appD, Ez.srcOf, Ez.cpyD, Ez.frzV, Ez.frz, Ez.frz1, Ez.splice, if_true, if_false, Ez.intBin, Nat.reduceEqDiff, reduceIte, Nat.reduceAdd, Nat.reduceMul, Nat.reduceLeDiff, reduceCtorEq, Int.reduceLE, Int.reduceToNat, Nat.reduceSub, Bool.not_true, Bool.not_false])
  have b0 : getH h' 0 = .box [.c (.slice (secsC l) l.length), .c (.lit (.bool true)), .c (.lit (.bool ar)), .c (.lit (.int .i64 le))] := by rw [hfr 0 (by omega)]; rfl
  have b1 : getH h' 1 = .box [.full [] 0, .c (.lit (.bool false)), .c (.lit (.bool false)), .c (.lit (.int .i64 0))] := by rw [hfr 1 (by omega)]; rfl
  have z0 : (N' = 0) = False := by simp; omega
  have z1 : (N' = 1) = False := by simp; omega
  have z0' : (0 = N') = False := by simp; omega
  have z1' : (1 = N') = False := by simp; omega
  refine sq_nil (wp_seq (wp_seq (wp_sq ?_)))
  iterate 2 (refine sq_cons rfl ?_; simp only [ZS, Ez.lenD, Ez.appR, Ez.appD, Ez.srcOf, Ez.cpyD, Ez.frzV, Ez.frz, Ez.frz1, Ez.splice, if_true, if_false, Ez.intBin, Nat.reduceEqDiff, reduceIte, Nat.reduceAdd, Nat.reduceMul, Nat.reduceLeDiff, reduceCtorEq, Int.reduceLE, Int.reduceToNat, Nat.reduceSub, Bool.not_true, Bool.not_false, b0, b1, z0, z1])
  refine sq_nil (wp_condT rfl (wp_seq (wp_sq ?_)))
  iterate 3 (refine sq_cons rfl ?_; simp only [ZS, Ez.lenD, Ez.appR, Ez.appD, Ez.srcOf, Ez.cpyD, Ez.frzV, Ez.frz, Ez.frz1, Ez.splice, if_true, if_false, Ez.intBin, Nat.reduceEqDiff, reduceIte, Nat.reduceAdd, Nat.reduceMul, Nat.reduceLeDiff, reduceCtorEq, Int.reduceLE, Int.reduceToNat, Nat.reduceSub, Bool.not_true, Bool.not_false, b0, b1, z0, z1])
  refine sq_nil (wp_ret ⟨rfl, ⟨1, ?_, ho.box hO ?_ ?_⟩, rfl⟩)
  · simp only [getE_cons, Nat.reduceEqDiff, if_false, if_true]
  · simp only [getH_cons, if_true, if_false, Nat.reduceEqDiff]; rfl
  · intro x xa xb
    simp only [getH_cons, show (1 = x) = False by simp; omega, show (N' = x) = False by simp; omega, if_false]

theorem wr_bad {F : Tab} (hF : F.code = code) (hN : ∀ f vs, f ≠ 10 → F.nat f vs = none) (l : List Sec) (hO : Okay l) (h1 : 1 ≤ l.length) (hn : l.length ≤ 256) (ar : Bool) (le i : Int) (b : List UInt8) (hb : (decide (i < 0) || decide (i ≥ (l.length : Int)) || ((b.length : Int) != 128)) = true) : RunF F 28 [dskV l false ar le, .one (intC i), .one (bytesS b)] [dskV l false ar le, .one (intC 52)] := by
  refine RunF.diskE (I := I28) (t := 6) (t2 := 7) (by rw [hF]; rfl) (hN 28 _ (by omega)) rfl rfl rfl ?_
  unfold I28
  simp only [bindArgs, boolC, intC, secsS, bytesS, V.toD, dskV, List.map_cons, List.map_nil]
  refine wp_seq (wp_sq ?_)
  iterate 3 (refine sq_cons rfl ?_; simp only [ZS, Ez.lenD, Ez.appR, Ez.appD, Ez.srcOf, Ez.cpyD, Ez.frzV, Ez.frz, Ez.frz1, Ez.splice, if_true, if_false, Ez.intBin, Nat.reduceEqDiff, reduceIte, Nat.reduceAdd, Nat.reduceMul, Nat.reduceLeDiff, reduceCtorEq, Int.reduceLE, Int.reduceToNat, Nat.reduceSub, Bool.not_true, Bool.not_false])
  refine sq_nil (wp_seq (wp_sq ?_))
  iterate 1 (refine sq_cons rfl ?_; simp only [ZS, Ez.lenD, Ez.appR, Ez.appD, Ez.srcOf, Ez.cpyD, Ez.frzV, Ez.frz, Ez.frz1, Ez.splice, if_true, if_false, Ez.intBin, Nat.reduceEqDiff, reduceIte, Nat.reduceAdd, Nat.reduceMul, Nat.reduceLeDiff, reduceCtorEq, Int.reduceLE, Int.reduceToNat, Nat.reduceSub, Bool.not_true, Bool.not_false])
  obtain ⟨rid, ids, h', N', hrun, ho, hNN, hfr⟩ := copied_run hF l hO h1 hn false ar le [(1, .box [.full [] 0, .c (.lit (.bool false)), .c (.lit (.bool false)), .c (.lit (.int .i64 0))]), (0, .box [.c (.slice (secsC l) l.length), .c (.lit (.bool false)), .c (.lit (.bool ar)), .c (.lit (.int .i64 le))])] 4
  refine sq_lend (ds := [.agg [.c (secsS l), .c (boolC false), .c (boolC ar), .c (intC le)]]) (us := []) (by rfl) hrun ?_
  simp only [tupD, Ez.putE, boolC, intC]
  iterate 2 (refine sq_cons rfl ?_; simp only [ZS, Ez.lenD, Ez.appR, Ez.appD, Ez.srcOf, Ez.cpyD, Ez.frzV, Ez.frz, Ez.frz1, Ez.splice, if_true, if_false, Ez.intBin, Nat.reduceEqDiff, reduceIte, Nat.reduceAdd, Nat.reduceMul, Nat.reduceLeDiff, reduceCtorEq, Int.reduceLE, Int.reduceToNat, Nat.reduceSub, Bool.not_true, Bool.not_false])
  have b0 : getH h' 0 = .box [.c (.slice (secsC l) l.length), .c (.lit (.bool false)), .c (.lit (.bool ar)), .c (.lit (.int .i64 le))] := by rw [hfr 0 (by omega)]; rfl
  have b1 : getH h' 1 = .box [.full [] 0, .c (.lit (.bool false)), .c (.lit (.bool false)), .c (.lit (.int .i64 0))] := by rw [hfr 1 (by omega)]; rfl
  have z0 : (N' = 0) = False := by simp; omega
  have z1 : (N' = 1) = False := by simp; omega
  have z0' : (0 = N') = False := by simp; omega
  have z1' : (1 = N') = False := by simp; omega
  refine sq_nil (wp_seq (wp_seq (wp_sq ?_)))
  iterate 2 (refine sq_cons rfl ?_; simp only [ZS, Ez.lenD, Ez.appR, Ez.appD, Ez.srcOf, Ez.cpyD, Ez.frzV, Ez.frz, Ez.frz1, Ez.splice, if_true, if_false, Ez.intBin, Nat.reduceEqDiff, reduceIte, Nat.reduceAdd, Nat.reduceMul, Nat.reduceLeDiff, reduceCtorEq, Int.reduceLE, Int.reduceToNat, Nat.reduceSub, Bool.not_true, Bool.not_false, b0, b1, z0, z1])
  refine sq_nil (wp_condF rfl (wp_skip ?_))
  refine wp_seq (wp_seq (wp_sq ?_))
  refine wtest28 F (p := 0) (n := l.length) (m := b.length) (i := i) (cells := secsC l) (cb := bytesC b) (d1 := .c (.lit (.bool false))) (d2 := .c (.lit (.bool ar))) (d3 := .c (.lit (.int .i64 le))) (D6 := .loc 1 0) (D8 := .loc N' 0) rfl rfl rfl rfl rfl (by simp only [getH_cons, z0, if_false, b0]) ?_
  intro s g1 g0 g2 g3 g4 g5 g6 g7
  obtain ⟨se, sh, sn⟩ := s
  simp only at g1 g0 g2 g3 g4 g5 g6 g7
  subst g1
  rw [hb] at g7
  refine wp_condT g7 (wp_seq (wp_sq ?_))
  iterate 3 (refine sq_cons rfl ?_; simp only [ZS, Ez.lenD, Ez.appR, Ez.appD, Ez.srcOf, Ez.cpyD, Ez.frzV, Ez.frz, Ez.frz1, Ez.splice, if_true, if_false, Ez.intBin, Nat.reduceEqDiff, reduceIte, Nat.reduceAdd, Nat.reduceMul, Nat.reduceLeDiff, reduceCtorEq, Int.reduceLE, Int.reduceToNat, Nat.reduceSub, Bool.not_true, Bool.not_false, b0, b1, z0, z1, g5, g6])
  refine sq_nil (wp_ret ⟨rfl, ⟨1, ?_, ho.box hO ?_ ?_⟩, rfl⟩)
  · simp only [getE_cons, Nat.reduceEqDiff, if_false, if_true, g5]
  · simp only [getH_cons, if_true, if_false, Nat.reduceEqDiff]; rfl
  · intro x xa xb
    simp only [getH_cons, show (1 = x) = False by simp; omega, show (N' = x) = False by simp; omega, if_false]

theorem wr_off {F : Tab} (hF : F.code = code) (hN : ∀ f vs, f ≠ 10 → F.nat f vs = none) (l : List Sec) (hO : Okay l) (h1 : 1 ≤ l.length) (hn : l.length ≤ 256) (i : Int) (b : List UInt8) (hb : (decide (i < 0) || decide (i ≥ (l.length : Int)) || ((b.length : Int) != 128)) = false) : RunF F 28 [dskV l false true 0, .one (intC i), .one (bytesS b)] [dskV l true true 0, .one (intC 51)] := by
  have har : ∃ ar, ar = true := ⟨true, rfl⟩
  have hle : ∃ le : Int, le = 0 := ⟨0, rfl⟩
  refine RunF.diskE (I := I28) (t := 6) (t2 := 7) (by rw [hF]; rfl) (hN 28 _ (by omega)) rfl rfl rfl ?_
  unfold I28
  simp only [bindArgs, boolC, intC, secsS, bytesS, V.toD, dskV, List.map_cons, List.map_nil]
  refine wp_seq (wp_sq ?_)
  iterate 3 (refine sq_cons rfl ?_; simp only [ZS, Ez.lenD, Ez.appR, Ez.appD, Ez.srcOf, Ez.cpyD, Ez.frzV, Ez.frz, Ez.frz1, Ez.splice, if_true, if_false, Ez.intBin, Nat.reduceEqDiff, reduceIte, Nat.reduceAdd, Nat.reduceMul, Nat.reduceLeDiff, reduceCtorEq, Int.reduceLE, Int.reduceToNat, Nat.reduceSub, Bool.not_true, Bool.not_false])
  refine sq_nil (wp_seq (wp_sq ?_))
  iterate 1 (refine sq_cons rfl ?_; simp only [ZS, Ez.lenD, Ez.appR, Ez.appD, Ez.srcOf, Ez.cpyD, Ez.frzV, Ez.frz, Ez.frz1, Ez.splice, if_true, if_false, Ez.intBin, Nat.reduceEqDiff, reduceIte, Nat.reduceAdd, Nat.reduceMul, Nat.reduceLeDiff, reduceCtorEq, Int.reduceLE, Int.reduceToNat, Nat.reduceSub, Bool.not_true, Bool.not_false])
  obtain ⟨rid, ids, h', N', hrun, ho, hNN, hfr⟩ := copied_run hF l hO h1 hn false true 0 [(1, .box [.full [] 0, .c (.lit (.bool false)), .c (.lit (.bool false)), .c (.lit (.int .i64 0))]), (0, .box [.c (.slice (secsC l) l.length), .c (.lit (.bool false)), .c (.lit (.bool true)), .c (.lit (.int .i64 0))])] 4
  refine sq_lend (ds := [.agg [.c (secsS l), .c (boolC false), .c (boolC true), .c (intC 0)]]) (us := []) (by rfl) hrun ?_
  simp only [tupD, Ez.putE, boolC, intC]
  iterate 2 (refine sq_cons rfl ?_; simp only [ZS, Ez.lenD, Ez.appR, Ez.appD, Ez.srcOf, Ez.cpyD, Ez.frzV, Ez.frz, Ez.frz1, Ez.splice, if_true, if_false, Ez.intBin, Nat.reduceEqDiff, reduceIte, Nat.reduceAdd, Nat.reduceMul, Nat.reduceLeDiff, reduceCtorEq, Int.reduceLE, Int.reduceToNat, Nat.reduceSub, Bool.not_true, Bool.not_false])
  have b0 : getH h' 0 = .box [.c (.slice (secsC l) l.length), .c (.lit (.bool false)), .c (.lit (.bool true)), .c (.lit (.int .i64 0))] := by rw [hfr 0 (by omega)]; rfl
  have b1 : getH h' 1 = .box [.full [] 0, .c (.lit (.bool false)), .c (.lit (.bool false)), .c (.lit (.int .i64 0))] := by rw [hfr 1 (by omega)]; rfl
  have z0 : (N' = 0) = False := by simp; omega
  have z1 : (N' = 1) = False := by simp; omega
  have z0' : (0 = N') = False := by simp; omega
  have z1' : (1 = N') = False := by simp; omega
  refine sq_nil (wp_seq (wp_seq (wp_sq ?_)))
  iterate 2 (refine sq_cons rfl ?_; simp only [ZS, Ez.lenD, Ez.appR, Ez.appD, Ez.srcOf, Ez.cpyD, Ez.frzV, Ez.frz, Ez.frz1, Ez.splice, if_true, if_false, Ez.intBin, Nat.reduceEqDiff, reduceIte, Nat.reduceAdd, Nat.reduceMul, Nat.reduceLeDiff, reduceCtorEq, Int.reduceLE, Int.reduceToNat, Nat.reduceSub, Bool.not_true, Bool.not_false, b0, b1, z0, z1])
  refine sq_nil (wp_condF rfl (wp_skip ?_))
  refine wp_seq (wp_seq (wp_sq ?_))
  refine wtest28 F (p := 0) (n := l.length) (m := b.length) (i := i) (cells := secsC l) (cb := bytesC b) (d1 := .c (.lit (.bool false))) (d2 := .c (.lit (.bool true))) (d3 := .c (.lit (.int .i64 0))) (D6 := .loc 1 0) (D8 := .loc N' 0) rfl rfl rfl rfl rfl (by simp only [getH_cons, z0, if_false, b0]) ?_
  intro s g1 g0 g2 g3 g4 g5 g6 g7
  obtain ⟨se, sh, sn⟩ := s
  simp only at g1 g0 g2 g3 g4 g5 g6 g7
  subst g1
  rw [hb] at g7
  refine wp_condF g7 (wp_skip ?_)
  refine wp_seq (wp_seq (wp_sq ?_))
  obtain ⟨N2, hN2, hp⟩ := power_out hF (N := sn) (q := N') (X := .arr rid 0 l.length) (d := .c (.lit (.bool false))) (h := ((N', .box [.arr rid 0 l.length, .c (.lit (.bool false)), .c (.lit (.bool true)), .c (.lit (.int .i64 0))]) :: (N', .box [.full [] 0, .c (.lit (.bool false)), .c (.lit (.bool false)), .c (.lit (.int .i64 0))]) :: h')) (by simp only [getH_cons, if_true])
  refine sq_lendF (ds := [.loc N' 0]) (us := []) (rs' := [.c (.lit (.bool false))]) (us' := []) (by simp only [List.map_cons, List.map_nil, Ez.evX, g6]; rfl) hp rfl ?_
  simp only [tupD, Ez.putE, Ez.updH]
  iterate 1 (refine sq_cons rfl ?_; simp only [ZS, Ez.lenD, Ez.appR, Ez.appD, Ez.srcOf, Ez.cpyD, Ez.frzV, Ez.frz, Ez.frz1, Ez.splice, if_true, if_false, Ez.intBin, Nat.reduceEqDiff, reduceIte, Nat.reduceAdd, Nat.reduceMul, Nat.reduceLeDiff, reduceCtorEq, Int.reduceLE, Int.reduceToNat, Nat.reduceSub, Bool.not_true, Bool.not_false])
  refine sq_nil (wp_condT rfl (wp_seq (wp_sq ?_)))
  iterate 3 (refine sq_cons rfl ?_; simp only [ZS, Ez.lenD, Ez.appR, Ez.appD, Ez.srcOf, Ez.cpyD, Ez.frzV, Ez.frz, Ez.frz1, Ez.splice, if_true, if_false, Ez.intBin, Nat.reduceEqDiff, reduceIte, Nat.reduceAdd, Nat.reduceMul, Nat.reduceLeDiff, reduceCtorEq, Int.reduceLE, Int.reduceToNat, Nat.reduceSub, Bool.not_true, Bool.not_false, b0, b1, z0, z1, z0', z1', g5, g6])
  refine sq_nil (wp_ret ⟨rfl, ⟨1, ?_, ho.box hO ?_ ?_⟩, rfl⟩)
  · simp only [getE_cons, Nat.reduceEqDiff, if_false, if_true, g5]
  · simp only [getH_cons, if_true, if_false, Nat.reduceEqDiff]; rfl
  · intro x xa xb
    simp only [getH_cons, show (1 = x) = False by simp; omega, show (N' = x) = False by simp; omega, if_false]

def E28 : ICode := match I28.body with | .seq _ (.seq _ (.seq _ (.seq _ (.seq _ c)))) => c | _ => .skip

theorem wr_end {F : Tab} {l : List Sec} (hO : Okay l) (hn : l.length ≤ 256) {B rid N q p N1 k : Nat} {ids : List (Nat × Nat)} {h h' : Heap} {b : List UInt8} {ar : Bool} {le : Int} {e : Env} (ho : Owned l B rid ids h' N1) (hk : k < l.length) (hb : b.length = 128)
    (hfr : ∀ x, B ≤ x → x < N1 → getH h x = getH h' x) (hN : N1 ≤ q) (hqN : q < N) (hp : p < B) (hqp : getH h p = .box [.full [] 0, .c (.lit (.bool false)), .c (.lit (.bool false)), .c (.lit (.int .i64 0))])
    (e1 : getE e 1 = .c (.lit (.int .i64 (k : Int)))) (e2 : getE e 2 = .c (.slice (bytesC b) b.length)) (e6 : getE e 6 = .loc p 0) (e8 : getE e 8 = .loc q 0) (hq : getH h q = .box [.arr rid 0 l.length, .c (.lit (.bool false)), .c (.lit (.bool ar)), .c (.lit (.int .i64 le))]) :
    WP F E28 ⟨e, h, N⟩ (RetDE 6 7 (l.set k ⟨(secAt l k).sure, b, true⟩) false ar le (intC 0)) := by
  obtain ⟨i1, a, b1, i2, s1, s2, s3, s4, s5, s6, s7⟩ := ho.split hk
  have hlo := ho.lo
  have hnd := ho.nd
  rw [s1, flat_app, show flat ((a, b1) :: i2) = a :: b1 :: flat i2 from rfl] at hlo hnd
  have hlt : ∀ x, x ∈ rid :: (flat i1 ++ a :: b1 :: flat i2) → x ≠ q ∧ x ≠ p ∧ x < N := fun x hx => by have := hlo x hx; omega
  have hr : getH h rid = .rows (rowD i1 (l.take k) ++ .arr a 0 128 :: .arr b1 0 128 :: .c (boolC (secAt l k).fresh) :: rowD i2 (l.drop (k + 1))) 3 32 := by
    rw [hfr rid (ho.lo rid (by simp)).1 (ho.lo rid (by simp)).2, ← s7]; exact ho.hr
  have hP : (rowD i1 (l.take k)).length = k * 3 := by rw [rowD_len (by rw [s2, List.length_take]; omega), List.length_take]; congr 1; omega
  have hL : ∀ x y : D, (rowD i1 (l.take k) ++ .arr a 0 128 :: x :: y :: rowD i2 (l.drop (k + 1))).length = l.length * 3 := fun x y => by
    rw [List.length_append, hP]; simp [rowD_len s6.len]; omega
  have sp1 : ∀ x : D, splice (rowD i1 (l.take k) ++ .arr a 0 128 :: .arr b1 0 128 :: .c (boolC (secAt l k).fresh) :: rowD i2 (l.drop (k + 1))) (k * 3 + 1) [x] = rowD i1 (l.take k) ++ .arr a 0 128 :: x :: .c (boolC (secAt l k).fresh) :: rowD i2 (l.drop (k + 1)) := fun x => by rw [← hP]; exact splice_mid1
  have sp2 : ∀ x y : D, splice (rowD i1 (l.take k) ++ .arr a 0 128 :: x :: .c (boolC (secAt l k).fresh) :: rowD i2 (l.drop (k + 1))) (k * 3 + 2) [y] = rowD i1 (l.take k) ++ .arr a 0 128 :: x :: y :: rowD i2 (l.drop (k + 1)) := fun x y => by rw [← hP]; exact splice_mid2
  have f1 : ((k : Int) < (l.length : Int)) = True := by simpa using hk
  have f2 : (k * 3 + 2 ≤ l.length * 3) = True := by simp; omega
  have f3 : (k * 3 + 3 ≤ l.length * 3) = True := by simp; omega
  have p1 : ((0 : Nat) < 1) = True := by simp
  have r3 : (128 ≤ roomMax) = True := by simp [roomMax]
  have hbl : (bytesC b).length = 128 := by rw [bytesC_len]; exact hb
  have rr := hlt rid (by simp)
  have x1 : (q = rid) = False := by simp; omega
  have x2 : (rid = q) = False := by simp; omega
  have x3 : ∀ c, (N + c = q) = False := fun c => by simp; omega
  have x4 : ∀ c, (N + c = rid) = False := fun c => by simp; omega
  have x5 : ∀ c, (q = N + c) = False := fun c => by simp; omega
  have x6 : ∀ c, (rid = N + c) = False := fun c => by simp; omega
  have y1 : (p = rid) = False := by simp; omega
  have y2 : (rid = p) = False := by simp; omega
  have y3 : (p = q) = False := by have := (ho.lo rid (by simp)); simp; omega
  have y4 : (q = p) = False := by have := (ho.lo rid (by simp)); simp; omega
  have y5 : ∀ c, (N + c = p) = False := fun c => by have := (ho.lo rid (by simp)); simp; omega
  have y6 : ∀ c, (p = N + c) = False := fun c => by have := (ho.lo rid (by simp)); simp; omega
  simp only [E28, I28]
  refine wp_seq (wp_dr ?_)
  iterate 14 (refine dr_cons rfl ?_; simp only [ZS, Ez.lenD, Ez.appR, Ez.appD, Ez.srcOf, Ez.cpyD, Ez.frzV, Ez.frz, Ez.frz1, if_true, if_false, Ez.intBin, Nat.reduceEqDiff, reduceIte, Nat.reduceAdd, Nat.reduceMul, Nat.reduceLeDiff, reduceCtorEq, Int.reduceLE, Int.reduceToNat, Nat.reduceSub, Bool.not_true, Bool.not_false, e1, e2, e8, hq, hr, hL, sp1, sp2, f1, f2, f3, p1, r3, hbl, hb, x1, x2, x3, x4, x5, x6])
  refine dr_nil ⟨?_, ?_⟩
  · simp [drawOk, drawFrom, okRow, clash, meets, touches, frzIds, ids1, opX, tmpsX, Nat.testBit, evX, getE_cons, e1, e2, e8, x1, x2, x3, x4, x5, x6, getH_cons]
  refine wp_seq (wp_sq ?_)
  iterate 3 (refine sq_cons rfl ?_; simp only [ZS, Ez.lenD, Ez.appR, Ez.appD, Ez.srcOf, Ez.cpyD, Ez.frzV, Ez.frz, Ez.frz1, Ez.splice, if_true, if_false, Ez.intBin, Nat.reduceEqDiff, reduceIte, Nat.reduceAdd, Nat.reduceMul, Nat.reduceLeDiff, reduceCtorEq, Int.reduceLE, Int.reduceToNat, Nat.reduceSub, Bool.not_true, Bool.not_false, e6, e8, hq, hqp, x1, x2, x3, x4, x5, x6, y1, y2, y3, y4, y5, y6])
  have hset : l.set k ⟨(secAt l k).sure, b, true⟩ = l.take k ++ ⟨(secAt l k).sure, b, true⟩ :: l.drop (k + 1) := Go.Proofs.Ytfphnpelampoeaa.set_getD noSec _ k l hk
  have hnd' : rid ∉ flat i1 ∧ rid ∉ flat i2 ∧ rid ≠ a := by
    rw [List.nodup_cons] at hnd
    refine ⟨fun hx => hnd.1 (by simp [hx]), fun hx => hnd.1 (by simp [hx]), fun hx => hnd.1 (by simp [hx])⟩
  have key : ∀ H : Heap, getH H p = .box [.arr rid 0 l.length, .c (boolC false), .c (boolC ar), .c (intC le)] → getH H rid = .rows (rowD i1 (l.take k) ++ .arr a 0 128 :: .arr (N + 7) 0 128 :: .c (boolC true) :: rowD i2 (l.drop (k + 1))) 3 32 → getH H (N + 7) = .arr (bytesC b) 1 0 5 → (∀ x, x < N → x ≠ q → x ≠ p → x ≠ rid → getH H x = getH h x) → BoxD H p (l.set k ⟨(secAt l k).sure, b, true⟩) false ar le := by
    intro H k1 k2 k3 k4
    have fr : ∀ x, x ∈ flat i1 ++ a :: b1 :: flat i2 → x ≠ rid → getH H x = getH h' x := fun x hx hxr => by
      have hx' := hlt x (by simp only [List.mem_cons]; exact .inr hx)
      have hx'' := hlo x (by simp only [List.mem_cons]; exact .inr hx)
      rw [k4 x hx'.2.2 hx'.1 hx'.2.1 hxr, hfr x hx''.1 hx''.2]
    have hs := hO _ (secAt_mem l k hk)
    have hrc := rows_mid (h := H) (s := ⟨(secAt l k).sure, b, true⟩) (d3 := .c (boolC true)) (s3.frame fun x hx => fr x (by simp [hx]) fun e => hnd'.1 (e ▸ hx)) (s6.frame fun x hx => fr x (by simp [hx]) fun e => hnd'.2.1 (e ▸ hx)) (fun s hs => hO s (List.mem_of_mem_take hs)) (fun s hs => hO s (List.mem_of_mem_drop hs))
      (cont_all (id := a) (by rw [fr a (by simp) fun e => hnd'.2.2 e.symm]; exact s4) hs.2) (cont_all k3 hb) rfl
    rw [← hset] at hrc
    obtain ⟨us, z1, _⟩ := frz_rows k2 hrc
    rw [List.length_set] at z1
    exact ⟨_, us, k1, z1⟩
  refine sq_nil (wp_ret ⟨rfl, ⟨p, ?_, key _ ?_ ?_ ?_ ?_⟩, rfl⟩)
  · simp only [getE_cons, Nat.reduceEqDiff, if_false, if_true, e6]
  · simp only [getH_cons, if_true]; rfl
  · simp only [getH_cons, if_true, if_false, y1, x1, x4]; rfl
  · simp only [getH_cons, if_true, if_false, x5, x6, y6]
  · intro x z1 z2 z3 z4
    simp only [getH_cons, show (p = x) = False by simp; omega, show (rid = x) = False by simp; omega, show (N + 7 = x) = False by simp; omega, if_false]

end Go.Proofs.Ytfphnpelampoeaa.Rw

