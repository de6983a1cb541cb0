/-
  Flush, by the reference; the rounds of its crash.
-/
import Derived.Test.YtfphnpelampoeaaRw16M
set_option linter.unusedVariables false
set_option linter.unusedSimpArgs false
namespace Go.Proofs.Ytfphnpelampoeaa.Rw
open Go Go.Ez

theorem fr_dead {F : Tab} (hF : F.code = code) (hN : ∀ f vs, f ≠ 10 → F.nat f vs = none) (l : List Sec) (hO : Okay l) (h1 : 1 ≤ l.length) (hn : l.length ≤ 256) (ar : Bool) (le : Int) : RunF F 24 [dskV l true ar le] [dskV l true ar le, .one (intC 51)] := by
  refine RunF.diskE (I := I24) (t := 2) (t2 := 3) (by rw [hF]; rfl) (hN 24 _ (by omega)) rfl rfl rfl ?_
  unfold I24
  simp only [bindArgs, boolC, intC, secsS, bytesS, V.toD, dskV, List.map_cons, List.map_nil]
  refine wp_seq (wp_sq ?_)
  iterate 3 (refine sq_cons rfl ?_; simp only [ZS, Ez.lenD, Ez.appR, Ez.appD, Ez.srcOf, Ez.cpyD, Ez.frzV, Ez.frz, Ez.frz1, Ez.splice, if_true, if_false, Ez.intBin, Nat.reduceEqDiff, reduceIte, Nat.reduceAdd, Nat.reduceMul, Nat.reduceLeDiff, reduceCtorEq, Int.reduceLE, Int.reduceToNat, Nat.reduceSub, Bool.not_true, Bool.not_false])
  refine sq_nil (wp_seq (wp_sq ?_))
  iterate 1 (refine sq_cons rfl ?_; simp only [ZS, Ez.lenD, Ez.appR, Ez.appD, Ez.srcOf, Ez.cpyD, Ez.frzV, Ez.frz, Ez.frz1, Ez.splice, if_true, if_false, Ez.intBin, Nat.reduceEqDiff, reduceIte, Nat.reduceAdd, Nat.reduceMul, Nat.reduceLeDiff, reduceCtorEq, Int.reduceLE, Int.reduceToNat, Nat.reduceSub, Bool.not_true, Bool.not_false])
  obtain ⟨rid, ids, h', N', hrun, ho, hNN, hfr⟩ := copied_run hF l hO h1 hn true ar le [(1, .box [.full [] 0, .c (.lit (.bool false)), .c (.lit (.bool false)), .c (.lit (.int .i64 0))]), (0, .box [.c (.slice (secsC l) l.length), .c (.lit (.bool true)), .c (.lit (.bool ar)), .c (.lit (.int .i64 le))])] 4
  refine sq_lend (ds := [.agg [.c (secsS l), .c (boolC true), .c (boolC ar), .c (intC le)]]) (us := []) (by rfl) hrun ?_
  simp only [tupD, Ez.putE, boolC, intC]
  iterate 2 (refine sq_cons rfl ?_; simp only [ZS, Ez.lenD, Ez.appR, Ez.appD, Ez.srcOf, Ez.cpyD, Ez.frzV, Ez.frz, Ez.frz1, Ez.splice, if_true, if_false, Ez.intBin, Nat.reduceEqDiff, reduceIte, Nat.reduceAdd, Nat.reduceMul, Nat.reduceLeDiff, reduceCtorEq, Int.reduceLE, Int.reduceToNat, Nat.reduceSub, Bool.not_true, Bool.not_false])
  have b0 : getH h' 0 = .box [.c (.slice (secsC l) l.length), .c (.lit (.bool true)), .c (.lit (.bool ar)), .c (.lit (.int .i64 le))] := by rw [hfr 0 (by omega)]; rfl
  have b1 : getH h' 1 = .box [.full [] 0, .c (.lit (.bool false)), .c (.lit (.bool false)), .c (.lit (.int .i64 0))] := by rw [hfr 1 (by omega)]; rfl
  have z0 : (N' = 0) = False := by simp; omega
  have z1 : (N' = 1) = False := by simp; omega
  have z0' : (0 = N') = False := by simp; omega
  have z1' : (1 = N') = False := by simp; omega
  refine sq_nil (wp_seq (wp_seq (wp_sq ?_)))
  iterate 6 (first | (refine sq_cons rfl ?_; simp only [ZS, Ez.lenD, Ez.appR, Ez.appD, Ez.srcOf, Ez.cpyD, Ez.frzV, Ez.frz, Ez.frz1, Ez.splice, if_true, if_false, Ez.intBin, Nat.reduceEqDiff, reduceIte, Nat.reduceAdd, Nat.reduceMul, Nat.reduceLeDiff, reduceCtorEq, Int.reduceLE, Int.reduceToNat, Nat.reduceSub, Bool.not_true, Bool.not_false, b0, b1, z0, z1]) | (refine sq_yes rfl (sq_cons rfl ?_); simp only [ZS, Ez.lenD, Ez.appR, Ez.appD, Ez.srcOf, Ez.cpyD, Ez.frzV, Ez.frz, Ez.frz1, Ez.splice, if_true, if_false, Ez.intBin, Nat.reduceEqDiff, reduceIte, Nat.reduceAdd, Nat.reduceMul, Nat.reduceLeDiff, reduceCtorEq, Int.reduceLE, Int.reduceToNat, Nat.reduceSub, Bool.not_true, Bool.not_false, b0, b1, z0, z1]) | (refine sq_no rfl ?_; simp only [Ez.putE, Ez.undefD]))
  refine sq_nil (wp_condT rfl (wp_seq (wp_sq ?_)))
  iterate 3 (refine sq_cons rfl ?_; simp only [ZS, Ez.lenD, Ez.appR, Ez.appD, Ez.srcOf, Ez.cpyD, Ez.frzV, Ez.frz, Ez.frz1, Ez.splice, if_true, if_false, Ez.intBin, Nat.reduceEqDiff, reduceIte, Nat.reduceAdd, Nat.reduceMul, Nat.reduceLeDiff, reduceCtorEq, Int.reduceLE, Int.reduceToNat, Nat.reduceSub, Bool.not_true, Bool.not_false, b0, b1, z0, z1])
  refine sq_nil (wp_ret ⟨rfl, ⟨1, ?_, ho.box hO ?_ ?_⟩, rfl⟩)
  · simp only [getE_cons, Nat.reduceEqDiff, if_false, if_true]
  · simp only [getH_cons, if_true, if_false, Nat.reduceEqDiff]; rfl
  · intro x xa xb
    simp only [getH_cons, show (1 = x) = False by simp; omega, show (N' = x) = False by simp; omega, if_false]

theorem fr_off {F : Tab} (hF : F.code = code) (hN : ∀ f vs, f ≠ 10 → F.nat f vs = none) (l : List Sec) (hO : Okay l) (h1 : 1 ≤ l.length) (hn : l.length ≤ 256) : RunF F 24 [dskV l false true 0] [dskV l true true 0, .one (intC 51)] := by
  refine RunF.diskE (I := I24) (t := 2) (t2 := 3) (by rw [hF]; rfl) (hN 24 _ (by omega)) rfl rfl rfl ?_
  unfold I24
  simp only [bindArgs, boolC, intC, secsS, bytesS, V.toD, dskV, List.map_cons, List.map_nil]
  refine wp_seq (wp_sq ?_)
  iterate 3 (refine sq_cons rfl ?_; simp only [ZS, Ez.lenD, Ez.appR, Ez.appD, Ez.srcOf, Ez.cpyD, Ez.frzV, Ez.frz, Ez.frz1, Ez.splice, if_true, if_false, Ez.intBin, Nat.reduceEqDiff, reduceIte, Nat.reduceAdd, Nat.reduceMul, Nat.reduceLeDiff, reduceCtorEq, Int.reduceLE, Int.reduceToNat, Nat.reduceSub, Bool.not_true, Bool.not_false])
  refine sq_nil (wp_seq (wp_sq ?_))
  iterate 1 (refine sq_cons rfl ?_; simp only [ZS, Ez.lenD, Ez.appR, Ez.appD, Ez.srcOf, Ez.cpyD, Ez.frzV, Ez.frz, Ez.frz1, Ez.splice, if_true, if_false, Ez.intBin, Nat.reduceEqDiff, reduceIte, Nat.reduceAdd, Nat.reduceMul, Nat.reduceLeDiff, reduceCtorEq, Int.reduceLE, Int.reduceToNat, Nat.reduceSub, Bool.not_true, Bool.not_false])
  obtain ⟨rid, ids, h', N', hrun, ho, hNN, hfr⟩ := copied_run hF l hO h1 hn false true 0 [(1, .box [.full [] 0, .c (.lit (.bool false)), .c (.lit (.bool false)), .c (.lit (.int .i64 0))]), (0, .box [.c (.slice (secsC l) l.length), .c (.lit (.bool false)), .c (.lit (.bool true)), .c (.lit (.int .i64 0))])] 4
  refine sq_lend (ds := [.agg [.c (secsS l), .c (boolC false), .c (boolC true), .c (intC 0)]]) (us := []) (by rfl) hrun ?_
  simp only [tupD, Ez.putE, boolC, intC]
  iterate 2 (refine sq_cons rfl ?_; simp only [ZS, Ez.lenD, Ez.appR, Ez.appD, Ez.srcOf, Ez.cpyD, Ez.frzV, Ez.frz, Ez.frz1, Ez.splice, if_true, if_false, Ez.intBin, Nat.reduceEqDiff, reduceIte, Nat.reduceAdd, Nat.reduceMul, Nat.reduceLeDiff, reduceCtorEq, Int.reduceLE, Int.reduceToNat, Nat.reduceSub, Bool.not_true, Bool.not_false])
  have b0 : getH h' 0 = .box [.c (.slice (secsC l) l.length), .c (.lit (.bool false)), .c (.lit (.bool true)), .c (.lit (.int .i64 0))] := by rw [hfr 0 (by omega)]; rfl
  have b1 : getH h' 1 = .box [.full [] 0, .c (.lit (.bool false)), .c (.lit (.bool false)), .c (.lit (.int .i64 0))] := by rw [hfr 1 (by omega)]; rfl
  have z0 : (N' = 0) = False := by simp; omega
  have z1 : (N' = 1) = False := by simp; omega
  have z0' : (0 = N') = False := by simp; omega
  have z1' : (1 = N') = False := by simp; omega
  refine sq_nil (wp_seq (wp_seq (wp_sq ?_)))
  iterate 3 (first | (refine sq_cons rfl ?_; simp only [ZS, Ez.lenD, Ez.appR, Ez.appD, Ez.srcOf, Ez.cpyD, Ez.frzV, Ez.frz, Ez.frz1, Ez.splice, if_true, if_false, Ez.intBin, Nat.reduceEqDiff, reduceIte, Nat.reduceAdd, Nat.reduceMul, Nat.reduceLeDiff, reduceCtorEq, Int.reduceLE, Int.reduceToNat, Nat.reduceSub, Bool.not_true, Bool.not_false, b0, b1, z0, z1]) | (refine sq_yes rfl (sq_cons rfl ?_); simp only [ZS, Ez.lenD, Ez.appR, Ez.appD, Ez.srcOf, Ez.cpyD, Ez.frzV, Ez.frz, Ez.frz1, Ez.splice, if_true, if_false, Ez.intBin, Nat.reduceEqDiff, reduceIte, Nat.reduceAdd, Nat.reduceMul, Nat.reduceLeDiff, reduceCtorEq, Int.reduceLE, Int.reduceToNat, Nat.reduceSub, Bool.not_true, Bool.not_false, b0, b1, z0, z1]) | (refine sq_no rfl ?_; simp only [Ez.putE, Ez.undefD]))
  obtain ⟨N2, hN2, hp⟩ := power_out hF (N := N' + 5) (q := N') (X := .arr rid 0 l.length) (d := .c (.lit (.bool false))) (h := (N', .box [.arr rid 0 l.length, .c (.lit (.bool false)), .c (.lit (.bool true)), .c (.lit (.int .i64 0))]) :: (N', .box [.full [] 0, .c (.lit (.bool false)), .c (.lit (.bool false)), .c (.lit (.int .i64 0))]) :: h') (by simp only [getH_cons, if_true])
  refine sq_yes rfl (sq_lendF (ds := [.loc N' 0]) (us := []) (rs' := [.c (.lit (.bool false))]) (us' := []) (by rfl) hp rfl ?_)
  simp only [tupD, Ez.putE, Ez.updH]
  iterate 2 (first | (refine sq_cons rfl ?_; simp only [ZS, Ez.lenD, Ez.appR, Ez.appD, Ez.srcOf, Ez.cpyD, Ez.frzV, Ez.frz, Ez.frz1, Ez.splice, if_true, if_false, Ez.intBin, Nat.reduceEqDiff, reduceIte, Nat.reduceAdd, Nat.reduceMul, Nat.reduceLeDiff, reduceCtorEq, Int.reduceLE, Int.reduceToNat, Nat.reduceSub, Bool.not_true, Bool.not_false]) | (refine sq_yes rfl (sq_cons rfl ?_); simp only [ZS, Ez.lenD, Ez.appR, Ez.appD, Ez.srcOf, Ez.cpyD, Ez.frzV, Ez.frz, Ez.frz1, Ez.splice, if_true, if_false, Ez.intBin, Nat.reduceEqDiff, reduceIte, Nat.reduceAdd, Nat.reduceMul, Nat.reduceLeDiff, reduceCtorEq, Int.reduceLE, Int.reduceToNat, Nat.reduceSub, Bool.not_true, Bool.not_false]) | (refine sq_no rfl ?_; simp only [Ez.putE, Ez.undefD]))
  refine sq_nil (wp_condT rfl (wp_seq (wp_sq ?_)))
  iterate 3 (refine sq_cons rfl ?_; simp only [ZS, Ez.lenD, Ez.appR, Ez.appD, Ez.srcOf, Ez.cpyD, Ez.frzV, Ez.frz, Ez.frz1, Ez.splice, if_true, if_false, Ez.intBin, Nat.reduceEqDiff, reduceIte, Nat.reduceAdd, Nat.reduceMul, Nat.reduceLeDiff, reduceCtorEq, Int.reduceLE, Int.reduceToNat, Nat.reduceSub, Bool.not_true, Bool.not_false, b0, b1, z0, z1, z0', z1'])
  refine sq_nil (wp_ret ⟨rfl, ⟨1, ?_, ho.box hO ?_ ?_⟩, rfl⟩)
  · simp only [getE_cons, Nat.reduceEqDiff, if_false, if_true]
  · simp only [getH_cons, if_true, if_false, Nat.reduceEqDiff]; rfl
  · intro x xa xb
    simp only [getH_cons, show (1 = x) = False by simp; omega, show (N' = x) = False by simp; omega, if_false]

theorem fr_ok0 {F : Tab} (hF : F.code = code) (hN : ∀ f vs, f ≠ 10 → F.nat f vs = none) (l : List Sec) (hO : Okay l) (h1 : 1 ≤ l.length) (hn : l.length ≤ 256) (le : Int) : RunF F 24 [dskV l false false le] [dskV (settleP l) false false le, .one (intC 0)] := by
  refine RunF.diskE (I := I24) (t := 2) (t2 := 3) (by rw [hF]; rfl) (hN 24 _ (by omega)) rfl rfl rfl ?_
  unfold I24
  simp only [bindArgs, boolC, intC, secsS, bytesS, V.toD, dskV, List.map_cons, List.map_nil]
  refine wp_seq (wp_sq ?_)
  iterate 3 (refine sq_cons rfl ?_; simp only [ZS, Ez.lenD, Ez.appR, Ez.appD, Ez.srcOf, Ez.cpyD, Ez.frzV, Ez.frz, Ez.frz1, Ez.splice, if_true, if_false, Ez.intBin, Nat.reduceEqDiff, reduceIte, Nat.reduceAdd, Nat.reduceMul, Nat.reduceLeDiff, reduceCtorEq, Int.reduceLE, Int.reduceToNat, Nat.reduceSub, Bool.not_true, Bool.not_false])
  refine sq_nil (wp_seq (wp_sq ?_))
  iterate 1 (refine sq_cons rfl ?_; simp only [ZS, Ez.lenD, Ez.appR, Ez.appD, Ez.srcOf, Ez.cpyD, Ez.frzV, Ez.frz, Ez.frz1, Ez.splice, if_true, if_false, Ez.intBin, Nat.reduceEqDiff, reduceIte, Nat.reduceAdd, Nat.reduceMul, Nat.reduceLeDiff, reduceCtorEq, Int.reduceLE, Int.reduceToNat, Nat.reduceSub, Bool.not_true, Bool.not_false])
  obtain ⟨rid, ids, h', N', hrun, ho, hNN, hfr⟩ := copied_run hF l hO h1 hn false false le [(1, .box [.full [] 0, .c (.lit (.bool false)), .c (.lit (.bool false)), .c (.lit (.int .i64 0))]), (0, .box [.c (.slice (secsC l) l.length), .c (.lit (.bool false)), .c (.lit (.bool false)), .c (.lit (.int .i64 le))])] 4
  refine sq_lend (ds := [.agg [.c (secsS l), .c (boolC false), .c (boolC false), .c (intC le)]]) (us := []) (by rfl) hrun ?_
  simp only [tupD, Ez.putE, boolC, intC]
  iterate 2 (refine sq_cons rfl ?_; simp only [ZS, Ez.lenD, Ez.appR, Ez.appD, Ez.srcOf, Ez.cpyD, Ez.frzV, Ez.frz, Ez.frz1, Ez.splice, if_true, if_false, Ez.intBin, Nat.reduceEqDiff, reduceIte, Nat.reduceAdd, Nat.reduceMul, Nat.reduceLeDiff, reduceCtorEq, Int.reduceLE, Int.reduceToNat, Nat.reduceSub, Bool.not_true, Bool.not_false])
  have b0 : getH h' 0 = .box [.c (.slice (secsC l) l.length), .c (.lit (.bool false)), .c (.lit (.bool false)), .c (.lit (.int .i64 le))] := by rw [hfr 0 (by omega)]; rfl
  have b1 : getH h' 1 = .box [.full [] 0, .c (.lit (.bool false)), .c (.lit (.bool false)), .c (.lit (.int .i64 0))] := by rw [hfr 1 (by omega)]; rfl
  have z0 : (N' = 0) = False := by simp; omega
  have z1 : (N' = 1) = False := by simp; omega
  have z0' : (0 = N') = False := by simp; omega
  have z1' : (1 = N') = False := by simp; omega
  refine sq_nil (wp_seq (wp_seq (wp_sq ?_)))
  iterate 3 (first | (refine sq_cons rfl ?_; simp only [ZS, Ez.lenD, Ez.appR, Ez.appD, Ez.srcOf, Ez.cpyD, Ez.frzV, Ez.frz, Ez.frz1, Ez.splice, if_true, if_false, Ez.intBin, Nat.reduceEqDiff, reduceIte, Nat.reduceAdd, Nat.reduceMul, Nat.reduceLeDiff, reduceCtorEq, Int.reduceLE, Int.reduceToNat, Nat.reduceSub, Bool.not_true, Bool.not_false, b0, b1, z0, z1]) | (refine sq_yes rfl (sq_cons rfl ?_); simp only [ZS, Ez.lenD, Ez.appR, Ez.appD, Ez.srcOf, Ez.cpyD, Ez.frzV, Ez.frz, Ez.frz1, Ez.splice, if_true, if_false, Ez.intBin, Nat.reduceEqDiff, reduceIte, Nat.reduceAdd, Nat.reduceMul, Nat.reduceLeDiff, reduceCtorEq, Int.reduceLE, Int.reduceToNat, Nat.reduceSub, Bool.not_true, Bool.not_false, b0, b1, z0, z1]) | (refine sq_no rfl ?_; simp only [Ez.putE, Ez.undefD]))
  obtain ⟨N2, hN2, hp⟩ := power_off hF (N := N' + 5) (q := N') (X := .arr rid 0 l.length) (d := .c (.lit (.bool false))) (le := le) (h := (N', .box [.arr rid 0 l.length, .c (.lit (.bool false)), .c (.lit (.bool false)), .c (.lit (.int .i64 le))]) :: (N', .box [.full [] 0, .c (.lit (.bool false)), .c (.lit (.bool false)), .c (.lit (.int .i64 0))]) :: h') (by simp only [getH_cons, if_true])
  refine sq_yes rfl (sq_lendF (ds := [.loc N' 0]) (us := []) (rs' := [.c (.lit (.bool true))]) (us' := []) (by rfl) hp rfl ?_)
  simp only [tupD, Ez.putE, Ez.updH]
  iterate 2 (first | (refine sq_cons rfl ?_; simp only [ZS, Ez.lenD, Ez.appR, Ez.appD, Ez.srcOf, Ez.cpyD, Ez.frzV, Ez.frz, Ez.frz1, Ez.splice, if_true, if_false, Ez.intBin, Nat.reduceEqDiff, reduceIte, Nat.reduceAdd, Nat.reduceMul, Nat.reduceLeDiff, reduceCtorEq, Int.reduceLE, Int.reduceToNat, Nat.reduceSub, Bool.not_true, Bool.not_false]) | (refine sq_yes rfl (sq_cons rfl ?_); simp only [ZS, Ez.lenD, Ez.appR, Ez.appD, Ez.srcOf, Ez.cpyD, Ez.frzV, Ez.frz, Ez.frz1, Ez.splice, if_true, if_false, Ez.intBin, Nat.reduceEqDiff, reduceIte, Nat.reduceAdd, Nat.reduceMul, Nat.reduceLeDiff, reduceCtorEq, Int.reduceLE, Int.reduceToNat, Nat.reduceSub, Bool.not_true, Bool.not_false]) | (refine sq_no rfl ?_; simp only [Ez.putE, Ez.undefD]))
  refine sq_nil (wp_condF rfl (wp_skip ?_))
  refine wp_seq (wp_seq (wp_sq ?_))
  iterate 1 (refine sq_cons rfl ?_; simp only [ZS, Ez.lenD, Ez.appR, Ez.appD, Ez.srcOf, Ez.cpyD, Ez.frzV, Ez.frz, Ez.frz1, Ez.splice, if_true, if_false, Ez.intBin, Nat.reduceEqDiff, reduceIte, Nat.reduceAdd, Nat.reduceMul, Nat.reduceLeDiff, reduceCtorEq, Int.reduceLE, Int.reduceToNat, Nat.reduceSub, Bool.not_true, Bool.not_false])
  have hrB := (ho.lo rid (by simp)).1
  have hfz : ∀ x, x < N' → (N' = x) = False := fun x hx => by simp; omega
  refine sq_nil (wp_block (s24_loop F l hO hn 4 rid N' (.c (boolC false)) (.c (boolC false)) (.c (intC le)) (.loc 1 0) 0 h' hrB ?_ l.length 0 _ _ _ ids (by omega) (by omega) (by omega) (by simp only [getE_cons, Nat.reduceEqDiff, if_false, if_true]) (by simp only [getE_cons, Nat.reduceEqDiff, if_false, if_true]) (by simp only [getE_cons, Nat.reduceEqDiff, if_false, if_true]; rfl) (by simp only [getH_cons, if_true]; rfl) ?_ (fun x hx => by have := (ho.lo x hx).2; omega) (fun x hx => by simp only [getH_cons, hfz x (by omega), if_false])))
  · intro s ids2 g1 g2 g3 g4 g5 g6
    obtain ⟨se, sh, sn⟩ := s
    simp only at g1 g2 g3 g4 g5 g6
    simp only [if_true]
    have c1 : getH sh 1 = .box [.full [] 0, .c (.lit (.bool false)), .c (.lit (.bool false)), .c (.lit (.int .i64 0))] := by rw [g6 1 (by omega)]; exact b1
    refine wp_seq (wp_sq ?_)
    iterate 3 (refine sq_cons rfl ?_; simp only [ZS, Ez.lenD, Ez.appR, Ez.appD, Ez.srcOf, Ez.cpyD, Ez.frzV, Ez.frz, Ez.frz1, Ez.splice, if_true, if_false, Ez.intBin, Nat.reduceEqDiff, reduceIte, Nat.reduceAdd, Nat.reduceMul, Nat.reduceLeDiff, reduceCtorEq, Int.reduceLE, Int.reduceToNat, Nat.reduceSub, Bool.not_true, Bool.not_false, g1, g2, g3, c1, z0, z1, z0', z1'])
    have hset : (settleP l).length = l.length := by simp [settleP]
    refine sq_nil (wp_ret ⟨rfl, ⟨1, ?_, g4.box ?_ ?_ ?_⟩, rfl⟩)
    · simp only [getE_cons, Nat.reduceEqDiff, if_false, if_true, g1]
    · have := hO.setK l.length
      rw [setK_all] at this
      exact this
    · simp only [getH_cons, if_true, hset]
    · intro x xa xb
      simp only [getH_cons, show (1 = x) = False by simp; omega, if_false]
  · have e0 : setK 0 l = l := by simp [setK, settleP]
    rw [e0]
    have hfx : ∀ x ∈ rid :: flat ids, x < N' := fun x hx => (ho.lo x hx).2
    exact ⟨by simp only [getH_cons, hfz rid (hfx rid (by simp)), if_false]; exact ho.hr, ho.held.frame fun x hx => by simp only [getH_cons, hfz x (hfx x (by simp [hx])), if_false], ho.nd, fun x hx => ⟨(ho.lo x hx).1, by have := (ho.lo x hx).2; omega⟩⟩

theorem fr_ok1 {F : Tab} (hF : F.code = code) (hN : ∀ f vs, f ≠ 10 → F.nat f vs = none) (l : List Sec) (hO : Okay l) (h1 : 1 ≤ l.length) (hn : l.length ≤ 256) (le : Int) (h0 : 0 < le) (h10 : le < 1000000) : RunF F 24 [dskV l false true le] [dskV (settleP l) false true (le - 1), .one (intC 0)] := by
  refine RunF.diskE (I := I24) (t := 2) (t2 := 3) (by rw [hF]; rfl) (hN 24 _ (by omega)) rfl rfl rfl ?_
  unfold I24
  simp only [bindArgs, boolC, intC, secsS, bytesS, V.toD, dskV, List.map_cons, List.map_nil]
  refine wp_seq (wp_sq ?_)
  iterate 3 (refine sq_cons rfl ?_; simp only [ZS, Ez.lenD, Ez.appR, Ez.appD, Ez.srcOf, Ez.cpyD, Ez.frzV, Ez.frz, Ez.frz1, Ez.splice, if_true, if_false, Ez.intBin, Nat.reduceEqDiff, reduceIte, Nat.reduceAdd, Nat.reduceMul, Nat.reduceLeDiff, reduceCtorEq, Int.reduceLE, Int.reduceToNat, Nat.reduceSub, Bool.not_true, Bool.not_false])
  refine sq_nil (wp_seq (wp_sq ?_))
  iterate 1 (refine sq_cons rfl ?_; simp only [ZS, Ez.lenD, Ez.appR, Ez.appD, Ez.srcOf, Ez.cpyD, Ez.frzV, Ez.frz, Ez.frz1, Ez.splice, if_true, if_false, Ez.intBin, Nat.reduceEqDiff, reduceIte, Nat.reduceAdd, Nat.reduceMul, Nat.reduceLeDiff, reduceCtorEq, Int.reduceLE, Int.reduceToNat, Nat.reduceSub, Bool.not_true, Bool.not_false])
  obtain ⟨rid, ids, h', N', hrun, ho, hNN, hfr⟩ := copied_run hF l hO h1 hn false true le [(1, .box [.full [] 0, .c (.lit (.bool false)), .c (.lit (.bool false)), .c (.lit (.int .i64 0))]), (0, .box [.c (.slice (secsC l) l.length), .c (.lit (.bool false)), .c (.lit (.bool true)), .c (.lit (.int .i64 le))])] 4
  refine sq_lend (ds := [.agg [.c (secsS l), .c (boolC false), .c (boolC true), .c (intC le)]]) (us := []) (by rfl) hrun ?_
  simp only [tupD, Ez.putE, boolC, intC]
  iterate 2 (refine sq_cons rfl ?_; simp only [ZS, Ez.lenD, Ez.appR, Ez.appD, Ez.srcOf, Ez.cpyD, Ez.frzV, Ez.frz, Ez.frz1, Ez.splice, if_true, if_false, Ez.intBin, Nat.reduceEqDiff, reduceIte, Nat.reduceAdd, Nat.reduceMul, Nat.reduceLeDiff, reduceCtorEq, Int.reduceLE, Int.reduceToNat, Nat.reduceSub, Bool.not_true, Bool.not_false])
  have b0 : getH h' 0 = .box [.c (.slice (secsC l) l.length), .c (.lit (.bool false)), .c (.lit (.bool true)), .c (.lit (.int .i64 le))] := by rw [hfr 0 (by omega)]; rfl
  have b1 : getH h' 1 = .box [.full [] 0, .c (.lit (.bool false)), .c (.lit (.bool false)), .c (.lit (.int .i64 0))] := by rw [hfr 1 (by omega)]; rfl
  have z0 : (N' = 0) = False := by simp; omega
  have z1 : (N' = 1) = False := by simp; omega
  have z0' : (0 = N') = False := by simp; omega
  have z1' : (1 = N') = False := by simp; omega
  refine sq_nil (wp_seq (wp_seq (wp_sq ?_)))
  iterate 3 (first | (refine sq_cons rfl ?_; simp only [ZS, Ez.lenD, Ez.appR, Ez.appD, Ez.srcOf, Ez.cpyD, Ez.frzV, Ez.frz, Ez.frz1, Ez.splice, if_true, if_false, Ez.intBin, Nat.reduceEqDiff, reduceIte, Nat.reduceAdd, Nat.reduceMul, Nat.reduceLeDiff, reduceCtorEq, Int.reduceLE, Int.reduceToNat, Nat.reduceSub, Bool.not_true, Bool.not_false, b0, b1, z0, z1]) | (refine sq_yes rfl (sq_cons rfl ?_); simp only [ZS, Ez.lenD, Ez.appR, Ez.appD, Ez.srcOf, Ez.cpyD, Ez.frzV, Ez.frz, Ez.frz1, Ez.splice, if_true, if_false, Ez.intBin, Nat.reduceEqDiff, reduceIte, Nat.reduceAdd, Nat.reduceMul, Nat.reduceLeDiff, reduceCtorEq, Int.reduceLE, Int.reduceToNat, Nat.reduceSub, Bool.not_true, Bool.not_false, b0, b1, z0, z1]) | (refine sq_no rfl ?_; simp only [Ez.putE, Ez.undefD]))
  obtain ⟨N2, hN2, hp⟩ := power_on hF (N := N' + 5) (q := N') (X := .arr rid 0 l.length) (d := .c (.lit (.bool false))) (le := le) (h := (N', .box [.arr rid 0 l.length, .c (.lit (.bool false)), .c (.lit (.bool true)), .c (.lit (.int .i64 le))]) :: (N', .box [.full [] 0, .c (.lit (.bool false)), .c (.lit (.bool false)), .c (.lit (.int .i64 0))]) :: h') (by simp only [getH_cons, if_true]) h0 h10
  refine sq_yes rfl (sq_lendF (ds := [.loc N' 0]) (us := []) (rs' := [.c (.lit (.bool true))]) (us' := []) (by rfl) hp rfl ?_)
  simp only [tupD, Ez.putE, Ez.updH]
  iterate 2 (first | (refine sq_cons rfl ?_; simp only [ZS, Ez.lenD, Ez.appR, Ez.appD, Ez.srcOf, Ez.cpyD, Ez.frzV, Ez.frz, Ez.frz1, Ez.splice, if_true, if_false, Ez.intBin, Nat.reduceEqDiff, reduceIte, Nat.reduceAdd, Nat.reduceMul, Nat.reduceLeDiff, reduceCtorEq, Int.reduceLE, Int.reduceToNat, Nat.reduceSub, Bool.not_true, Bool.not_false]) | (refine sq_yes rfl (sq_cons rfl ?_); simp only [ZS, Ez.lenD, Ez.appR, Ez.appD, Ez.srcOf, Ez.cpyD, Ez.frzV, Ez.frz, Ez.frz1, Ez.splice, if_true, if_false, Ez.intBin, Nat.reduceEqDiff, reduceIte, Nat.reduceAdd, Nat.reduceMul, Nat.reduceLeDiff, reduceCtorEq, Int.reduceLE, Int.reduceToNat, Nat.reduceSub, Bool.not_true, Bool.not_false]) | (refine sq_no rfl ?_; simp only [Ez.putE, Ez.undefD]))
  refine sq_nil (wp_condF rfl (wp_skip ?_))
  refine wp_seq (wp_seq (wp_sq ?_))
  iterate 1 (refine sq_cons rfl ?_; simp only [ZS, Ez.lenD, Ez.appR, Ez.appD, Ez.srcOf, Ez.cpyD, Ez.frzV, Ez.frz, Ez.frz1, Ez.splice, if_true, if_false, Ez.intBin, Nat.reduceEqDiff, reduceIte, Nat.reduceAdd, Nat.reduceMul, Nat.reduceLeDiff, reduceCtorEq, Int.reduceLE, Int.reduceToNat, Nat.reduceSub, Bool.not_true, Bool.not_false])
  have hrB := (ho.lo rid (by simp)).1
  have hfz : ∀ x, x < N' → (N' = x) = False := fun x hx => by simp; omega
  refine sq_nil (wp_block (s24_loop F l hO hn 4 rid N' (.c (boolC false)) (.c (boolC true)) (.c (intC (le - 1))) (.loc 1 0) 0 h' hrB ?_ l.length 0 _ _ _ ids (by omega) (by omega) (by omega) (by simp only [getE_cons, Nat.reduceEqDiff, if_false, if_true]) (by simp only [getE_cons, Nat.reduceEqDiff, if_false, if_true]) (by simp only [getE_cons, Nat.reduceEqDiff, if_false, if_true]; rfl) (by simp only [getH_cons, if_true]; rfl) ?_ (fun x hx => by have := (ho.lo x hx).2; omega) (fun x hx => by simp only [getH_cons, hfz x (by omega), if_false])))
  · intro s ids2 g1 g2 g3 g4 g5 g6
    obtain ⟨se, sh, sn⟩ := s
    simp only at g1 g2 g3 g4 g5 g6
    simp only [if_true]
    have c1 : getH sh 1 = .box [.full [] 0, .c (.lit (.bool false)), .c (.lit (.bool false)), .c (.lit (.int .i64 0))] := by rw [g6 1 (by omega)]; exact b1
    refine wp_seq (wp_sq ?_)
    iterate 3 (refine sq_cons rfl ?_; simp only [ZS, Ez.lenD, Ez.appR, Ez.appD, Ez.srcOf, Ez.cpyD, Ez.frzV, Ez.frz, Ez.frz1, Ez.splice, if_true, if_false, Ez.intBin, Nat.reduceEqDiff, reduceIte, Nat.reduceAdd, Nat.reduceMul, Nat.reduceLeDiff, reduceCtorEq, Int.reduceLE, Int.reduceToNat, Nat.reduceSub, Bool.not_true, Bool.not_false, g1, g2, g3, c1, z0, z1, z0', z1'])
    have hset : (settleP l).length = l.length := by simp [settleP]
    refine sq_nil (wp_ret ⟨rfl, ⟨1, ?_, g4.box ?_ ?_ ?_⟩, rfl⟩)
    · simp only [getE_cons, Nat.reduceEqDiff, if_false, if_true, g1]
    · have := hO.setK l.length
      rw [setK_all] at this
      exact this
    · simp only [getH_cons, if_true, hset]
    · intro x xa xb
      simp only [getH_cons, show (1 = x) = False by simp; omega, if_false]
  · have e0 : setK 0 l = l := by simp [setK, settleP]
    rw [e0]
    have hfx : ∀ x ∈ rid :: flat ids, x < N' := fun x hx => (ho.lo x hx).2
    exact ⟨by simp only [getH_cons, hfz rid (hfx rid (by simp)), if_false]; exact ho.hr, ho.held.frame fun x hx => by simp only [getH_cons, hfz x (hfx x (by simp [hx])), if_false], ho.nd, fun x hx => ⟨(ho.lo x hx).1, by have := (ho.lo x hx).2; omega⟩⟩

end Go.Proofs.Ytfphnpelampoeaa.Rw

