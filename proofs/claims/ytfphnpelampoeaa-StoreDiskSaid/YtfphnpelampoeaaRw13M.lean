/-
  Power and writes, by the reference; reads, by both.
-/
import Derived.Test.YtfphnpelampoeaaRw12M
set_option linter.unusedVariables false
set_option linter.unusedSimpArgs false
namespace Go.Proofs.Ytfphnpelampoeaa.Rw
open Go Go.Ez

def Pow (_ : Heap) (N _ : Nat) (h2 : Heap) (d : D) (x : Ex) (s : St) : Prop := x = .ret ∧ s.heap = h2 ∧ N ≤ s.nx ∧ getE s.env 2 = d

theorem power_off {F : Tab} (hF : F.code = code) {h : Heap} {N q : Nat} {X d : D} {le : Int} (hq : getH h q = .box [X, d, .c (.lit (.bool false)), .c (.lit (.int .i64 le))]) : ∃ N', N ≤ N' ∧ RunB F 39 [.loc q 0] h N [.c (.lit (.bool true))] (h) N' := by
  have key : ∃ s : St, RunC F I39.body ⟨bindArgs 0 [.loc q 0], h, N⟩ .ret s ∧ s.heap = h ∧ N ≤ s.nx ∧ getE s.env 2 = .c (.lit (.bool true)) := by
    have k2 : WP F I39.body ⟨bindArgs 0 [.loc q 0], h, N⟩ (Pow h N q (h) (.c (.lit (.bool true)))) := by
      unfold I39
      simp only [bindArgs]
      refine wp_seq (wp_sq ?_)
      iterate 1 (refine sq_cons rfl ?_; simp only [ZS, Ez.lenD, Ez.appR, Ez.appD, Ez.srcOf, Ez.cpyD, Ez.frzV, Ez.frz, Ez.frz1, Ez.splice, if_true, if_false, Ez.intBin, Nat.reduceEqDiff, reduceIte, Nat.reduceAdd, Nat.reduceMul, Nat.reduceLeDiff, reduceCtorEq, Int.reduceLE, Int.reduceToNat, Nat.reduceSub, Bool.not_true, Bool.not_false])
      refine sq_nil (wp_seq (wp_seq (wp_sq ?_)))
      iterate 11 (first | (refine sq_cons rfl ?_; simp only [ZS, Ez.lenD, Ez.appR, Ez.appD, Ez.srcOf, Ez.cpyD, Ez.frzV, Ez.frz, Ez.frz1, Ez.splice, if_true, if_false, Ez.intBin, Nat.reduceEqDiff, reduceIte, Nat.reduceAdd, Nat.reduceMul, Nat.reduceLeDiff, reduceCtorEq, Int.reduceLE, Int.reduceToNat, Nat.reduceSub, Bool.not_true, Bool.not_false, hq]) | (refine sq_yes rfl (sq_cons rfl ?_); simp only [ZS, Ez.lenD, Ez.appR, Ez.appD, Ez.srcOf, Ez.cpyD, Ez.frzV, Ez.frz, Ez.frz1, Ez.splice, if_true, if_false, Ez.intBin, Nat.reduceEqDiff, reduceIte, Nat.reduceAdd, Nat.reduceMul, Nat.reduceLeDiff, reduceCtorEq, Int.reduceLE, Int.reduceToNat, Nat.reduceSub, Bool.not_true, Bool.not_false, hq]) | (refine sq_no rfl ?_; simp only [Ez.putE, Ez.undefD]))
      refine sq_nil (wp_condF rfl (wp_skip ?_))
      refine wp_seq (wp_seq (wp_sq ?_))
      iterate 4 (refine sq_cons rfl ?_; simp only [ZS, Ez.lenD, Ez.appR, Ez.appD, Ez.srcOf, Ez.cpyD, Ez.frzV, Ez.frz, Ez.frz1, Ez.splice, if_true, if_false, Ez.intBin, Nat.reduceEqDiff, reduceIte, Nat.reduceAdd, Nat.reduceMul, Nat.reduceLeDiff, reduceCtorEq, Int.reduceLE, Int.reduceToNat, Nat.reduceSub, Bool.not_true, Bool.not_false, hq])
      refine sq_nil (wp_condF rfl (wp_skip ?_))
      refine wp_seq (wp_sq ?_)
      iterate 1 (refine sq_cons rfl ?_; simp only [ZS, Ez.lenD, Ez.appR, Ez.appD, Ez.srcOf, Ez.cpyD, Ez.frzV, Ez.frz, Ez.frz1, Ez.splice, if_true, if_false, Ez.intBin, Nat.reduceEqDiff, reduceIte, Nat.reduceAdd, Nat.reduceMul, Nat.reduceLeDiff, reduceCtorEq, Int.reduceLE, Int.reduceToNat, Nat.reduceSub, Bool.not_true, Bool.not_false])
      refine sq_nil (wp_ret ⟨rfl, rfl, ?_, ?_⟩)
      · simp only; omega
      · simp only [getE_cons, Nat.reduceEqDiff, if_false, if_true]

    obtain ⟨x, s, h1, rfl, h2, h3, h4⟩ := k2
    exact ⟨s, h1, h2, h3, h4⟩
  obtain ⟨s, h1, h2, h3, h4⟩ := key
  refine ⟨s.nx, h3, ?_⟩
  have hb := RunB.fn (f := 39) (I := I39) (rs := [.c (.lit (.bool true))]) (by rw [hF]; rfl) rfl h1 (by simp) (by simp [I39, resD, h4])
  rw [h2] at hb
  exact hb

theorem power_out {F : Tab} (hF : F.code = code) {h : Heap} {N q : Nat} {X d : D} (hq : getH h q = .box [X, d, .c (.lit (.bool true)), .c (.lit (.int .i64 0))]) : ∃ N', N ≤ N' ∧ RunB F 39 [.loc q 0] h N [.c (.lit (.bool false))] ((q, .box [X, .c (.lit (.bool true)), .c (.lit (.bool true)), .c (.lit (.int .i64 0))]) :: h) N' := by
  have key : ∃ s : St, RunC F I39.body ⟨bindArgs 0 [.loc q 0], h, N⟩ .ret s ∧ s.heap = (q, .box [X, .c (.lit (.bool true)), .c (.lit (.bool true)), .c (.lit (.int .i64 0))]) :: h ∧ N ≤ s.nx ∧ getE s.env 2 = .c (.lit (.bool false)) := by
    have k2 : WP F I39.body ⟨bindArgs 0 [.loc q 0], h, N⟩ (Pow h N q ((q, .box [X, .c (.lit (.bool true)), .c (.lit (.bool true)), .c (.lit (.int .i64 0))]) :: h) (.c (.lit (.bool false)))) := by
      unfold I39
      simp only [bindArgs]
      have c0 : ((0 : Int) == 0) = true := rfl
      refine wp_seq (wp_sq ?_)
      iterate 1 (refine sq_cons rfl ?_; simp only [ZS, Ez.lenD, Ez.appR, Ez.appD, Ez.srcOf, Ez.cpyD, Ez.frzV, Ez.frz, Ez.frz1, Ez.splice, if_true, if_false, Ez.intBin, Nat.reduceEqDiff, reduceIte, Nat.reduceAdd, Nat.reduceMul, Nat.reduceLeDiff, reduceCtorEq, Int.reduceLE, Int.reduceToNat, Nat.reduceSub, Bool.not_true, Bool.not_false])
      refine sq_nil (wp_seq (wp_seq (wp_sq ?_)))
      iterate 11 (first | (refine sq_cons rfl ?_; simp only [ZS, Ez.lenD, Ez.appR, Ez.appD, Ez.srcOf, Ez.cpyD, Ez.frzV, Ez.frz, Ez.frz1, Ez.splice, if_true, if_false, Ez.intBin, Nat.reduceEqDiff, reduceIte, Nat.reduceAdd, Nat.reduceMul, Nat.reduceLeDiff, reduceCtorEq, Int.reduceLE, Int.reduceToNat, Nat.reduceSub, Bool.not_true, Bool.not_false, hq, c0]) | (refine sq_yes rfl (sq_cons rfl ?_); simp only [ZS, Ez.lenD, Ez.appR, Ez.appD, Ez.srcOf, Ez.cpyD, Ez.frzV, Ez.frz, Ez.frz1, Ez.splice, if_true, if_false, Ez.intBin, Nat.reduceEqDiff, reduceIte, Nat.reduceAdd, Nat.reduceMul, Nat.reduceLeDiff, reduceCtorEq, Int.reduceLE, Int.reduceToNat, Nat.reduceSub, Bool.not_true, Bool.not_false, hq, c0]) | (refine sq_no rfl ?_; simp only [Ez.putE, Ez.undefD]))
      refine sq_nil (wp_condT rfl (wp_seq (wp_sq ?_)))
      iterate 4 (refine sq_cons rfl ?_; simp only [ZS, Ez.lenD, Ez.appR, Ez.appD, Ez.srcOf, Ez.cpyD, Ez.frzV, Ez.frz, Ez.frz1, Ez.splice, if_true, if_false, Ez.intBin, Nat.reduceEqDiff, reduceIte, Nat.reduceAdd, Nat.reduceMul, Nat.reduceLeDiff, reduceCtorEq, Int.reduceLE, Int.reduceToNat, Nat.reduceSub, Bool.not_true, Bool.not_false, hq])
      refine sq_nil (wp_seq (wp_sq ?_))
      iterate 1 (refine sq_cons rfl ?_; simp only [ZS, Ez.lenD, Ez.appR, Ez.appD, Ez.srcOf, Ez.cpyD, Ez.frzV, Ez.frz, Ez.frz1, Ez.splice, if_true, if_false, Ez.intBin, Nat.reduceEqDiff, reduceIte, Nat.reduceAdd, Nat.reduceMul, Nat.reduceLeDiff, reduceCtorEq, Int.reduceLE, Int.reduceToNat, Nat.reduceSub, Bool.not_true, Bool.not_false])
      refine sq_nil (wp_ret ⟨rfl, rfl, ?_, ?_⟩)
      · simp only; omega
      · simp only [getE_cons, Nat.reduceEqDiff, if_false, if_true]

    obtain ⟨x, s, h1, rfl, h2, h3, h4⟩ := k2
    exact ⟨s, h1, h2, h3, h4⟩
  obtain ⟨s, h1, h2, h3, h4⟩ := key
  refine ⟨s.nx, h3, ?_⟩
  have hb := RunB.fn (f := 39) (I := I39) (rs := [.c (.lit (.bool false))]) (by rw [hF]; rfl) rfl h1 (by simp) (by simp [I39, resD, h4])
  rw [h2] at hb
  exact hb

theorem power_on {F : Tab} (hF : F.code = code) {h : Heap} {N q : Nat} {X d : D} {le : Int} (hq : getH h q = .box [X, d, .c (.lit (.bool true)), .c (.lit (.int .i64 le))]) (h0 : 0 < le) (h1 : le < 1000000) : ∃ N', N ≤ N' ∧ RunB F 39 [.loc q 0] h N [.c (.lit (.bool true))] ((q, .box [X, d, .c (.lit (.bool true)), .c (.lit (.int .i64 (le - 1)))]) :: h) N' := by
  have key : ∃ s : St, RunC F I39.body ⟨bindArgs 0 [.loc q 0], h, N⟩ .ret s ∧ s.heap = (q, .box [X, d, .c (.lit (.bool true)), .c (.lit (.int .i64 (le - 1)))]) :: h ∧ N ≤ s.nx ∧ getE s.env 2 = .c (.lit (.bool true)) := by
    have k2 : WP F I39.body ⟨bindArgs 0 [.loc q 0], h, N⟩ (Pow h N q ((q, .box [X, d, .c (.lit (.bool true)), .c (.lit (.int .i64 (le - 1)))]) :: h) (.c (.lit (.bool true)))) := by
      unfold I39
      simp only [bindArgs]
      have c0 : (le == 0) = false := by simp; omega
      have hw : IntKind.wrap .i64 (le - 1) = le - 1 := Go.Proofs.Ytfphnpelampoeaa.wrap_i64 _ (by omega)
      refine wp_seq (wp_sq ?_)
      iterate 1 (refine sq_cons rfl ?_; simp only [ZS, Ez.lenD, Ez.appR, Ez.appD, Ez.srcOf, Ez.cpyD, Ez.frzV, Ez.frz, Ez.frz1, Ez.splice, if_true, if_false, Ez.intBin, Nat.reduceEqDiff, reduceIte, Nat.reduceAdd, Nat.reduceMul, Nat.reduceLeDiff, reduceCtorEq, Int.reduceLE, Int.reduceToNat, Nat.reduceSub, Bool.not_true, Bool.not_false])
      refine sq_nil (wp_seq (wp_seq (wp_sq ?_)))
      iterate 11 (first | (refine sq_cons rfl ?_; simp only [ZS, Ez.lenD, Ez.appR, Ez.appD, Ez.srcOf, Ez.cpyD, Ez.frzV, Ez.frz, Ez.frz1, Ez.splice, if_true, if_false, Ez.intBin, Nat.reduceEqDiff, reduceIte, Nat.reduceAdd, Nat.reduceMul, Nat.reduceLeDiff, reduceCtorEq, Int.reduceLE, Int.reduceToNat, Nat.reduceSub, Bool.not_true, Bool.not_false, hq, c0]) | (refine sq_yes rfl (sq_cons rfl ?_); simp only [ZS, Ez.lenD, Ez.appR, Ez.appD, Ez.srcOf, Ez.cpyD, Ez.frzV, Ez.frz, Ez.frz1, Ez.splice, if_true, if_false, Ez.intBin, Nat.reduceEqDiff, reduceIte, Nat.reduceAdd, Nat.reduceMul, Nat.reduceLeDiff, reduceCtorEq, Int.reduceLE, Int.reduceToNat, Nat.reduceSub, Bool.not_true, Bool.not_false, hq, c0]) | (refine sq_no rfl ?_; simp only [Ez.putE, Ez.undefD]))
      refine sq_nil (wp_condF rfl (wp_skip ?_))
      refine wp_seq (wp_seq (wp_sq ?_))
      iterate 4 (refine sq_cons rfl ?_; simp only [ZS, Ez.lenD, Ez.appR, Ez.appD, Ez.srcOf, Ez.cpyD, Ez.frzV, Ez.frz, Ez.frz1, Ez.splice, if_true, if_false, Ez.intBin, Nat.reduceEqDiff, reduceIte, Nat.reduceAdd, Nat.reduceMul, Nat.reduceLeDiff, reduceCtorEq, Int.reduceLE, Int.reduceToNat, Nat.reduceSub, Bool.not_true, Bool.not_false, hq])
      refine sq_nil (wp_condT rfl (wp_sq ?_))
      iterate 8 (refine sq_cons rfl ?_; simp only [ZS, Ez.lenD, Ez.appR, Ez.appD, Ez.srcOf, Ez.cpyD, Ez.frzV, Ez.frz, Ez.frz1, Ez.splice, if_true, if_false, Ez.intBin, Nat.reduceEqDiff, reduceIte, Nat.reduceAdd, Nat.reduceMul, Nat.reduceLeDiff, reduceCtorEq, Int.reduceLE, Int.reduceToNat, Nat.reduceSub, Bool.not_true, Bool.not_false, hq, hw])
      refine sq_nil (wp_seq (wp_sq ?_))
      iterate 1 (refine sq_cons rfl ?_; simp only [ZS, Ez.lenD, Ez.appR, Ez.appD, Ez.srcOf, Ez.cpyD, Ez.frzV, Ez.frz, Ez.frz1, Ez.splice, if_true, if_false, Ez.intBin, Nat.reduceEqDiff, reduceIte, Nat.reduceAdd, Nat.reduceMul, Nat.reduceLeDiff, reduceCtorEq, Int.reduceLE, Int.reduceToNat, Nat.reduceSub, Bool.not_true, Bool.not_false])
      refine sq_nil (wp_ret ⟨rfl, rfl, ?_, ?_⟩)
      · simp only; omega
      · simp only [getE_cons, Nat.reduceEqDiff, if_false, if_true]

    obtain ⟨x, s, h1, rfl, h2, h3, h4⟩ := k2
    exact ⟨s, h1, h2, h3, h4⟩
  obtain ⟨s, h1, h2, h3, h4⟩ := key
  refine ⟨s.nx, h3, ?_⟩
  have hb := RunB.fn (f := 39) (I := I39) (rs := [.c (.lit (.bool true))]) (by rw [hF]; rfl) rfl h1 (by simp) (by simp [I39, resD, h4])
  rw [h2] at hb
  exact hb

/-- it returns with bytes and a number -/
def RetRE (c : C) (e : Int) (x : Ex) (s : St) : Prop := x = .ret ∧ (∃ d us, getE s.env 4 = d ∧ frz s.heap d = some (c, us)) ∧ getE s.env 5 = .c (intC e)

theorem RunF.readE {F : Tab} {f : Nat} {I : IFunc} {vs : List V} {ds : List D} {c : C} {e : Int} (hI : F.code f = some I) (hn : F.nat f vs = none) (hp : ds.length = I.nparams) (hv : vs.map V.toD = ds) (hres : I.res = [.tmp 4, .tmp 5])
    (h : WP F I.body ⟨bindArgs 0 ds, [], 0⟩ (RetRE c e)) : RunF F f vs [.one c, .one (intC e)] := by
  obtain ⟨x, s, hrun, rfl, ⟨d, us, g1, g3⟩, g4⟩ := h
  have hd : ∀ ts, d ≠ .tup ts := by intro ts hd; subst hd; simp [frz, frz1] at g3
  have hda : ∀ ts, d ≠ .agg ts := by intro ts hd; subst hd; simp [frz, frz1] at g3
  have hb : RunB F f ds [] 0 [d, .c (intC e)] s.heap s.nx := by
    refine RunB.fn hI hp hrun (by simp) ?_
    rw [hres]
    simp only [resD, g4, g1, Option.bind_eq_bind, Option.bind_some]
    try (cases d <;> first | rfl | exact absurd rfl (hd _))
  rw [← hv] at hb
  refine RunF.body (us := us) hn hb ?_
  have a1 : frzV s.heap d = some (.one c, us) := by
    cases d <;> first | (simp only [frzV, g3, Option.bind_eq_bind, Option.bind_some]; done) | exact absurd rfl (hda _)
  have a2 : ∀ h, frzV h (.c (intC e)) = some (.one (intC e), []) := fun _ => rfl
  simp only [frzVs, a1, a2, Option.bind_eq_bind, Option.bind_some, List.append_nil]

theorem read29_dead {F : Tab} (hF : F.code = code) (hN : ∀ f vs, f ≠ 10 → F.nat f vs = none) (l : List Sec) (ar : Bool) (le i : Int) : RunF F 29 [dskV l true ar le, .one (intC i)] [.one (.slice [] 0), .one (intC 51)] := by
  refine RunF.readE (I := I29) (by rw [hF]; rfl) (hN 29 _ (by omega)) rfl rfl rfl ?_
  unfold I29
  simp only [bindArgs, boolC, intC, secsS, bytesS, V.toD, dskV, List.map_cons, List.map_nil]
  refine wp_seq (wp_sq ?_)
  iterate 3 (refine sq_cons rfl ?_; simp only [ZS, Ez.lenD, Ez.appR, Ez.appD, Ez.srcOf, Ez.cpyD, Ez.frzV, Ez.frz, Ez.frz1, Ez.splice, if_true, if_false, Ez.intBin, Nat.reduceEqDiff, reduceIte, Nat.reduceAdd, Nat.reduceMul, Nat.reduceLeDiff, reduceCtorEq, Int.reduceLE, Int.reduceToNat, Nat.reduceSub, Bool.not_true, Bool.not_false])
  refine sq_nil (wp_seq (wp_seq (wp_sq ?_)))
  iterate 2 (refine sq_cons rfl ?_; simp only [ZS, Ez.lenD, Ez.appR, Ez.appD, Ez.srcOf, Ez.cpyD, Ez.frzV, Ez.frz, Ez.frz1, Ez.splice, if_true, if_false, Ez.intBin, Nat.reduceEqDiff, reduceIte, Nat.reduceAdd, Nat.reduceMul, Nat.reduceLeDiff, reduceCtorEq, Int.reduceLE, Int.reduceToNat, Nat.reduceSub, Bool.not_true, Bool.not_false])
  refine sq_nil (wp_condT rfl (wp_seq (wp_sq ?_)))
  iterate 2 (refine sq_cons rfl ?_; simp only [ZS, Ez.lenD, Ez.appR, Ez.appD, Ez.srcOf, Ez.cpyD, Ez.frzV, Ez.frz, Ez.frz1, Ez.splice, if_true, if_false, Ez.intBin, Nat.reduceEqDiff, reduceIte, Nat.reduceAdd, Nat.reduceMul, Nat.reduceLeDiff, reduceCtorEq, Int.reduceLE, Int.reduceToNat, Nat.reduceSub, Bool.not_true, Bool.not_false])
  exact sq_nil (wp_ret ⟨rfl, ⟨_, [], rfl, rfl⟩, rfl⟩)

theorem read29_bad {F : Tab} (hF : F.code = code) (hN : ∀ f vs, f ≠ 10 → F.nat f vs = none) (l : List Sec) (ar : Bool) (le i : Int) (hi : (decide (i < 0) || decide (i ≥ (l.length : Int))) = true) : RunF F 29 [dskV l false ar le, .one (intC i)] [.one (.slice [] 0), .one (intC 52)] := by
  refine RunF.readE (I := I29) (by rw [hF]; rfl) (hN 29 _ (by omega)) rfl rfl rfl ?_
  unfold I29
  simp only [bindArgs, boolC, intC, secsS, bytesS, V.toD, dskV, List.map_cons, List.map_nil]
  refine wp_seq (wp_sq ?_)
  iterate 3 (refine sq_cons rfl ?_; simp only [ZS, Ez.lenD, Ez.appR, Ez.appD, Ez.srcOf, Ez.cpyD, Ez.frzV, Ez.frz, Ez.frz1, Ez.splice, if_true, if_false, Ez.intBin, Nat.reduceEqDiff, reduceIte, Nat.reduceAdd, Nat.reduceMul, Nat.reduceLeDiff, reduceCtorEq, Int.reduceLE, Int.reduceToNat, Nat.reduceSub, Bool.not_true, Bool.not_false])
  refine sq_nil (wp_seq (wp_seq (wp_sq ?_)))
  iterate 2 (refine sq_cons rfl ?_; simp only [ZS, Ez.lenD, Ez.appR, Ez.appD, Ez.srcOf, Ez.cpyD, Ez.frzV, Ez.frz, Ez.frz1, Ez.splice, if_true, if_false, Ez.intBin, Nat.reduceEqDiff, reduceIte, Nat.reduceAdd, Nat.reduceMul, Nat.reduceLeDiff, reduceCtorEq, Int.reduceLE, Int.reduceToNat, Nat.reduceSub, Bool.not_true, Bool.not_false])
  refine sq_nil (wp_condF rfl (wp_skip ?_))
  refine wp_seq (wp_seq (wp_sq ?_))
  cases x1 : decide (i < 0)
  · rw [x1, Bool.false_or] at hi
    iterate 9 (first | (refine sq_cons rfl ?_; simp only [ZS, Ez.lenD, Ez.appR, Ez.appD, Ez.srcOf, Ez.cpyD, Ez.frzV, Ez.frz, Ez.frz1, Ez.splice, if_true, if_false, Ez.intBin, Nat.reduceEqDiff, reduceIte, Nat.reduceAdd, Nat.reduceMul, Nat.reduceLeDiff, reduceCtorEq, Int.reduceLE, Int.reduceToNat, Nat.reduceSub, Bool.not_true, Bool.not_false, x1, hi]) | (refine sq_yes rfl (sq_cons rfl ?_); simp only [ZS, Ez.lenD, Ez.appR, Ez.appD, Ez.srcOf, Ez.cpyD, Ez.frzV, Ez.frz, Ez.frz1, Ez.splice, if_true, if_false, Ez.intBin, Nat.reduceEqDiff, reduceIte, Nat.reduceAdd, Nat.reduceMul, Nat.reduceLeDiff, reduceCtorEq, Int.reduceLE, Int.reduceToNat, Nat.reduceSub, Bool.not_true, Bool.not_false, x1, hi]) | (refine sq_no rfl ?_; simp only [Ez.putE, Ez.undefD]))
    refine sq_nil (wp_condT rfl (wp_seq (wp_sq ?_)))
    iterate 2 (refine sq_cons rfl ?_; simp only [ZS, Ez.lenD, Ez.appR, Ez.appD, Ez.srcOf, Ez.cpyD, Ez.frzV, Ez.frz, Ez.frz1, Ez.splice, if_true, if_false, Ez.intBin, Nat.reduceEqDiff, reduceIte, Nat.reduceAdd, Nat.reduceMul, Nat.reduceLeDiff, reduceCtorEq, Int.reduceLE, Int.reduceToNat, Nat.reduceSub, Bool.not_true, Bool.not_false])
    exact sq_nil (wp_ret ⟨rfl, ⟨_, [], rfl, rfl⟩, rfl⟩)
  · iterate 9 (first | (refine sq_cons rfl ?_; simp only [ZS, Ez.lenD, Ez.appR, Ez.appD, Ez.srcOf, Ez.cpyD, Ez.frzV, Ez.frz, Ez.frz1, Ez.splice, if_true, if_false, Ez.intBin, Nat.reduceEqDiff, reduceIte, Nat.reduceAdd, Nat.reduceMul, Nat.reduceLeDiff, reduceCtorEq, Int.reduceLE, Int.reduceToNat, Nat.reduceSub, Bool.not_true, Bool.not_false, x1]) | (refine sq_yes rfl (sq_cons rfl ?_); simp only [ZS, Ez.lenD, Ez.appR, Ez.appD, Ez.srcOf, Ez.cpyD, Ez.frzV, Ez.frz, Ez.frz1, Ez.splice, if_true, if_false, Ez.intBin, Nat.reduceEqDiff, reduceIte, Nat.reduceAdd, Nat.reduceMul, Nat.reduceLeDiff, reduceCtorEq, Int.reduceLE, Int.reduceToNat, Nat.reduceSub, Bool.not_true, Bool.not_false, x1]) | (refine sq_no rfl ?_; simp only [Ez.putE, Ez.undefD]))
    refine sq_nil (wp_condT rfl (wp_seq (wp_sq ?_)))
    iterate 2 (refine sq_cons rfl ?_; simp only [ZS, Ez.lenD, Ez.appR, Ez.appD, Ez.srcOf, Ez.cpyD, Ez.frzV, Ez.frz, Ez.frz1, Ez.splice, if_true, if_false, Ez.intBin, Nat.reduceEqDiff, reduceIte, Nat.reduceAdd, Nat.reduceMul, Nat.reduceLeDiff, reduceCtorEq, Int.reduceLE, Int.reduceToNat, Nat.reduceSub, Bool.not_true, Bool.not_false])
    exact sq_nil (wp_ret ⟨rfl, ⟨_, [], rfl, rfl⟩, rfl⟩)

theorem read29_ok {F : Tab} (hF : F.code = code) (hN : ∀ f vs, f ≠ 10 → F.nat f vs = none) (l : List Sec) (hO : Okay l) (ar : Bool) (le : Int) (k : Nat) (hk : k < l.length) : RunF F 29 [dskV l false ar le, .one (intC k)] [.one (bytesS (secAt l k).data), .one (intC 0)] := by
  have x1 : decide ((k : Int) < 0) = false := by simp
  have x2 : decide ((k : Int) ≥ (l.length : Int)) = false := by simp; omega
  have hs := hO _ (secAt_mem l k hk)
  have hc := cells_at hO hk
  have f1 : ((k : Int) < (l.length : Int)) = True := by simpa using hk
  have hbl : (bytesC (secAt l k).data).length = 128 := by rw [bytesC_len]; exact hs.1
  have p1 : ((0 : Nat) < 1) = True := by simp
  have r3 : (128 ≤ roomMax) = True := by simp [roomMax]
  refine RunF.readE (I := I29) (by rw [hF]; rfl) (hN 29 _ (by omega)) rfl rfl rfl ?_
  unfold I29
  simp only [bindArgs, boolC, intC, secsS, bytesS, V.toD, dskV, List.map_cons, List.map_nil]
  refine wp_seq (wp_sq ?_)
  iterate 3 (refine sq_cons rfl ?_; simp only [ZS, Ez.lenD, Ez.appR, Ez.appD, Ez.srcOf, Ez.cpyD, Ez.frzV, Ez.frz, Ez.frz1, Ez.splice, if_true, if_false, Ez.intBin, Nat.reduceEqDiff, reduceIte, Nat.reduceAdd, Nat.reduceMul, Nat.reduceLeDiff, reduceCtorEq, Int.reduceLE, Int.reduceToNat, Nat.reduceSub, Bool.not_true, Bool.not_false])
  refine sq_nil (wp_seq (wp_seq (wp_sq ?_)))
  iterate 2 (refine sq_cons rfl ?_; simp only [ZS, Ez.lenD, Ez.appR, Ez.appD, Ez.srcOf, Ez.cpyD, Ez.frzV, Ez.frz, Ez.frz1, Ez.splice, if_true, if_false, Ez.intBin, Nat.reduceEqDiff, reduceIte, Nat.reduceAdd, Nat.reduceMul, Nat.reduceLeDiff, reduceCtorEq, Int.reduceLE, Int.reduceToNat, Nat.reduceSub, Bool.not_true, Bool.not_false])
  refine sq_nil (wp_condF rfl (wp_skip ?_))
  refine wp_seq (wp_seq (wp_sq ?_))
  iterate 9 (first | (refine sq_cons rfl ?_; simp only [ZS, Ez.lenD, Ez.appR, Ez.appD, Ez.srcOf, Ez.cpyD, Ez.frzV, Ez.frz, Ez.frz1, Ez.splice, if_true, if_false, Ez.intBin, Nat.reduceEqDiff, reduceIte, Nat.reduceAdd, Nat.reduceMul, Nat.reduceLeDiff, reduceCtorEq, Int.reduceLE, Int.reduceToNat, Nat.reduceSub, Bool.not_true, Bool.not_false, x1, x2]) | (refine sq_yes rfl (sq_cons rfl ?_); simp only [ZS, Ez.lenD, Ez.appR, Ez.appD, Ez.srcOf, Ez.cpyD, Ez.frzV, Ez.frz, Ez.frz1, Ez.splice, if_true, if_false, Ez.intBin, Nat.reduceEqDiff, reduceIte, Nat.reduceAdd, Nat.reduceMul, Nat.reduceLeDiff, reduceCtorEq, Int.reduceLE, Int.reduceToNat, Nat.reduceSub, Bool.not_true, Bool.not_false, x1, x2]) | (refine sq_no rfl ?_; simp only [Ez.putE, Ez.undefD]))
  refine sq_nil (wp_condF rfl (wp_skip ?_))
  refine wp_seq (wp_sq ?_)
  iterate 9 (refine sq_cons rfl ?_; simp only [ZS, Ez.lenD, Ez.appR, Ez.appD, Ez.srcOf, Ez.cpyD, Ez.frzV, Ez.frz, Ez.frz1, Ez.splice, if_true, if_false, Ez.intBin, Nat.reduceEqDiff, reduceIte, Nat.reduceAdd, Nat.reduceMul, Nat.reduceLeDiff, reduceCtorEq, Int.reduceLE, Int.reduceToNat, Nat.reduceSub, Bool.not_true, Bool.not_false, f1, hc, hbl, p1, r3])
  refine sq_nil (wp_ret ⟨rfl, ⟨_, [(20, .arr (bytesC (secAt l k).data) 1 128 5)], rfl, ?_⟩, rfl⟩)
  simp only [getE_cons, Nat.reduceEqDiff, if_false, if_true, Ez.frz, Ez.frz1, getH_cons, Nat.reduceEqDiff, Nat.zero_add, Nat.mul_one, hbl, Nat.le_refl, List.drop_zero, List.take_of_length_le (Nat.le_of_eq hbl), bytesS, hs.1]
  rfl

theorem read30_dead {F : Tab} (hF : F.code = code) (hN : ∀ f vs, f ≠ 10 → F.nat f vs = none) (l : List Sec) (ar : Bool) (le i : Int) : RunF F 30 [dskV l true ar le, .one (intC i)] [.one (.slice [] 0), .one (intC 51)] := by
  refine RunF.readE (I := I30) (by rw [hF]; rfl) (hN 30 _ (by omega)) rfl rfl rfl ?_
  unfold I30
  simp only [bindArgs, boolC, intC, secsS, bytesS, V.toD, dskV, List.map_cons, List.map_nil]
  refine wp_seq (wp_sq ?_)
  iterate 3 (refine sq_cons rfl ?_; simp only [ZS, Ez.lenD, Ez.appR, Ez.appD, Ez.srcOf, Ez.cpyD, Ez.frzV, Ez.frz, Ez.frz1, Ez.splice, if_true, if_false, Ez.intBin, Nat.reduceEqDiff, reduceIte, Nat.reduceAdd, Nat.reduceMul, Nat.reduceLeDiff, reduceCtorEq, Int.reduceLE, Int.reduceToNat, Nat.reduceSub, Bool.not_true, Bool.not_false])
  refine sq_nil (wp_seq (wp_seq (wp_sq ?_)))
  iterate 2 (refine sq_cons rfl ?_; simp only [ZS, Ez.lenD, Ez.appR, Ez.appD, Ez.srcOf, Ez.cpyD, Ez.frzV, Ez.frz, Ez.frz1, Ez.splice, if_true, if_false, Ez.intBin, Nat.reduceEqDiff, reduceIte, Nat.reduceAdd, Nat.reduceMul, Nat.reduceLeDiff, reduceCtorEq, Int.reduceLE, Int.reduceToNat, Nat.reduceSub, Bool.not_true, Bool.not_false])
  refine sq_nil (wp_condT rfl (wp_seq (wp_sq ?_)))
  iterate 2 (refine sq_cons rfl ?_; simp only [ZS, Ez.lenD, Ez.appR, Ez.appD, Ez.srcOf, Ez.cpyD, Ez.frzV, Ez.frz, Ez.frz1, Ez.splice, if_true, if_false, Ez.intBin, Nat.reduceEqDiff, reduceIte, Nat.reduceAdd, Nat.reduceMul, Nat.reduceLeDiff, reduceCtorEq, Int.reduceLE, Int.reduceToNat, Nat.reduceSub, Bool.not_true, Bool.not_false])
  exact sq_nil (wp_ret ⟨rfl, ⟨_, [], rfl, rfl⟩, rfl⟩)

theorem read30_bad {F : Tab} (hF : F.code = code) (hN : ∀ f vs, f ≠ 10 → F.nat f vs = none) (l : List Sec) (ar : Bool) (le i : Int) (hi : (decide (i < 0) || decide (i ≥ (l.length : Int))) = true) : RunF F 30 [dskV l false ar le, .one (intC i)] [.one (.slice [] 0), .one (intC 52)] := by
  refine RunF.readE (I := I30) (by rw [hF]; rfl) (hN 30 _ (by omega)) rfl rfl rfl ?_
  unfold I30
  simp only [bindArgs, boolC, intC, secsS, bytesS, V.toD, dskV, List.map_cons, List.map_nil]
  refine wp_seq (wp_sq ?_)
  iterate 3 (refine sq_cons rfl ?_; simp only [ZS, Ez.lenD, Ez.appR, Ez.appD, Ez.srcOf, Ez.cpyD, Ez.frzV, Ez.frz, Ez.frz1, Ez.splice, if_true, if_false, Ez.intBin, Nat.reduceEqDiff, reduceIte, Nat.reduceAdd, Nat.reduceMul, Nat.reduceLeDiff, reduceCtorEq, Int.reduceLE, Int.reduceToNat, Nat.reduceSub, Bool.not_true, Bool.not_false])
  refine sq_nil (wp_seq (wp_seq (wp_sq ?_)))
  iterate 2 (refine sq_cons rfl ?_; simp only [ZS, Ez.lenD, Ez.appR, Ez.appD, Ez.srcOf, Ez.cpyD, Ez.frzV, Ez.frz, Ez.frz1, Ez.splice, if_true, if_false, Ez.intBin, Nat.reduceEqDiff, reduceIte, Nat.reduceAdd, Nat.reduceMul, Nat.reduceLeDiff, reduceCtorEq, Int.reduceLE, Int.reduceToNat, Nat.reduceSub, Bool.not_true, Bool.not_false])
  refine sq_nil (wp_condF rfl (wp_skip ?_))
  refine wp_seq (wp_seq (wp_sq ?_))
  cases x1 : decide (i < 0)
  · rw [x1, Bool.false_or] at hi
    iterate 9 (first | (refine sq_cons rfl ?_; simp only [ZS, Ez.lenD, Ez.appR, Ez.appD, Ez.srcOf, Ez.cpyD, Ez.frzV, Ez.frz, Ez.frz1, Ez.splice, if_true, if_false, Ez.intBin, Nat.reduceEqDiff, reduceIte, Nat.reduceAdd, Nat.reduceMul, Nat.reduceLeDiff, reduceCtorEq, Int.reduceLE, Int.reduceToNat, Nat.reduceSub, Bool.not_true, Bool.not_false, x1, hi]) | (refine sq_yes rfl (sq_cons rfl ?_); simp only [ZS, Ez.lenD, Ez.appR, Ez.appD, Ez.srcOf, Ez.cpyD, Ez.frzV, Ez.frz, Ez.frz1, Ez.splice, if_true, if_false, Ez.intBin, Nat.reduceEqDiff, reduceIte, Nat.reduceAdd, Nat.reduceMul, Nat.reduceLeDiff, reduceCtorEq, Int.reduceLE, Int.reduceToNat, Nat.reduceSub, Bool.not_true, Bool.not_false, x1, hi]) | (refine sq_no rfl ?_; simp only [Ez.putE, Ez.undefD]))
    refine sq_nil (wp_condT rfl (wp_seq (wp_sq ?_)))
    iterate 2 (refine sq_cons rfl ?_; simp only [ZS, Ez.lenD, Ez.appR, Ez.appD, Ez.srcOf, Ez.cpyD, Ez.frzV, Ez.frz, Ez.frz1, Ez.splice, if_true, if_false, Ez.intBin, Nat.reduceEqDiff, reduceIte, Nat.reduceAdd, Nat.reduceMul, Nat.reduceLeDiff, reduceCtorEq, Int.reduceLE, Int.reduceToNat, Nat.reduceSub, Bool.not_true, Bool.not_false])
    exact sq_nil (wp_ret ⟨rfl, ⟨_, [], rfl, rfl⟩, rfl⟩)
  · iterate 9 (first | (refine sq_cons rfl ?_; simp only [ZS, Ez.lenD, Ez.appR, Ez.appD, Ez.srcOf, Ez.cpyD, Ez.frzV, Ez.frz, Ez.frz1, Ez.splice, if_true, if_false, Ez.intBin, Nat.reduceEqDiff, reduceIte, Nat.reduceAdd, Nat.reduceMul, Nat.reduceLeDiff, reduceCtorEq, Int.reduceLE, Int.reduceToNat, Nat.reduceSub, Bool.not_true, Bool.not_false, x1]) | (refine sq_yes rfl (sq_cons rfl ?_); simp only [ZS, Ez.lenD, Ez.appR, Ez.appD, Ez.srcOf, Ez.cpyD, Ez.frzV, Ez.frz, Ez.frz1, Ez.splice, if_true, if_false, Ez.intBin, Nat.reduceEqDiff, reduceIte, Nat.reduceAdd, Nat.reduceMul, Nat.reduceLeDiff, reduceCtorEq, Int.reduceLE, Int.reduceToNat, Nat.reduceSub, Bool.not_true, Bool.not_false, x1]) | (refine sq_no rfl ?_; simp only [Ez.putE, Ez.undefD]))
    refine sq_nil (wp_condT rfl (wp_seq (wp_sq ?_)))
    iterate 2 (refine sq_cons rfl ?_; simp only [ZS, Ez.lenD, Ez.appR, Ez.appD, Ez.srcOf, Ez.cpyD, Ez.frzV, Ez.frz, Ez.frz1, Ez.splice, if_true, if_false, Ez.intBin, Nat.reduceEqDiff, reduceIte, Nat.reduceAdd, Nat.reduceMul, Nat.reduceLeDiff, reduceCtorEq, Int.reduceLE, Int.reduceToNat, Nat.reduceSub, Bool.not_true, Bool.not_false])
    exact sq_nil (wp_ret ⟨rfl, ⟨_, [], rfl, rfl⟩, rfl⟩)

theorem read30_ok {F : Tab} (hF : F.code = code) (hN : ∀ f vs, f ≠ 10 → F.nat f vs = none) (l : List Sec) (hO : Okay l) (ar : Bool) (le : Int) (k : Nat) (hk : k < l.length) : RunF F 30 [dskV l false ar le, .one (intC k)] [.one (bytesS (secAt l k).data), .one (intC 0)] := by
  have x1 : decide ((k : Int) < 0) = false := by simp
  have x2 : decide ((k : Int) ≥ (l.length : Int)) = false := by simp; omega
  have hs := hO _ (secAt_mem l k hk)
  have hc := cells_at hO hk
  have f1 : ((k : Int) < (l.length : Int)) = True := by simpa using hk
  have hbl : (bytesC (secAt l k).data).length = 128 := by rw [bytesC_len]; exact hs.1
  have p1 : ((0 : Nat) < 1) = True := by simp
  have r3 : (128 ≤ roomMax) = True := by simp [roomMax]
  refine RunF.readE (I := I30) (by rw [hF]; rfl) (hN 30 _ (by omega)) rfl rfl rfl ?_
  unfold I30
  simp only [bindArgs, boolC, intC, secsS, bytesS, V.toD, dskV, List.map_cons, List.map_nil]
  refine wp_seq (wp_sq ?_)
  iterate 3 (refine sq_cons rfl ?_; simp only [ZS, Ez.lenD, Ez.appR, Ez.appD, Ez.srcOf, Ez.cpyD, Ez.frzV, Ez.frz, Ez.frz1, Ez.splice, if_true, if_false, Ez.intBin, Nat.reduceEqDiff, reduceIte, Nat.reduceAdd, Nat.reduceMul, Nat.reduceLeDiff, reduceCtorEq, Int.reduceLE, Int.reduceToNat, Nat.reduceSub, Bool.not_true, Bool.not_false])
  refine sq_nil (wp_seq (wp_seq (wp_sq ?_)))
  iterate 2 (refine sq_cons rfl ?_; simp only [ZS, Ez.lenD, Ez.appR, Ez.appD, Ez.srcOf, Ez.cpyD, Ez.frzV, Ez.frz, Ez.frz1, Ez.splice, if_true, if_false, Ez.intBin, Nat.reduceEqDiff, reduceIte, Nat.reduceAdd, Nat.reduceMul, Nat.reduceLeDiff, reduceCtorEq, Int.reduceLE, Int.reduceToNat, Nat.reduceSub, Bool.not_true, Bool.not_false])
  refine sq_nil (wp_condF rfl (wp_skip ?_))
  refine wp_seq (wp_seq (wp_sq ?_))
  iterate 9 (first | (refine sq_cons rfl ?_; simp only [ZS, Ez.lenD, Ez.appR, Ez.appD, Ez.srcOf, Ez.cpyD, Ez.frzV, Ez.frz, Ez.frz1, Ez.splice, if_true, if_false, Ez.intBin, Nat.reduceEqDiff, reduceIte, Nat.reduceAdd, Nat.reduceMul, Nat.reduceLeDiff, reduceCtorEq, Int.reduceLE, Int.reduceToNat, Nat.reduceSub, Bool.not_true, Bool.not_false, x1, x2]) | (refine sq_yes rfl (sq_cons rfl ?_); simp only [ZS, Ez.lenD, Ez.appR, Ez.appD, Ez.srcOf, Ez.cpyD, Ez.frzV, Ez.frz, Ez.frz1, Ez.splice, if_true, if_false, Ez.intBin, Nat.reduceEqDiff, reduceIte, Nat.reduceAdd, Nat.reduceMul, Nat.reduceLeDiff, reduceCtorEq, Int.reduceLE, Int.reduceToNat, Nat.reduceSub, Bool.not_true, Bool.not_false, x1, x2]) | (refine sq_no rfl ?_; simp only [Ez.putE, Ez.undefD]))
  refine sq_nil (wp_condF rfl (wp_skip ?_))
  refine wp_seq (wp_sq ?_)
  iterate 9 (refine sq_cons rfl ?_; simp only [ZS, Ez.lenD, Ez.appR, Ez.appD, Ez.srcOf, Ez.cpyD, Ez.frzV, Ez.frz, Ez.frz1, Ez.splice, if_true, if_false, Ez.intBin, Nat.reduceEqDiff, reduceIte, Nat.reduceAdd, Nat.reduceMul, Nat.reduceLeDiff, reduceCtorEq, Int.reduceLE, Int.reduceToNat, Nat.reduceSub, Bool.not_true, Bool.not_false, f1, hc, hbl, p1, r3])
  refine sq_nil (wp_ret ⟨rfl, ⟨_, [(20, .arr (bytesC (secAt l k).data) 1 128 5)], rfl, ?_⟩, rfl⟩)
  simp only [getE_cons, Nat.reduceEqDiff, if_false, if_true, Ez.frz, Ez.frz1, getH_cons, Nat.reduceEqDiff, Nat.zero_add, Nat.mul_one, hbl, Nat.le_refl, List.drop_zero, List.take_of_length_le (Nat.le_of_eq hbl), bytesS, hs.1]
  rfl

end Go.Proofs.Ytfphnpelampoeaa.Rw

