/-
  Equal disks are found to be the same; new disks of the program.
-/
import Derived.Test.YtfphnpelampoeaaRw23M
set_option linter.unusedVariables false
set_option linter.unusedSimpArgs false
namespace Go.Proofs.Ytfphnpelampoeaa.Rw
open Go Go.Ez

theorem s23_round {F : Tab} (hF : F.code = code) (hN : ∀ f vs, f ≠ 10 → F.nat f vs = none) {Q : Ex → St → Prop} {e : Env} {h : Heap} {N k p q : Nat} {d1 d2 d3 d4 d5 d6 : D} {l : List Sec} (hO : Okay l) (e2 : getE e 2 = .loc p 0) (e3 : getE e 3 = .loc q 0) (e5 : getE e 5 = .c (.lit (.int .i64 (k : Int)))) (hp : getH h p = .box [.c (.slice (secsC l) l.length), d1, d2, d3]) (hq : getH h q = .box [.c (.slice (secsC l) l.length), d4, d5, d6]) (np : p < N) (nq : q < N) (hk : k < l.length) (hn : l.length ≤ 256)
    (hQ : ∀ s : St, getE s.env 2 = .loc p 0 → getE s.env 3 = .loc q 0 → getE s.env 5 = .c (.lit (.int .i64 ((k + 1 : Nat) : Int))) → N ≤ s.nx → (∀ x, x < N → getH s.heap x = getH h x) → Q .normal s) : WP F B23_0 ⟨e, h, N⟩ Q := by
  have hlt : decide ((k : Int) < (l.length : Int)) = true := by simpa using hk
  have hlt' : ((k : Int) < (l.length : Int)) = True := by simpa using hk
  have hw : IntKind.wrap .i64 ((k : Int) + 1) = ((k + 1 : Nat) : Int) := by rw [Go.Proofs.Ytfphnpelampoeaa.wrap_i64 _ (by omega)]; rfl
  have hc := sec_cells l k hk
  have hs := hO _ (secAt_mem l k hk)
  rw [hs.1, hs.2] at hc
  have q1 : ∀ c, (N + c = p) = False := fun c => by simp; omega
  have q2 : ∀ c, (N + c = q) = False := fun c => by simp; omega
  have q3 : ∀ c, (p = N + c) = False := fun c => by simp; omega
  have q4 : ∀ c, (q = N + c) = False := fun c => by simp; omega
  have bs : bytesS (secAt l k).sure = .slice (bytesC (secAt l k).sure) 128 := by rw [bytesS, hs.2]
  have bd : bytesS (secAt l k).data = .slice (bytesC (secAt l k).data) 128 := by rw [bytesS, hs.1]
  have r1 : RunF F 32 [.one (.slice (bytesC (secAt l k).sure) 128), .one (.slice (bytesC (secAt l k).sure) 128)] [.one (.lit (.bool true))] := by
    have := same32 hF (fun vs => hN 32 vs (by omega)) (secAt l k).sure (secAt l k).sure (by omega)
    rw [bs] at this; simpa using this
  have r2 : RunF F 32 [.one (.slice (bytesC (secAt l k).data) 128), .one (.slice (bytesC (secAt l k).data) 128)] [.one (.lit (.bool true))] := by
    have := same32 hF (fun vs => hN 32 vs (by omega)) (secAt l k).data (secAt l k).data (by omega)
    rw [bd] at this; simpa using this
  have hne : (!((secAt l k).fresh == (secAt l k).fresh)) = false := by simp
  unfold B23_0
  refine wp_seq (wp_seq (wp_sq ?_))
  iterate 5 (refine sq_cons rfl ?_; simp only [ZS, Ez.lenD, Ez.appR, Ez.appD, Ez.srcOf, Ez.cpyD, Ez.frzV, Ez.frz, Ez.frz1, Ez.splice, if_true, if_false, Ez.intBin, Nat.reduceEqDiff, reduceIte, Nat.reduceAdd, Nat.reduceMul, Nat.reduceLeDiff, reduceCtorEq, Int.reduceLE, Int.reduceToNat, Nat.reduceSub, Bool.not_true, Bool.not_false, e2, e5, hp, hlt])
  refine sq_nil (wp_condT rfl (wp_skip ?_))
  refine wp_seq (wp_block (wp_seq (wp_dr ?_)))
  iterate 14 (refine dr_cons rfl ?_; simp only [ZS, Ez.lenD, Ez.appR, Ez.appD, Ez.srcOf, Ez.cpyD, Ez.frzV, Ez.frz, Ez.frz1, Ez.splice, if_true, if_false, Ez.intBin, Nat.reduceEqDiff, reduceIte, Nat.reduceAdd, Nat.reduceMul, Nat.reduceLeDiff, reduceCtorEq, Int.reduceLE, Int.reduceToNat, Nat.reduceSub, Bool.not_true, Bool.not_false, e2, e3, e5, hp, hq, hlt', hc, q1, q2, q3, q4])
  refine dr_nil ⟨?_, ?_⟩
  · simp [drawOk, drawFrom, okRow, clash, meets, touches, frzIds, ids1, opX, tmpsX, Nat.testBit, evX, getE_cons, e2, e3, e5, hp, hq, q1, q2, q3, q4, getH_cons]
  refine wp_seq (wp_sq ?_)
  iterate 6 (first | (refine sq_yes rfl (sq_cons rfl ?_); simp only [ZS, Ez.lenD, Ez.appR, Ez.appD, Ez.srcOf, Ez.cpyD, Ez.frzV, Ez.frz, Ez.frz1, Ez.splice, if_true, if_false, Ez.intBin, Nat.reduceEqDiff, reduceIte, Nat.reduceAdd, Nat.reduceMul, Nat.reduceLeDiff, reduceCtorEq, Int.reduceLE, Int.reduceToNat, Nat.reduceSub, Bool.not_true, Bool.not_false, hne, q1, q2, q3, q4]) | (refine sq_cons rfl ?_; simp only [ZS, Ez.lenD, Ez.appR, Ez.appD, Ez.srcOf, Ez.cpyD, Ez.frzV, Ez.frz, Ez.frz1, Ez.splice, if_true, if_false, Ez.intBin, Nat.reduceEqDiff, reduceIte, Nat.reduceAdd, Nat.reduceMul, Nat.reduceLeDiff, reduceCtorEq, Int.reduceLE, Int.reduceToNat, Nat.reduceSub, Bool.not_true, Bool.not_false, hne, q1, q2, q3, q4]) | (refine sq_no rfl ?_; simp only [Ez.putE, Ez.undefD]))
  iterate 4 (first | (refine sq_yes rfl (sq_cons rfl ?_); simp only [ZS, Ez.lenD, Ez.appR, Ez.appD, Ez.srcOf, Ez.cpyD, Ez.frzV, Ez.frz, Ez.frz1, Ez.splice, if_true, if_false, Ez.intBin, Nat.reduceEqDiff, reduceIte, Nat.reduceAdd, Nat.reduceMul, Nat.reduceLeDiff, reduceCtorEq, Int.reduceLE, Int.reduceToNat, Nat.reduceSub, Bool.not_true, Bool.not_false, hne, q1, q2, q3, q4]) | (refine sq_cons rfl ?_; simp only [ZS, Ez.lenD, Ez.appR, Ez.appD, Ez.srcOf, Ez.cpyD, Ez.frzV, Ez.frz, Ez.frz1, Ez.splice, if_true, if_false, Ez.intBin, Nat.reduceEqDiff, reduceIte, Nat.reduceAdd, Nat.reduceMul, Nat.reduceLeDiff, reduceCtorEq, Int.reduceLE, Int.reduceToNat, Nat.reduceSub, Bool.not_true, Bool.not_false, hne, q1, q2, q3, q4]) | (refine sq_no rfl ?_; simp only [Ez.putE, Ez.undefD]))
  refine sq_yes rfl (sq_call rfl r1 ?_)
  simp only [retD, V.toD, Ez.updH, Ez.putE, List.map_cons, List.map_nil]
  iterate 7 (first | (refine sq_yes rfl (sq_cons rfl ?_); simp only [ZS, Ez.lenD, Ez.appR, Ez.appD, Ez.srcOf, Ez.cpyD, Ez.frzV, Ez.frz, Ez.frz1, Ez.splice, if_true, if_false, Ez.intBin, Nat.reduceEqDiff, reduceIte, Nat.reduceAdd, Nat.reduceMul, Nat.reduceLeDiff, reduceCtorEq, Int.reduceLE, Int.reduceToNat, Nat.reduceSub, Bool.not_true, Bool.not_false]) | (refine sq_cons rfl ?_; simp only [ZS, Ez.lenD, Ez.appR, Ez.appD, Ez.srcOf, Ez.cpyD, Ez.frzV, Ez.frz, Ez.frz1, Ez.splice, if_true, if_false, Ez.intBin, Nat.reduceEqDiff, reduceIte, Nat.reduceAdd, Nat.reduceMul, Nat.reduceLeDiff, reduceCtorEq, Int.reduceLE, Int.reduceToNat, Nat.reduceSub, Bool.not_true, Bool.not_false]) | (refine sq_no rfl ?_; simp only [Ez.putE, Ez.undefD]))
  refine sq_yes rfl (sq_call rfl r2 ?_)
  simp only [retD, V.toD, Ez.updH, Ez.putE, List.map_cons, List.map_nil]
  iterate 2 (first | (refine sq_yes rfl (sq_cons rfl ?_); simp only [ZS, Ez.lenD, Ez.appR, Ez.appD, Ez.srcOf, Ez.cpyD, Ez.frzV, Ez.frz, Ez.frz1, Ez.splice, if_true, if_false, Ez.intBin, Nat.reduceEqDiff, reduceIte, Nat.reduceAdd, Nat.reduceMul, Nat.reduceLeDiff, reduceCtorEq, Int.reduceLE, Int.reduceToNat, Nat.reduceSub, Bool.not_true, Bool.not_false]) | (refine sq_cons rfl ?_; simp only [ZS, Ez.lenD, Ez.appR, Ez.appD, Ez.srcOf, Ez.cpyD, Ez.frzV, Ez.frz, Ez.frz1, Ez.splice, if_true, if_false, Ez.intBin, Nat.reduceEqDiff, reduceIte, Nat.reduceAdd, Nat.reduceMul, Nat.reduceLeDiff, reduceCtorEq, Int.reduceLE, Int.reduceToNat, Nat.reduceSub, Bool.not_true, Bool.not_false]) | (refine sq_no rfl ?_; simp only [Ez.putE, Ez.undefD]))
  refine sq_nil (wp_condF rfl (wp_skip ?_))
  refine wp_sq ?_
  iterate 3 (refine sq_cons rfl ?_; simp only [ZS, Ez.lenD, Ez.appR, Ez.appD, Ez.srcOf, Ez.cpyD, Ez.frzV, Ez.frz, Ez.frz1, Ez.splice, if_true, if_false, Ez.intBin, Nat.reduceEqDiff, reduceIte, Nat.reduceAdd, Nat.reduceMul, Nat.reduceLeDiff, reduceCtorEq, Int.reduceLE, Int.reduceToNat, Nat.reduceSub, Bool.not_true, Bool.not_false, e5, hw])
  refine sq_nil (hQ _ ?_ ?_ ?_ ?_ ?_)
  · simp only [getE_cons, Nat.reduceEqDiff, if_false, if_true, e2]
  · simp only [getE_cons, Nat.reduceEqDiff, if_false, if_true, e3]
  · simp only [getE_cons, Nat.reduceEqDiff, if_false, if_true]
  · simp only; omega
  · intro x hx
    have qx : ∀ c, (N + c = x) = False := fun c => by simp; omega
    simp only [getH_cons, qx, if_false]

theorem s23_out (F : Tab) {Q : Ex → St → Prop} {e : Env} {h : Heap} {N k p : Nat} {d1 d2 d3 : D} {l : List Sec} (e2 : getE e 2 = .loc p 0) (e5 : getE e 5 = .c (.lit (.int .i64 (k : Int)))) (hp : getH h p = .box [.c (.slice (secsC l) l.length), d1, d2, d3]) (hk : k = l.length) (hQ : ∀ s : St, Q (.exit 0) s) : WP F B23_0 ⟨e, h, N⟩ Q := by
  subst hk
  have hlt : decide ((l.length : Int) < (l.length : Int)) = false := by simp
  unfold B23_0
  refine wp_seq (wp_seq (wp_sq ?_))
  iterate 5 (refine sq_cons rfl ?_; simp only [ZS, Ez.lenD, Ez.appR, Ez.appD, Ez.srcOf, Ez.cpyD, Ez.frzV, Ez.frz, Ez.frz1, Ez.splice, if_true, if_false, Ez.intBin, Nat.reduceEqDiff, reduceIte, Nat.reduceAdd, Nat.reduceMul, Nat.reduceLeDiff, reduceCtorEq, Int.reduceLE, Int.reduceToNat, Nat.reduceSub, Bool.not_true, Bool.not_false, e2, e5, hp, hlt])
  exact sq_nil (wp_condF rfl (wp_exit (hQ _)))

theorem s23_loop {F : Tab} (hF : F.code = code) (hN : ∀ f vs, f ≠ 10 → F.nat f vs = none) {p q : Nat} {d1 d2 d3 d4 d5 d6 : D} (l : List Sec) (hO : Okay l) (hn : l.length ≤ 256) {Q : Ex → St → Prop} (hQ : ∀ s : St, Q (.exit 0) s) :
    ∀ (m k N : Nat) (e : Env) (h : Heap), k + m = l.length → getE e 2 = .loc p 0 → getE e 3 = .loc q 0 → getE e 5 = .c (.lit (.int .i64 (k : Int))) → getH h p = .box [.c (.slice (secsC l) l.length), d1, d2, d3] → getH h q = .box [.c (.slice (secsC l) l.length), d4, d5, d6] → p < N → q < N → WP F (.loop B23_0) ⟨e, h, N⟩ Q
  | 0, k, N, e, h, hk, e2, e3, e5, hp, hq, np, nq => wp_loop (s23_out F e2 e5 hp (by omega) hQ)
  | m + 1, k, N, e, h, hk, e2, e3, e5, hp, hq, np, nq => by
    refine wp_loop (s23_round hF hN hO e2 e3 e5 hp hq np nq (by omega) hn ?_)
    intro s f2 f3 f5 fn ff
    obtain ⟨se, sh, sn⟩ := s
    simp only at fn ff
    exact s23_loop hF hN l hO hn hQ m (k + 1) sn se sh (by omega) f2 f3 f5 (by rw [ff p np]; exact hp) (by rw [ff q nq]; exact hq) (by omega) (by omega)

theorem same23 {F : Tab} (hF : F.code = code) (hN : ∀ f vs, f ≠ 10 → F.nat f vs = none) (l : List Sec) (hO : Okay l) (hn : l.length ≤ 256) (de ar : Bool) (le : Int) : RunF F 23 [dskV l de ar le, dskV l de ar le] [.one (.lit (.bool true))] := by
  have x1 : (!(de == de)) = false := by simp
  have x2 : (!(ar == ar)) = false := by simp
  have x3 : (le != le) = false := by simp
  have x4 : ((l.length : Int) != (l.length : Int)) = false := by simp
  have key : WP F I23.body ⟨bindArgs 0 [.agg [.c (secsS l), .c (boolC de), .c (boolC ar), .c (intC le)], .agg [.c (secsS l), .c (boolC de), .c (boolC ar), .c (intC le)]], [], 0⟩ (RetT 4 (.c (.lit (.bool true)))) := by
    unfold I23
    simp only [bindArgs, boolC, intC, secsS]
    refine wp_seq (wp_sq ?_)
    iterate 3 (refine sq_cons rfl ?_; simp only [ZS, Ez.lenD, Ez.appR, Ez.appD, Ez.srcOf, Ez.cpyD, Ez.frzV, Ez.frz, Ez.frz1, Ez.splice, if_true, if_false, Ez.intBin, Nat.reduceEqDiff, reduceIte, Nat.reduceAdd, Nat.reduceMul, Nat.reduceLeDiff, reduceCtorEq, Int.reduceLE, Int.reduceToNat, Nat.reduceSub, Bool.not_true, Bool.not_false])
    refine sq_nil (wp_seq (wp_seq (wp_sq ?_)))
    iterate 28 (first | (refine sq_yes rfl (sq_cons rfl ?_); simp only [ZS, Ez.lenD, Ez.appR, Ez.appD, Ez.srcOf, Ez.cpyD, Ez.frzV, Ez.frz, Ez.frz1, Ez.splice, if_true, if_false, Ez.intBin, Nat.reduceEqDiff, reduceIte, Nat.reduceAdd, Nat.reduceMul, Nat.reduceLeDiff, reduceCtorEq, Int.reduceLE, Int.reduceToNat, Nat.reduceSub, Bool.not_true, Bool.not_false, x1, x2, x3, x4]) | (refine sq_cons rfl ?_; simp only [ZS, Ez.lenD, Ez.appR, Ez.appD, Ez.srcOf, Ez.cpyD, Ez.frzV, Ez.frz, Ez.frz1, Ez.splice, if_true, if_false, Ez.intBin, Nat.reduceEqDiff, reduceIte, Nat.reduceAdd, Nat.reduceMul, Nat.reduceLeDiff, reduceCtorEq, Int.reduceLE, Int.reduceToNat, Nat.reduceSub, Bool.not_true, Bool.not_false, x1, x2, x3, x4]) | (refine sq_no rfl ?_; simp only [Ez.putE, Ez.undefD]))
    refine sq_nil (wp_condF rfl (wp_skip ?_))
    refine wp_seq (wp_seq (wp_sq ?_))
    iterate 1 (refine sq_cons rfl ?_; simp only [ZS, Ez.lenD, Ez.appR, Ez.appD, Ez.srcOf, Ez.cpyD, Ez.frzV, Ez.frz, Ez.frz1, Ez.splice, if_true, if_false, Ez.intBin, Nat.reduceEqDiff, reduceIte, Nat.reduceAdd, Nat.reduceMul, Nat.reduceLeDiff, reduceCtorEq, Int.reduceLE, Int.reduceToNat, Nat.reduceSub, Bool.not_true, Bool.not_false])
    refine sq_nil (wp_block (s23_loop hF hN (p := 0) (q := 1) l hO hn ?_ l.length 0 _ _ _ (by omega) (by simp only [getE_cons, Nat.reduceEqDiff, if_false, if_true]) (by simp only [getE_cons, Nat.reduceEqDiff, if_false, if_true]) (by simp only [getE_cons, Nat.reduceEqDiff, if_false, if_true]; rfl) (by simp only [getH_cons, Nat.reduceEqDiff, if_true, if_false]; rfl) (by simp only [getH_cons, Nat.reduceEqDiff, if_true, if_false]; rfl) (by omega) (by omega)))
    intro s
    obtain ⟨se, sh, sn⟩ := s
    simp only [if_true]
    refine wp_seq (wp_sq ?_)
    iterate 1 (refine sq_cons rfl ?_; simp only [ZS, Ez.lenD, Ez.appR, Ez.appD, Ez.srcOf, Ez.cpyD, Ez.frzV, Ez.frz, Ez.frz1, Ez.splice, if_true, if_false, Ez.intBin, Nat.reduceEqDiff, reduceIte, Nat.reduceAdd, Nat.reduceMul, Nat.reduceLeDiff, reduceCtorEq, Int.reduceLE, Int.reduceToNat, Nat.reduceSub, Bool.not_true, Bool.not_false])
    refine sq_nil (wp_ret ⟨rfl, ?_⟩)
    simp only [getE_cons, Nat.reduceEqDiff, if_false, if_true]
  obtain ⟨x, s, hrun, rfl, g1⟩ := key
  refine RunF.body (us := []) (hN _ _ (by omega)) (RunB.fn (I := I23) (rs := [.c (.lit (.bool true))]) (by rw [hF]; rfl) rfl hrun (by simp) (by simp [I23, resD, g1])) ?_
  rfl

end Go.Proofs.Ytfphnpelampoeaa.Rw

