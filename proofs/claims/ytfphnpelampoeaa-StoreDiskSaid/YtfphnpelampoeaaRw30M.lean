/-
  A script of operations: the loop and the law.
-/
import Derived.Test.YtfphnpelampoeaaRw29M
set_option linter.unusedVariables false
set_option linter.unusedSimpArgs false
namespace Go.Proofs.Ytfphnpelampoeaa.Rw
open Go Go.Ez

theorem d9_out (F : Tab) {Q : Ex → St → Prop} {e : Env} {h : Heap} {N : Nat} (l : List Act) (e1 : getE e 1 = .c (.slice (actsC l) l.length)) (e8 : getE e 8 = .c (.lit (.int .i64 (l.length : Int)))) (hQ : ∀ s : St, Q (.exit 0) s) : WP F B9_1 ⟨e, h, N⟩ Q := by
  have hlt : decide ((l.length : Int) < (l.length : Int)) = false := by simp
  unfold B9_1
  refine wp_seq (wp_seq (wp_sq ?_))
  iterate 4 (refine sq_cons rfl ?_; simp only [ZS, Ez.lenD, Ez.appR, Ez.appD, Ez.srcOf, Ez.cpyD, Ez.frzV, Ez.frz, Ez.frz1, Ez.splice, if_true, if_false, Ez.intBin, Nat.reduceEqDiff, reduceIte, Nat.reduceAdd, Nat.reduceMul, Nat.reduceLeDiff, reduceCtorEq, Int.reduceLE, Int.reduceToNat, Nat.reduceSub, Bool.not_true, Bool.not_false, e1, e8, hlt])
  exact sq_nil (wp_condF rfl (wp_exit (hQ _)))

theorem d9_loop {F : Tab} (hF : F.code = code) (hN : ∀ f vs, f ≠ 10 → F.nat f vs = none) (l : List Act) (hl : l.length ≤ 40) {p q : Nat} (hpq : p ≠ q) {Q : Ex → St → Prop} (hQ : ∀ s : St, Q (.exit 0) s) :
    ∀ (m i N : Nat) (e : Env) (h : Heap) (d : Dk) (X : D), i + m = l.length → d.Ok → getH h p = .box [.c (secsS d.l), .c (.lit (.bool d.de)), .c (.lit (.bool d.ar)), .c (.lit (.int .i64 d.le))] → BoxQ h N p q d X → p < N → q < N → getE e 1 = .c (.slice (actsC l) l.length) → getE e 6 = .loc p 0 → getE e 7 = .loc q 0 → getE e 8 = .c (.lit (.int .i64 (i : Int))) → WP F (.loop B9_1) ⟨e, h, N⟩ Q
  | 0, i, N, e, h, d, X, hi, hd, hp, hq, pN, qN, e1, e6, e7, e8 => by
    obtain rfl : i = l.length := by omega
    exact wp_loop (d9_out F l e1 e8 hQ)
  | m + 1, i, N, e, h, d, X, hi, hd, hp, hq, pN, qN, e1, e6, e7, e8 => by
    refine wp_loop (d9_round hF hN hd hp hq hpq pN qN l hl (by omega) e1 e6 e7 e8 ?_)
    intro s d' X' hd' hp' hq' gN g1 g6 g7 g8
    obtain ⟨se, sh, sn⟩ := s
    simp only at gN hp' hq'
    exact d9_loop hF hN l hl hpq hQ m (i + 1) sn se sh d' X' (by omega) hd' hp' hq' (by omega) (by omega) g1 g6 g7 g8

theorem frz_rows2 {h : Heap} {rid : Nat} {ds : List D} {l : List Sec} (h1 : 1 ≤ l.length) (hr : getH h rid = .rows ds 3 32) (hc : RowsC h ds l) : ∃ us, frz h (.arr rid 0 l.length) = some (secsS l, us) ∧ (∀ p ∈ us, p.1 = rid ∨ p.1 ∈ arrIds ds) ∧
    getH (updH h us) rid = .arr (secsC l) 3 (l.length * 3) 32 := by
  obtain ⟨us, f1, g1, s1⟩ := frzL1_rows' hc
  have hlen := secsC_len l
  have hat : ∀ fz, frz1 ((rid, .arr (secsC l) 3 fz 32) :: updH h us) (.arr rid 0 l.length) = some (secsS l, if l.length * 3 ≤ fz then [] else [(rid, .arr (secsC l) 3 (l.length * 3) 32)]) := by
    intro fz
    simp only [frz1, getH_cons, if_true, Nat.zero_add, hlen, Nat.le_refl, List.drop_zero]
    rw [List.take_of_length_le (by omega)]
    rfl
  refine ⟨(us ++ [(rid, .arr (secsC l) 3 0 32)]) ++ [(rid, .arr (secsC l) 3 (l.length * 3) 32)], ?_, ?_, ?_⟩
  · simp only [frz, hr, f1, Option.bind_eq_bind, Option.bind_some]
    rw [updH_append]
    simp only [updH, hat 0, Option.bind_some, show ¬ (l.length * 3 ≤ 0) by omega, if_false]
  · intro p hp
    simp only [List.mem_append, List.mem_singleton] at hp
    rcases hp with (hp | rfl) | rfl
    · exact .inr (g1 p hp)
    · exact .inl rfl
    · exact .inl rfl
  · rw [updH_append]
    simp only [updH, getH_cons, if_true]

theorem storeDisk_run {F : Tab} (hF : F.code = code) (hN : ∀ f vs, f ≠ 10 → F.nat f vs = none) (h10 : F.nat 10 [] = some [.one (.lit (.bool true))]) (s : Nat) (hs : s < 256) (l : List Act) :
    RunF F 9 [.one (.lit (.int .u8 (s : Int))), .one (.slice (actsC l) l.length)] [.one (.lit (.bool true))] := by
  have r10 : RunF F 10 [] [.one (.lit (.bool true))] := RunF.nat h10
  have key : WP F I9.body ⟨bindArgs 0 [.c (.lit (.int .u8 (s : Int))), .c (.slice (actsC l) l.length)], [], 0⟩ (RetT 4 (.c (.lit (.bool true)))) := by
    obtain ⟨B, hB⟩ : ∃ B, decide ((l.length : Int) > 40) = B := ⟨_, rfl⟩
    unfold I9
    simp only [bindArgs]
    refine wp_seq (wp_sq ?_)
    iterate 1 (refine sq_cons rfl ?_; simp only [ZS, Ez.lenD, Ez.appR, Ez.appD, Ez.srcOf, Ez.cpyD, Ez.frzV, Ez.frz, Ez.frz1, Ez.splice, if_true, if_false, Ez.intBin, Nat.reduceEqDiff, reduceIte, Nat.reduceAdd, Nat.reduceMul, Nat.reduceLeDiff, reduceCtorEq, Int.reduceLE, Int.reduceToNat, Nat.reduceSub, Bool.not_true, Bool.not_false])
    refine sq_nil (wp_seq (wp_seq (wp_sq ?_)))
    refine sq_call (vs := []) (us := []) (by rfl) r10 ?_
    simp only [retD, V.toD, Ez.updH, Ez.putE, List.map_cons, List.map_nil, Dk.v, dskV]
    iterate 1 (refine sq_cons rfl ?_; simp only [ZS, Ez.lenD, Ez.appR, Ez.appD, Ez.srcOf, Ez.cpyD, Ez.frzV, Ez.frz, Ez.frz1, Ez.splice, if_true, if_false, Ez.intBin, Nat.reduceEqDiff, reduceIte, Nat.reduceAdd, Nat.reduceMul, Nat.reduceLeDiff, reduceCtorEq, Int.reduceLE, Int.reduceToNat, Nat.reduceSub, Bool.not_true, Bool.not_false])
    refine sq_nil (wp_condF rfl (wp_skip ?_))
    refine wp_seq (wp_seq (wp_sq ?_))
    iterate 3 (refine sq_cons rfl ?_; simp only [ZS, Ez.lenD, Ez.appR, Ez.appD, Ez.srcOf, Ez.cpyD, Ez.frzV, Ez.frz, Ez.frz1, Ez.splice, if_true, if_false, Ez.intBin, Nat.reduceEqDiff, reduceIte, Nat.reduceAdd, Nat.reduceMul, Nat.reduceLeDiff, reduceCtorEq, Int.reduceLE, Int.reduceToNat, Nat.reduceSub, Bool.not_true, Bool.not_false, hB])
    cases B
    · have hl : l.length ≤ 40 := by simp at hB; omega
      have hrem : Int.tmod (s : Int) 12 = ((s % 12 : Nat) : Int) := rfl
      have hwr : IntKind.wrap .i64 ((s % 12 : Nat) : Int) = ((s % 12 : Nat) : Int) := Go.Proofs.Ytfphnpelampoeaa.wrap_i64 _ (by omega)
      have hsub : IntKind.wrap .i64 (((s % 12 : Nat) : Int) - 1) = ((s % 12 : Nat) : Int) - 1 := Go.Proofs.Ytfphnpelampoeaa.wrap_i64 _ (by omega)
      have h12 : ((12 : Int) = 0) = False := by simp
      obtain ⟨n, hn1, hn2, hn3⟩ : ∃ n : Nat, (if (1 : Int) > ((s % 12 : Nat) : Int) - 1 then (1 : Int) else ((s % 12 : Nat) : Int) - 1) = (n : Int) ∧ 1 ≤ n ∧ n ≤ 256 := by
        refine ⟨if (1 : Int) > ((s % 12 : Nat) : Int) - 1 then 1 else s % 12 - 1, ?_, ?_, ?_⟩ <;> split <;> omega
      refine sq_nil (wp_condF rfl (wp_skip ?_))
      refine wp_seq (wp_sq ?_)
      iterate 5 (refine sq_cons rfl ?_; simp only [ZS, Ez.lenD, Ez.appR, Ez.appD, Ez.srcOf, Ez.cpyD, Ez.frzV, Ez.frz, Ez.frz1, Ez.splice, if_true, if_false, Ez.intBin, Nat.reduceEqDiff, reduceIte, Nat.reduceAdd, Nat.reduceMul, Nat.reduceLeDiff, reduceCtorEq, Int.reduceLE, Int.reduceToNat, Nat.reduceSub, Bool.not_true, Bool.not_false, hrem, hwr, hsub, h12])
      have r11 := new11 hF hN n (((s % 12 : Nat) : Int) - 1) (by rw [hn1]; rw [if_neg (by omega)]) hn2 hn3
      refine sq_nil (wp_seq (wp_sq ?_))
      iterate 1 (refine sq_cons rfl ?_; simp only [ZS, Ez.lenD, Ez.appR, Ez.appD, Ez.srcOf, Ez.cpyD, Ez.frzV, Ez.frz, Ez.frz1, Ez.splice, if_true, if_false, Ez.intBin, Nat.reduceEqDiff, reduceIte, Nat.reduceAdd, Nat.reduceMul, Nat.reduceLeDiff, reduceCtorEq, Int.reduceLE, Int.reduceToNat, Nat.reduceSub, Bool.not_true, Bool.not_false])
      refine sq_call (vs := [.one (intC (((s % 12 : Nat) : Int) - 1))]) (us := []) (by rfl) r11 ?_
      simp only [retD, V.toD, Ez.updH, Ez.putE, List.map_cons, List.map_nil, dskV]
      iterate 1 (refine sq_cons rfl ?_; simp only [ZS, Ez.lenD, Ez.appR, Ez.appD, Ez.srcOf, Ez.cpyD, Ez.frzV, Ez.frz, Ez.frz1, Ez.splice, if_true, if_false, Ez.intBin, Nat.reduceEqDiff, reduceIte, Nat.reduceAdd, Nat.reduceMul, Nat.reduceLeDiff, reduceCtorEq, Int.reduceLE, Int.reduceToNat, Nat.reduceSub, Bool.not_true, Bool.not_false])
      obtain ⟨rid, ids, h2, N2, r14, ho, hN2, hf2⟩ := new_runZ hF n _ hn1 hn2 hn3 [] 14
      refine sq_lend (ds := [.c (intC (((s % 12 : Nat) : Int) - 1))]) (us := []) (by rfl) r14 ?_
      simp only [tupD, Ez.putE, boolC, intC]
      have hlo := ho.lo
      have rN : rid < N2 := (hlo rid (by simp)).2
      have hnl : (newSecs n).length = n := newSecs_len n
      iterate 4 (refine sq_cons rfl ?_; simp only [ZS, Ez.lenD, Ez.appR, Ez.appD, Ez.srcOf, Ez.cpyD, Ez.frzV, Ez.frz, Ez.frz1, Ez.splice, if_true, if_false, Ez.intBin, Nat.reduceEqDiff, reduceIte, Nat.reduceAdd, Nat.reduceMul, Nat.reduceLeDiff, reduceCtorEq, Int.reduceLE, Int.reduceToNat, Nat.reduceSub, Bool.not_true, Bool.not_false, boolC, intC])
      refine sq_nil (wp_seq (wp_seq (wp_sq ?_)))
      iterate 2 (refine sq_cons rfl ?_; simp only [ZS, Ez.lenD, Ez.appR, Ez.appD, Ez.srcOf, Ez.cpyD, Ez.frzV, Ez.frz, Ez.frz1, Ez.splice, if_true, if_false, Ez.intBin, Nat.reduceEqDiff, reduceIte, Nat.reduceAdd, Nat.reduceMul, Nat.reduceLeDiff, reduceCtorEq, Int.reduceLE, Int.reduceToNat, Nat.reduceSub, Bool.not_true, Bool.not_false])
      have hd : Dk.Ok ⟨newSecs n, false, false, 0⟩ := Dk.new_ok n hn2 hn3
      have hrows : RowsC h2 (rowD ids (newSecs n)) (newSecs n) := held_rows ho.held (Okay.new n)
      have e1 : ∀ x, x < N2 → (N2 = x) = False := fun x hx => by simp; omega
      have e2 : ∀ x, x < N2 → (N2 + 1 = x) = False := fun x hx => by simp; omega
      generalize hH : ((N2 + 1, Ez.Obj.box [.arr rid 0 n, .c (.lit (.bool false)), .c (.lit (.bool false)), .c (.lit (.int .i64 0))]) :: (N2, Ez.Obj.box [.c (secsS (newSecs n)), .c (.lit (.bool false)), .c (.lit (.bool false)), .c (.lit (.int .i64 0))]) :: (N2 + 1, Ez.Obj.box [.full [] 0, .c (.lit (.bool false)), .c (.lit (.bool false)), .c (.lit (.int .i64 0))]) :: (N2, Ez.Obj.box [.full [] 0, .c (.lit (.bool false)), .c (.lit (.bool false)), .c (.lit (.int .i64 0))]) :: h2 : Heap) = H
      have HF : ∀ x, x < N2 → getH H x = getH h2 x := fun x hx => by rw [← hH]; simp only [getH_cons, e1 x hx, e2 x hx, if_false]
      have HP : getH H N2 = .box [.c (secsS (newSecs n)), .c (.lit (.bool false)), .c (.lit (.bool false)), .c (.lit (.int .i64 0))] := by rw [← hH]; simp only [getH_cons, Nat.add_eq_left, Nat.left_eq_add, Nat.reduceEqDiff, if_true, if_false]
      have HQ : getH H (N2 + 1) = .box [.arr rid 0 n, .c (.lit (.bool false)), .c (.lit (.bool false)), .c (.lit (.int .i64 0))] := by rw [← hH]; simp only [getH_cons, if_true]
      have hheld : Held H ids (newSecs n) := ho.held.frame fun x hx => HF x (hlo x (by simp [hx])).2
      obtain ⟨us, f1, f2, f3⟩ := frz_rows2 (h := H) (rid := rid) (ds := rowD ids (newSecs n)) (l := newSecs n) (by rw [hnl]; exact hn2) (by rw [HF rid rN]; exact ho.hr) (held_rows hheld (Okay.new n))
      rw [hnl] at f1
      have hus : ∀ p ∈ us, p.1 < N2 := fun p hp => by
        rcases f2 p hp with h3 | h3
        · rw [h3]; exact rN
        · exact (hlo p.1 (by simp [arrIds_rowD p.1 h3])).2
      have pArg : ∀ (h : Heap), frzV h (.agg [.c (secsS (newSecs n)), .c (.lit (.bool false)), .c (.lit (.bool false)), .c (.lit (.int .i64 0))]) = some (dskV (newSecs n) false false 0, []) := fun h => frz_disk (frz_c h _) _ _ _
      have qArg : frzV H (.agg [.arr rid 0 n, .c (.lit (.bool false)), .c (.lit (.bool false)), .c (.lit (.int .i64 0))]) = some (dskV (newSecs n) false false 0, us) := frz_disk f1 _ _ _
      have sm := same23 hF hN (newSecs n) hd.okay hd.few false false 0
      have vl := valid12 hF (fun vs => hN 31 vs (by omega)) (fun vs => hN 12 vs (by omega)) (newSecs n) false false 0
      rw [show validP (newSecs n) false 0 = true from hd.valid] at vl
      refine sq_call (vs := [dskV (newSecs n) false false 0, dskV (newSecs n) false false 0]) (us := us) (by simp only [List.map_cons, List.map_nil, Ez.evX, getE_cons, Nat.reduceEqDiff, if_false, if_true, frzVs, qArg, pArg, Option.bind_eq_bind, Option.bind_some, List.append_nil, List.nil_append, Ez.updH]) sm ?_
      have UP : getH (Ez.updH H us) N2 = .box [.c (secsS (newSecs n)), .c (.lit (.bool false)), .c (.lit (.bool false)), .c (.lit (.int .i64 0))] := by rw [updH_out fun p hp => by have := hus p hp; omega]; exact HP
      have UQ : getH (Ez.updH H us) (N2 + 1) = .box [.arr rid 0 n, .c (.lit (.bool false)), .c (.lit (.bool false)), .c (.lit (.int .i64 0))] := by rw [updH_out fun p hp => by have := hus p hp; omega]; exact HQ
      generalize Ez.updH H us = U at UP UQ f3
      simp only [retD, V.toD, Ez.putE, List.map_cons, List.map_nil]
      iterate 3 (first | (refine sq_yes rfl (sq_cons rfl ?_); simp only [ZS, Ez.lenD, Ez.appR, Ez.appD, Ez.srcOf, Ez.cpyD, Ez.frzV, Ez.frz, Ez.frz1, Ez.splice, if_true, if_false, Ez.intBin, Nat.reduceEqDiff, reduceIte, Nat.reduceAdd, Nat.reduceMul, Nat.reduceLeDiff, reduceCtorEq, Int.reduceLE, Int.reduceToNat, Nat.reduceSub, Bool.not_true, Bool.not_false, UP]) | (refine sq_cons rfl ?_; simp only [ZS, Ez.lenD, Ez.appR, Ez.appD, Ez.srcOf, Ez.cpyD, Ez.frzV, Ez.frz, Ez.frz1, Ez.splice, if_true, if_false, Ez.intBin, Nat.reduceEqDiff, reduceIte, Nat.reduceAdd, Nat.reduceMul, Nat.reduceLeDiff, reduceCtorEq, Int.reduceLE, Int.reduceToNat, Nat.reduceSub, Bool.not_true, Bool.not_false, UP]) | (refine sq_no rfl ?_; simp only [Ez.putE, Ez.undefD]))
      refine sq_yes rfl (sq_call (vs := [dskV (newSecs n) false false 0]) (us := []) (by simp only [List.map_cons, List.map_nil, Ez.evX, getE_cons, Nat.reduceEqDiff, if_false, if_true, frzVs, pArg, Option.bind_eq_bind, Option.bind_some, List.append_nil, List.nil_append, Ez.updH]) vl ?_)
      simp only [retD, V.toD, Ez.putE, Ez.updH, List.map_cons, List.map_nil]
      iterate 2 (first | (refine sq_yes rfl (sq_cons rfl ?_); simp only [ZS, Ez.lenD, Ez.appR, Ez.appD, Ez.srcOf, Ez.cpyD, Ez.frzV, Ez.frz, Ez.frz1, Ez.splice, if_true, if_false, Ez.intBin, Nat.reduceEqDiff, reduceIte, Nat.reduceAdd, Nat.reduceMul, Nat.reduceLeDiff, reduceCtorEq, Int.reduceLE, Int.reduceToNat, Nat.reduceSub, Bool.not_true, Bool.not_false]) | (refine sq_cons rfl ?_; simp only [ZS, Ez.lenD, Ez.appR, Ez.appD, Ez.srcOf, Ez.cpyD, Ez.frzV, Ez.frz, Ez.frz1, Ez.splice, if_true, if_false, Ez.intBin, Nat.reduceEqDiff, reduceIte, Nat.reduceAdd, Nat.reduceMul, Nat.reduceLeDiff, reduceCtorEq, Int.reduceLE, Int.reduceToNat, Nat.reduceSub, Bool.not_true, Bool.not_false]) | (refine sq_no rfl ?_; simp only [Ez.putE, Ez.undefD]))
      refine sq_nil (wp_condF rfl (wp_skip ?_))
      refine wp_seq (wp_seq (wp_sq ?_))
      iterate 1 (refine sq_cons rfl ?_; simp only [ZS, Ez.lenD, Ez.appR, Ez.appD, Ez.srcOf, Ez.cpyD, Ez.frzV, Ez.frz, Ez.frz1, Ez.splice, if_true, if_false, Ez.intBin, Nat.reduceEqDiff, reduceIte, Nat.reduceAdd, Nat.reduceMul, Nat.reduceLeDiff, reduceCtorEq, Int.reduceLE, Int.reduceToNat, Nat.reduceSub, Bool.not_true, Bool.not_false])
      refine sq_nil (wp_block (d9_loop hF hN l hl (p := N2) (q := N2 + 1) (by omega) ?_ l.length 0 _ _ U ⟨newSecs n, false, false, 0⟩ (.arr rid 0 n) (by omega) hd UP ⟨UQ, .inr ⟨rid, by rw [hnl], by omega, by omega, by omega, f3⟩⟩ (by omega) (by omega) (by simp only [getE_cons, Nat.reduceEqDiff, if_false, if_true]) (by simp only [getE_cons, Nat.reduceEqDiff, if_false, if_true]) (by simp only [getE_cons, Nat.reduceEqDiff, if_false, if_true]) (by simp only [getE_cons, Nat.reduceEqDiff, if_false, if_true]; rfl)))
      intro s
      obtain ⟨se, sh, sn⟩ := s
      simp only [if_true]
      refine wp_seq (wp_sq ?_)
      iterate 1 (refine sq_cons rfl ?_; simp only [ZS, Ez.lenD, Ez.appR, Ez.appD, Ez.srcOf, Ez.cpyD, Ez.frzV, Ez.frz, Ez.frz1, Ez.splice, if_true, if_false, Ez.intBin, Nat.reduceEqDiff, reduceIte, Nat.reduceAdd, Nat.reduceMul, Nat.reduceLeDiff, reduceCtorEq, Int.reduceLE, Int.reduceToNat, Nat.reduceSub, Bool.not_true, Bool.not_false])
      refine sq_nil (wp_ret ⟨rfl, ?_⟩)
      simp only [getE_cons, Nat.reduceEqDiff, if_false, if_true]
    · refine sq_nil (wp_condT rfl (wp_seq (wp_sq ?_)))
      iterate 1 (refine sq_cons rfl ?_; simp only [ZS, Ez.lenD, Ez.appR, Ez.appD, Ez.srcOf, Ez.cpyD, Ez.frzV, Ez.frz, Ez.frz1, Ez.splice, if_true, if_false, Ez.intBin, Nat.reduceEqDiff, reduceIte, Nat.reduceAdd, Nat.reduceMul, Nat.reduceLeDiff, reduceCtorEq, Int.reduceLE, Int.reduceToNat, Nat.reduceSub, Bool.not_true, Bool.not_false])
      refine sq_nil (wp_ret ⟨rfl, ?_⟩)
      simp only [getE_cons, Nat.reduceEqDiff, if_false, if_true]
  obtain ⟨x, s, hrun, rfl, g1⟩ := key
  refine RunF.body (us := []) (hN _ _ (by omega)) (RunB.fn (I := I9) (rs := [.c (.lit (.bool true))]) (by rw [hF]; rfl) rfl hrun (by simp) (by simp [I9, resD, g1])) ?_
  rfl

end Go.Proofs.Ytfphnpelampoeaa.Rw

