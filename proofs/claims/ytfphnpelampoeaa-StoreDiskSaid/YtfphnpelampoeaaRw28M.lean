/-
  A script of operations: each kind of operation.
-/
import Derived.Test.YtfphnpelampoeaaRw27M
set_option linter.unusedVariables false
set_option linter.unusedSimpArgs false
namespace Go.Proofs.Ytfphnpelampoeaa.Rw
open Go Go.Ez

def W9 : ICode := match B9_1 with | .seq _ (.seq (.block _ (.seq _ (.seq _ (.seq _ (.seq _ (.seq (.seq _ (.block _ c)) _)))))) _) => c | _ => .skip

theorem w9 {F : Tab} (hF : F.code = code) (hN : ∀ f vs, f ≠ 10 → F.nat f vs = none) {Q : Ex → St → Prop} {e : Env} {h : Heap} {N p q ab : Nat} {X : D} {d : Dk} (hd : d.Ok) {z : Int} (a : Act) (hp : getH h p = .box [.c (secsS d.l), .c (.lit (.bool d.de)), .c (.lit (.bool d.ar)), .c (.lit (.int .i64 d.le))]) (hq : BoxQ h N p q d X) (hpq : p ≠ q) (pN : p < N) (qN : q < N) (aN : ab < N) (pa : p ≠ ab) (qa : q ≠ ab)
    (ha : getH h ab = .box [.c (.lit (.int .i64 a.what)), .c (.lit (.int .i64 a.at_)), .c (.lit (.int .i64 a.n)), .c (.lit (.int .u64 (a.keep : Int))), .c (.lit (.int .u64 (a.torn : Int))), .c (.lit (.int .u8 a.x))])
    (e6 : getE e 6 = .loc p 0) (e7 : getE e 7 = .loc q 0) (e9 : getE e 9 = .loc ab 0) (e10 : getE e 10 = .c (.lit (.int .i64 z))) (e11 : getE e 11 = .c (.lit (.int .i64 0))) (e12 : getE e 12 = .c (.lit (.int .i64 0))) (e72 : getE e 72 = .c (.lit (.int .i64 a.what)))
    (hQ : ∀ (s : St) (d' : Dk) (X' : D) (err : Int), d'.Ok → getH s.heap p = .box [.c (secsS d'.l), .c (.lit (.bool d'.de)), .c (.lit (.bool d'.ar)), .c (.lit (.int .i64 d'.le))] → BoxQ s.heap s.nx p q d' X' → N ≤ s.nx → getE s.env 1 = getE e 1 → getE s.env 6 = .loc p 0 → getE s.env 7 = .loc q 0 → getE s.env 8 = getE e 8 → getE s.env 10 = .c (.lit (.int .i64 z)) → getE s.env 11 = .c (.lit (.int .i64 err)) → getE s.env 12 = .c (.lit (.int .i64 err)) → Q .normal s) : WP F W9 ⟨e, h, N⟩ Q := by
  have hq1 := hq.1
  have hfx := hq.frz
  have hcell := hq.cell
  have arg := hq.arg hfx
  have pArg : ∀ (h : Heap) (d : Dk), frzV h (.agg [.c (secsS d.l), .c (.lit (.bool d.de)), .c (.lit (.bool d.ar)), .c (.lit (.int .i64 d.le))]) = some (d.v, []) := fun h d => frz_disk (frz_c h _) _ _ _
  have fC : ∀ (h : Heap) (z : Int), frzV h (.c (.lit (.int .i64 z))) = some (.one (intC z), []) := fun _ _ => rfl
  have fK : ∀ (h : Heap) (z : Int), frzV h (.c (.lit (.int .u64 z))) = some (.one (.lit (.int .u64 z)), []) := fun _ _ => rfl
  have x1 : (p = q) = False := by simpa using hpq
  have x2 : (q = p) = False := by simpa using Ne.symm hpq
  have n1 : ∀ c, (N + c = p) = False := fun c => by simp; omega
  have n2 : ∀ c, (N + c = q) = False := fun c => by simp; omega
  have n3 : ∀ c, (N + c = ab) = False := fun c => by simp; omega
  have n4 : ∀ c, (p = N + c) = False := fun c => by simp; omega
  have n5 : ∀ c, (q = N + c) = False := fun c => by simp; omega
  have n6 : ∀ c, (ab = N + c) = False := fun c => by simp; omega
  have arg2 : ∀ Y, frzV ((p, Y) :: h) (.agg [X, .c (.lit (.bool d.de)), .c (.lit (.bool d.ar)), .c (.lit (.int .i64 d.le))]) = some (d.v, []) := fun Y =>
    frz_disk (show Ez.frz ((p, Y) :: h) X = some (secsS d.l, []) from (hq.mono (h' := (p, Y) :: h) (Nat.le_refl N) qN hpq (fun x _ hx => by simp only [getH_cons, show (p = x) = False by simp; omega, if_false])).frz) _ _ _
  simp only [W9, B9_1]
  by_cases w3 : a.what = 3
  · have c3 : (a.what == 3) = true := by simp [w3]
    obtain ⟨d', err, hd', r1, r2⟩ := flush_both hF hN d hd
    refine wp_seq (wp_sq ?_)
    iterate 2 (refine sq_cons rfl ?_; simp only [ZS, Ez.lenD, Ez.appR, Ez.appD, Ez.srcOf, Ez.cpyD, Ez.frzV, Ez.frz, Ez.frz1, Ez.splice, if_true, if_false, Ez.intBin, Nat.reduceEqDiff, reduceIte, Nat.reduceAdd, Nat.reduceMul, Nat.reduceLeDiff, reduceCtorEq, Int.reduceLE, Int.reduceToNat, Nat.reduceSub, Bool.not_true, Bool.not_false, e72, c3])
    refine sq_nil (wp_condT rfl (wp_seq (wp_sq ?_)))
    iterate 1 (refine sq_cons rfl ?_; simp only [ZS, Ez.lenD, Ez.appR, Ez.appD, Ez.srcOf, Ez.cpyD, Ez.frzV, Ez.frz, Ez.frz1, Ez.splice, if_true, if_false, Ez.intBin, Nat.reduceEqDiff, reduceIte, Nat.reduceAdd, Nat.reduceMul, Nat.reduceLeDiff, reduceCtorEq, Int.reduceLE, Int.reduceToNat, Nat.reduceSub, Bool.not_true, Bool.not_false, e6, hp])
    refine sq_call (vs := [d.v]) (us := []) (by simp only [List.map_cons, List.map_nil, Ez.evX, getE_cons, Nat.reduceEqDiff, if_false, if_true, frzVs, arg, arg2, pArg, fC, fK, Option.bind_eq_bind, Option.bind_some, List.append_nil, Ez.updH]) r1 ?_
    simp only [retD, V.toD, Ez.updH, Ez.putE, List.map_cons, List.map_nil, Dk.v, dskV]
    iterate 5 (refine sq_cons rfl ?_; simp only [ZS, Ez.lenD, Ez.appR, Ez.appD, Ez.srcOf, Ez.cpyD, Ez.frzV, Ez.frz, Ez.frz1, Ez.splice, if_true, if_false, Ez.intBin, Nat.reduceEqDiff, reduceIte, Nat.reduceAdd, Nat.reduceMul, Nat.reduceLeDiff, reduceCtorEq, Int.reduceLE, Int.reduceToNat, Nat.reduceSub, Bool.not_true, Bool.not_false, e6, hp, intC])
    refine sq_nil (wp_sq ?_)
    iterate 1 (refine sq_cons rfl ?_; simp only [ZS, Ez.lenD, Ez.appR, Ez.appD, Ez.srcOf, Ez.cpyD, Ez.frzV, Ez.frz, Ez.frz1, Ez.splice, if_true, if_false, Ez.intBin, Nat.reduceEqDiff, reduceIte, Nat.reduceAdd, Nat.reduceMul, Nat.reduceLeDiff, reduceCtorEq, Int.reduceLE, Int.reduceToNat, Nat.reduceSub, Bool.not_true, Bool.not_false, e7, hq1, x1, x2])
    refine sq_call (vs := [d.v]) (us := []) (by simp only [List.map_cons, List.map_nil, Ez.evX, getE_cons, Nat.reduceEqDiff, if_false, if_true, frzVs, arg, arg2, pArg, fC, fK, Option.bind_eq_bind, Option.bind_some, List.append_nil, Ez.updH]) r2 ?_
    simp only [retD, V.toD, Ez.updH, Ez.putE, List.map_cons, List.map_nil, Dk.v, dskV]
    iterate 5 (refine sq_cons rfl ?_; simp only [ZS, Ez.lenD, Ez.appR, Ez.appD, Ez.srcOf, Ez.cpyD, Ez.frzV, Ez.frz, Ez.frz1, Ez.splice, if_true, if_false, Ez.intBin, Nat.reduceEqDiff, reduceIte, Nat.reduceAdd, Nat.reduceMul, Nat.reduceLeDiff, reduceCtorEq, Int.reduceLE, Int.reduceToNat, Nat.reduceSub, Bool.not_true, Bool.not_false, e7, hq1, x1, x2, intC])
    refine sq_nil (hQ _ d' (.c (secsS d'.l)) err hd' ?_ ⟨?_, .inl rfl⟩ ?_ ?_ ?_ ?_ ?_ ?_ ?_ ?_)
    · simp only [getH_cons, x1, x2, if_true, if_false]; rfl
    · simp only [getH_cons, x1, x2, if_true, if_false]; rfl
    · simp only; omega
    · simp only [getE_cons, Nat.reduceEqDiff, if_false, if_true]
    · simp only [getE_cons, Nat.reduceEqDiff, if_false, if_true, e6]
    · simp only [getE_cons, Nat.reduceEqDiff, if_false, if_true, e7]
    · simp only [getE_cons, Nat.reduceEqDiff, if_false, if_true]
    · simp only [getE_cons, Nat.reduceEqDiff, if_false, if_true, e10]
    · simp only [getE_cons, Nat.reduceEqDiff, if_false, if_true]
    · simp only [getE_cons, Nat.reduceEqDiff, if_false, if_true]
  have c3 : (a.what == 3) = false := by simpa using w3
  refine wp_seq (wp_sq ?_)
  iterate 2 (refine sq_cons rfl ?_; simp only [ZS, Ez.lenD, Ez.appR, Ez.appD, Ez.srcOf, Ez.cpyD, Ez.frzV, Ez.frz, Ez.frz1, Ez.splice, if_true, if_false, Ez.intBin, Nat.reduceEqDiff, reduceIte, Nat.reduceAdd, Nat.reduceMul, Nat.reduceLeDiff, reduceCtorEq, Int.reduceLE, Int.reduceToNat, Nat.reduceSub, Bool.not_true, Bool.not_false, e72, c3])
  refine sq_nil (wp_condF rfl ?_)
  by_cases w4 : a.what = 4
  · have c4 : (a.what == 4) = true := by simp [w4]
    refine wp_seq (wp_sq ?_)
    iterate 2 (refine sq_cons rfl ?_; simp only [ZS, Ez.lenD, Ez.appR, Ez.appD, Ez.srcOf, Ez.cpyD, Ez.frzV, Ez.frz, Ez.frz1, Ez.splice, if_true, if_false, Ez.intBin, Nat.reduceEqDiff, reduceIte, Nat.reduceAdd, Nat.reduceMul, Nat.reduceLeDiff, reduceCtorEq, Int.reduceLE, Int.reduceToNat, Nat.reduceSub, Bool.not_true, Bool.not_false, e72, c4])
    refine sq_nil (wp_condT rfl (wp_seq (wp_sq ?_)))
    iterate 3 (refine sq_cons rfl ?_; simp only [ZS, Ez.lenD, Ez.appR, Ez.appD, Ez.srcOf, Ez.cpyD, Ez.frzV, Ez.frz, Ez.frz1, Ez.splice, if_true, if_false, Ez.intBin, Nat.reduceEqDiff, reduceIte, Nat.reduceAdd, Nat.reduceMul, Nat.reduceLeDiff, reduceCtorEq, Int.reduceLE, Int.reduceToNat, Nat.reduceSub, Bool.not_true, Bool.not_false, e9, ha])
    obtain ⟨X1, y1⟩ : ∃ X1, decide (a.n < -2) = X1 := ⟨_, rfl⟩
    obtain ⟨X2, y2⟩ : ∃ X2, decide (a.n > 20) = X2 := ⟨_, rfl⟩
    refine sq_nil (wp_seq (wp_seq (wp_sq ?_)))
    have rest : ∀ (e' : Env) (N' : Nat) (k : Int), k ≤ 20 → N ≤ N' → getE e' 1 = getE e 1 → getE e' 6 = .loc p 0 → getE e' 7 = .loc q 0 → getE e' 8 = getE e 8 → getE e' 10 = .c (.lit (.int .i64 z)) → getE e' 11 = .c (.lit (.int .i64 0)) → getE e' 12 = .c (.lit (.int .i64 0)) → getE e' 13 = .c (.lit (.int .i64 k)) →
        WP F (.draw [⟨(some 130), .load true 4 (.t 6), none⟩, ⟨(some 131), .mov (.t 13), none⟩, ⟨(some 132), .call 17 [(.t 130), (.t 131)], none⟩, ⟨(some 133), .load true 4 (.t 7), none⟩, ⟨(some 134), .mov (.t 13), none⟩, ⟨(some 135), .call 25 [(.t 133), (.t 134)], none⟩, ⟨none, .store 4 (.t 6) (.t 132), none⟩, ⟨none, .store 4 (.t 7) (.t 135), none⟩] [0, 0, 3, 0, 0, 31, 63, 127]) ⟨e', h, N'⟩ Q := by
      intro e' N' k hk hN' f1 f6 f7 f8 f10 f11 f12 f13
      obtain ⟨d', hd', r1, r2⟩ := cut_both hF hN d hd k hk
      refine wp_dr ?_
      iterate 2 (refine dr_cons rfl ?_; simp only [ZS, Ez.lenD, Ez.appR, Ez.appD, Ez.srcOf, Ez.cpyD, Ez.frzV, Ez.frz, Ez.frz1, Ez.splice, if_true, if_false, Ez.intBin, Nat.reduceEqDiff, reduceIte, Nat.reduceAdd, Nat.reduceMul, Nat.reduceLeDiff, reduceCtorEq, Int.reduceLE, Int.reduceToNat, Nat.reduceSub, Bool.not_true, Bool.not_false, f6, f13, hp])
      refine dr_call (vs := [d.v, .one (intC k)]) (us := []) (by simp only [List.map_cons, List.map_nil, Ez.evX, getE_cons, Nat.reduceEqDiff, if_false, if_true, frzVs, arg, arg2, pArg, fC, fK, Option.bind_eq_bind, Option.bind_some, List.append_nil, Ez.updH]) r1 ?_
      simp only [retD, V.toD, Ez.updH, Ez.putE, List.map_cons, List.map_nil, Dk.v, dskV]
      iterate 2 (refine dr_cons rfl ?_; simp only [ZS, Ez.lenD, Ez.appR, Ez.appD, Ez.srcOf, Ez.cpyD, Ez.frzV, Ez.frz, Ez.frz1, Ez.splice, if_true, if_false, Ez.intBin, Nat.reduceEqDiff, reduceIte, Nat.reduceAdd, Nat.reduceMul, Nat.reduceLeDiff, reduceCtorEq, Int.reduceLE, Int.reduceToNat, Nat.reduceSub, Bool.not_true, Bool.not_false, f7, f13, hq1])
      refine dr_call (vs := [d.v, .one (intC k)]) (us := []) (by simp only [List.map_cons, List.map_nil, Ez.evX, getE_cons, Nat.reduceEqDiff, if_false, if_true, frzVs, arg, arg2, pArg, fC, fK, Option.bind_eq_bind, Option.bind_some, List.append_nil, Ez.updH]) r2 ?_
      simp only [retD, V.toD, Ez.updH, Ez.putE, List.map_cons, List.map_nil, Dk.v, dskV]
      iterate 2 (refine dr_cons rfl ?_; simp only [ZS, Ez.lenD, Ez.appR, Ez.appD, Ez.srcOf, Ez.cpyD, Ez.frzV, Ez.frz, Ez.frz1, Ez.splice, if_true, if_false, Ez.intBin, Nat.reduceEqDiff, reduceIte, Nat.reduceAdd, Nat.reduceMul, Nat.reduceLeDiff, reduceCtorEq, Int.reduceLE, Int.reduceToNat, Nat.reduceSub, Bool.not_true, Bool.not_false, f6, f7, hp, hq1, x1, x2])
      refine dr_nil ⟨?_, hQ _ d' (.c (secsS d'.l)) 0 hd' ?_ ⟨?_, .inl rfl⟩ ?_ ?_ ?_ ?_ ?_ ?_ ?_ ?_⟩
      · rcases hq.2 with rfl | ⟨rid, rfl, hr1, hr2, hr3, hr4⟩
        · simp [drawOk, drawFrom, okRow, clash, meets, touches, frzIds, ids1, opX, tmpsX, Nat.testBit, evX, getE_cons, f6, f7, f13, hp, hq1, x1, x2, getH_cons]
        · simp [drawOk, drawFrom, okRow, clash, meets, touches, frzIds, ids1, opX, tmpsX, Nat.testBit, evX, getE_cons, f6, f7, f13, hp, hq1, x1, x2, getH_cons, hr2, hr3, hr4]
      · simp only [getH_cons, x1, x2, if_true, if_false]; rfl
      · simp only [getH_cons, x1, x2, if_true, if_false]; rfl
      · simp only; omega
      · simp only [getE_cons, Nat.reduceEqDiff, if_false, if_true, f1]
      · simp only [getE_cons, Nat.reduceEqDiff, if_false, if_true, f6]
      · simp only [getE_cons, Nat.reduceEqDiff, if_false, if_true, f7]
      · simp only [getE_cons, Nat.reduceEqDiff, if_false, if_true, f8]
      · simp only [getE_cons, Nat.reduceEqDiff, if_false, if_true, f10]
      · simp only [getE_cons, Nat.reduceEqDiff, if_false, if_true, f11]
      · simp only [getE_cons, Nat.reduceEqDiff, if_false, if_true, f12]
    cases X1
    · cases X2
      · have hk : a.n ≤ 20 := by simp at y2; omega
        iterate 6 (first | (refine sq_yes rfl (sq_cons rfl ?_); simp only [ZS, Ez.lenD, Ez.appR, Ez.appD, Ez.srcOf, Ez.cpyD, Ez.frzV, Ez.frz, Ez.frz1, Ez.splice, if_true, if_false, Ez.intBin, Nat.reduceEqDiff, reduceIte, Nat.reduceAdd, Nat.reduceMul, Nat.reduceLeDiff, reduceCtorEq, Int.reduceLE, Int.reduceToNat, Nat.reduceSub, Bool.not_true, Bool.not_false, y1, y2]) | (refine sq_cons rfl ?_; simp only [ZS, Ez.lenD, Ez.appR, Ez.appD, Ez.srcOf, Ez.cpyD, Ez.frzV, Ez.frz, Ez.frz1, Ez.splice, if_true, if_false, Ez.intBin, Nat.reduceEqDiff, reduceIte, Nat.reduceAdd, Nat.reduceMul, Nat.reduceLeDiff, reduceCtorEq, Int.reduceLE, Int.reduceToNat, Nat.reduceSub, Bool.not_true, Bool.not_false, y1, y2]) | (refine sq_no rfl ?_; simp only [Ez.putE, Ez.undefD]))
        refine sq_nil (wp_condF rfl (wp_skip (rest _ _ a.n hk ?_ ?_ ?_ ?_ ?_ ?_ ?_ ?_ ?_)))
        · omega
        · simp only [getE_cons, Nat.reduceEqDiff, if_false, if_true]
        · simp only [getE_cons, Nat.reduceEqDiff, if_false, if_true, e6]
        · simp only [getE_cons, Nat.reduceEqDiff, if_false, if_true, e7]
        · simp only [getE_cons, Nat.reduceEqDiff, if_false, if_true]
        · simp only [getE_cons, Nat.reduceEqDiff, if_false, if_true, e10]
        · simp only [getE_cons, Nat.reduceEqDiff, if_false, if_true, e11]
        · simp only [getE_cons, Nat.reduceEqDiff, if_false, if_true, e12]
        · simp only [getE_cons, Nat.reduceEqDiff, if_false, if_true]
      · iterate 6 (first | (refine sq_yes rfl (sq_cons rfl ?_); simp only [ZS, Ez.lenD, Ez.appR, Ez.appD, Ez.srcOf, Ez.cpyD, Ez.frzV, Ez.frz, Ez.frz1, Ez.splice, if_true, if_false, Ez.intBin, Nat.reduceEqDiff, reduceIte, Nat.reduceAdd, Nat.reduceMul, Nat.reduceLeDiff, reduceCtorEq, Int.reduceLE, Int.reduceToNat, Nat.reduceSub, Bool.not_true, Bool.not_false, y1, y2]) | (refine sq_cons rfl ?_; simp only [ZS, Ez.lenD, Ez.appR, Ez.appD, Ez.srcOf, Ez.cpyD, Ez.frzV, Ez.frz, Ez.frz1, Ez.splice, if_true, if_false, Ez.intBin, Nat.reduceEqDiff, reduceIte, Nat.reduceAdd, Nat.reduceMul, Nat.reduceLeDiff, reduceCtorEq, Int.reduceLE, Int.reduceToNat, Nat.reduceSub, Bool.not_true, Bool.not_false, y1, y2]) | (refine sq_no rfl ?_; simp only [Ez.putE, Ez.undefD]))
        refine sq_nil (wp_condT rfl (wp_sq ?_))
        iterate 1 (refine sq_cons rfl ?_; simp only [ZS, Ez.lenD, Ez.appR, Ez.appD, Ez.srcOf, Ez.cpyD, Ez.frzV, Ez.frz, Ez.frz1, Ez.splice, if_true, if_false, Ez.intBin, Nat.reduceEqDiff, reduceIte, Nat.reduceAdd, Nat.reduceMul, Nat.reduceLeDiff, reduceCtorEq, Int.reduceLE, Int.reduceToNat, Nat.reduceSub, Bool.not_true, Bool.not_false])
        refine sq_nil (rest _ _ 3 (by omega) ?_ ?_ ?_ ?_ ?_ ?_ ?_ ?_ ?_)
        · omega
        · simp only [getE_cons, Nat.reduceEqDiff, if_false, if_true]
        · simp only [getE_cons, Nat.reduceEqDiff, if_false, if_true, e6]
        · simp only [getE_cons, Nat.reduceEqDiff, if_false, if_true, e7]
        · simp only [getE_cons, Nat.reduceEqDiff, if_false, if_true]
        · simp only [getE_cons, Nat.reduceEqDiff, if_false, if_true, e10]
        · simp only [getE_cons, Nat.reduceEqDiff, if_false, if_true, e11]
        · simp only [getE_cons, Nat.reduceEqDiff, if_false, if_true, e12]
        · simp only [getE_cons, Nat.reduceEqDiff, if_false, if_true]
    · iterate 6 (first | (refine sq_yes rfl (sq_cons rfl ?_); simp only [ZS, Ez.lenD, Ez.appR, Ez.appD, Ez.srcOf, Ez.cpyD, Ez.frzV, Ez.frz, Ez.frz1, Ez.splice, if_true, if_false, Ez.intBin, Nat.reduceEqDiff, reduceIte, Nat.reduceAdd, Nat.reduceMul, Nat.reduceLeDiff, reduceCtorEq, Int.reduceLE, Int.reduceToNat, Nat.reduceSub, Bool.not_true, Bool.not_false, y1, y2]) | (refine sq_cons rfl ?_; simp only [ZS, Ez.lenD, Ez.appR, Ez.appD, Ez.srcOf, Ez.cpyD, Ez.frzV, Ez.frz, Ez.frz1, Ez.splice, if_true, if_false, Ez.intBin, Nat.reduceEqDiff, reduceIte, Nat.reduceAdd, Nat.reduceMul, Nat.reduceLeDiff, reduceCtorEq, Int.reduceLE, Int.reduceToNat, Nat.reduceSub, Bool.not_true, Bool.not_false, y1, y2]) | (refine sq_no rfl ?_; simp only [Ez.putE, Ez.undefD]))
      refine sq_nil (wp_condT rfl (wp_sq ?_))
      iterate 1 (refine sq_cons rfl ?_; simp only [ZS, Ez.lenD, Ez.appR, Ez.appD, Ez.srcOf, Ez.cpyD, Ez.frzV, Ez.frz, Ez.frz1, Ez.splice, if_true, if_false, Ez.intBin, Nat.reduceEqDiff, reduceIte, Nat.reduceAdd, Nat.reduceMul, Nat.reduceLeDiff, reduceCtorEq, Int.reduceLE, Int.reduceToNat, Nat.reduceSub, Bool.not_true, Bool.not_false])
      refine sq_nil (rest _ _ 3 (by omega) ?_ ?_ ?_ ?_ ?_ ?_ ?_ ?_ ?_)
      · omega
      · simp only [getE_cons, Nat.reduceEqDiff, if_false, if_true]
      · simp only [getE_cons, Nat.reduceEqDiff, if_false, if_true, e6]
      · simp only [getE_cons, Nat.reduceEqDiff, if_false, if_true, e7]
      · simp only [getE_cons, Nat.reduceEqDiff, if_false, if_true]
      · simp only [getE_cons, Nat.reduceEqDiff, if_false, if_true, e10]
      · simp only [getE_cons, Nat.reduceEqDiff, if_false, if_true, e11]
      · simp only [getE_cons, Nat.reduceEqDiff, if_false, if_true, e12]
      · simp only [getE_cons, Nat.reduceEqDiff, if_false, if_true]
  have c4 : (a.what == 4) = false := by simpa using w4
  refine wp_seq (wp_sq ?_)
  iterate 2 (refine sq_cons rfl ?_; simp only [ZS, Ez.lenD, Ez.appR, Ez.appD, Ez.srcOf, Ez.cpyD, Ez.frzV, Ez.frz, Ez.frz1, Ez.splice, if_true, if_false, Ez.intBin, Nat.reduceEqDiff, reduceIte, Nat.reduceAdd, Nat.reduceMul, Nat.reduceLeDiff, reduceCtorEq, Int.reduceLE, Int.reduceToNat, Nat.reduceSub, Bool.not_true, Bool.not_false, e72, c4])
  refine sq_nil (wp_condF rfl ?_)
  by_cases w5 : a.what = 5
  · have c5 : (a.what == 5) = true := by simp [w5]
    obtain ⟨d', hd', r1, r2⟩ := crash_both hF hN d hd a.keep a.torn a.hk a.ht
    refine wp_seq (wp_sq ?_)
    iterate 2 (refine sq_cons rfl ?_; simp only [ZS, Ez.lenD, Ez.appR, Ez.appD, Ez.srcOf, Ez.cpyD, Ez.frzV, Ez.frz, Ez.frz1, Ez.splice, if_true, if_false, Ez.intBin, Nat.reduceEqDiff, reduceIte, Nat.reduceAdd, Nat.reduceMul, Nat.reduceLeDiff, reduceCtorEq, Int.reduceLE, Int.reduceToNat, Nat.reduceSub, Bool.not_true, Bool.not_false, e72, c5])
    refine sq_nil (wp_condT rfl (wp_dr ?_))
    iterate 5 (refine dr_cons rfl ?_; simp only [ZS, Ez.lenD, Ez.appR, Ez.appD, Ez.srcOf, Ez.cpyD, Ez.frzV, Ez.frz, Ez.frz1, Ez.splice, if_true, if_false, Ez.intBin, Nat.reduceEqDiff, reduceIte, Nat.reduceAdd, Nat.reduceMul, Nat.reduceLeDiff, reduceCtorEq, Int.reduceLE, Int.reduceToNat, Nat.reduceSub, Bool.not_true, Bool.not_false, e6, e9, hp, ha])
    refine dr_call (vs := [d.v, .one (.lit (.int .u64 (a.keep : Int))), .one (.lit (.int .u64 (a.torn : Int)))]) (us := []) (by simp only [List.map_cons, List.map_nil, Ez.evX, getE_cons, Nat.reduceEqDiff, if_false, if_true, frzVs, arg, arg2, pArg, fC, fK, Option.bind_eq_bind, Option.bind_some, List.append_nil, Ez.updH]) r1 ?_
    simp only [retD, V.toD, Ez.updH, Ez.putE, List.map_cons, List.map_nil, Dk.v, dskV]
    iterate 5 (refine dr_cons rfl ?_; simp only [ZS, Ez.lenD, Ez.appR, Ez.appD, Ez.srcOf, Ez.cpyD, Ez.frzV, Ez.frz, Ez.frz1, Ez.splice, if_true, if_false, Ez.intBin, Nat.reduceEqDiff, reduceIte, Nat.reduceAdd, Nat.reduceMul, Nat.reduceLeDiff, reduceCtorEq, Int.reduceLE, Int.reduceToNat, Nat.reduceSub, Bool.not_true, Bool.not_false, e7, e9, hq1, ha])
    refine dr_call (vs := [d.v, .one (.lit (.int .u64 (a.keep : Int))), .one (.lit (.int .u64 (a.torn : Int)))]) (us := []) (by simp only [List.map_cons, List.map_nil, Ez.evX, getE_cons, Nat.reduceEqDiff, if_false, if_true, frzVs, arg, arg2, pArg, fC, fK, Option.bind_eq_bind, Option.bind_some, List.append_nil, Ez.updH]) r2 ?_
    simp only [retD, V.toD, Ez.updH, Ez.putE, List.map_cons, List.map_nil, Dk.v, dskV]
    iterate 2 (refine dr_cons rfl ?_; simp only [ZS, Ez.lenD, Ez.appR, Ez.appD, Ez.srcOf, Ez.cpyD, Ez.frzV, Ez.frz, Ez.frz1, Ez.splice, if_true, if_false, Ez.intBin, Nat.reduceEqDiff, reduceIte, Nat.reduceAdd, Nat.reduceMul, Nat.reduceLeDiff, reduceCtorEq, Int.reduceLE, Int.reduceToNat, Nat.reduceSub, Bool.not_true, Bool.not_false, e6, e7, hp, hq1, x1, x2])
    refine dr_nil ⟨?_, hQ _ d' (.c (secsS d'.l)) 0 hd' ?_ ⟨?_, .inl rfl⟩ ?_ ?_ ?_ ?_ ?_ ?_ ?_ ?_⟩
    · have q1 : (p = ab) = False := by simpa using pa
      have q2 : (q = ab) = False := by simpa using qa
      rcases hq.2 with rfl | ⟨rid, rfl, hr1, hr2, hr3, hr4⟩
      · simp [drawOk, drawFrom, okRow, clash, meets, touches, frzIds, ids1, opX, tmpsX, Nat.testBit, evX, getE_cons, e6, e7, e9, hp, hq1, ha, x1, x2, q1, q2, getH_cons]
      · simp [drawOk, drawFrom, okRow, clash, meets, touches, frzIds, ids1, opX, tmpsX, Nat.testBit, evX, getE_cons, e6, e7, e9, hp, hq1, ha, x1, x2, q1, q2, getH_cons, hr2, hr3, hr4]
    · simp only [getH_cons, x1, x2, if_true, if_false]; rfl
    · simp only [getH_cons, x1, x2, if_true, if_false]; rfl
    · simp only; omega
    · simp only [getE_cons, Nat.reduceEqDiff, if_false, if_true]
    · simp only [getE_cons, Nat.reduceEqDiff, if_false, if_true, e6]
    · simp only [getE_cons, Nat.reduceEqDiff, if_false, if_true, e7]
    · simp only [getE_cons, Nat.reduceEqDiff, if_false, if_true]
    · simp only [getE_cons, Nat.reduceEqDiff, if_false, if_true, e10]
    · simp only [getE_cons, Nat.reduceEqDiff, if_false, if_true, e11]
    · simp only [getE_cons, Nat.reduceEqDiff, if_false, if_true, e12]
  have c5 : (a.what == 5) = false := by simpa using w5
  refine wp_seq (wp_sq ?_)
  iterate 2 (refine sq_cons rfl ?_; simp only [ZS, Ez.lenD, Ez.appR, Ez.appD, Ez.srcOf, Ez.cpyD, Ez.frzV, Ez.frz, Ez.frz1, Ez.splice, if_true, if_false, Ez.intBin, Nat.reduceEqDiff, reduceIte, Nat.reduceAdd, Nat.reduceMul, Nat.reduceLeDiff, reduceCtorEq, Int.reduceLE, Int.reduceToNat, Nat.reduceSub, Bool.not_true, Bool.not_false, e72, c5])
  refine sq_nil (wp_condF rfl ?_)
  by_cases w6 : a.what = 6
  · have c6 : (a.what == 6) = true := by simp [w6]
    refine wp_seq (wp_sq ?_)
    iterate 2 (refine sq_cons rfl ?_; simp only [ZS, Ez.lenD, Ez.appR, Ez.appD, Ez.srcOf, Ez.cpyD, Ez.frzV, Ez.frz, Ez.frz1, Ez.splice, if_true, if_false, Ez.intBin, Nat.reduceEqDiff, reduceIte, Nat.reduceAdd, Nat.reduceMul, Nat.reduceLeDiff, reduceCtorEq, Int.reduceLE, Int.reduceToNat, Nat.reduceSub, Bool.not_true, Bool.not_false, e72, c6])
    refine sq_nil (wp_condT rfl (wp_skip (hQ _ d X 0 hd hp (hq.mono (by simp only; omega) qN hpq fun _ _ _ => rfl) ?_ ?_ ?_ ?_ ?_ ?_ ?_ ?_)))
    · simp only; omega
    · simp only [getE_cons, Nat.reduceEqDiff, if_false, if_true]
    · simp only [getE_cons, Nat.reduceEqDiff, if_false, if_true, e6]
    · simp only [getE_cons, Nat.reduceEqDiff, if_false, if_true, e7]
    · simp only [getE_cons, Nat.reduceEqDiff, if_false, if_true]
    · simp only [getE_cons, Nat.reduceEqDiff, if_false, if_true, e10]
    · simp only [getE_cons, Nat.reduceEqDiff, if_false, if_true, e11]
    · simp only [getE_cons, Nat.reduceEqDiff, if_false, if_true, e12]
  have c6 : (a.what == 6) = false := by simpa using w6
  refine wp_seq (wp_sq ?_)
  iterate 2 (refine sq_cons rfl ?_; simp only [ZS, Ez.lenD, Ez.appR, Ez.appD, Ez.srcOf, Ez.cpyD, Ez.frzV, Ez.frz, Ez.frz1, Ez.splice, if_true, if_false, Ez.intBin, Nat.reduceEqDiff, reduceIte, Nat.reduceAdd, Nat.reduceMul, Nat.reduceLeDiff, reduceCtorEq, Int.reduceLE, Int.reduceToNat, Nat.reduceSub, Bool.not_true, Bool.not_false, e72, c6])
  refine sq_nil (wp_condF rfl ?_)
  have room : (128 * 1 ≤ roomMax) = True := by simp [roomMax]
  have room1 : (128 ≤ roomMax) = True := by simp [roomMax]
  have pos : ((0 : Nat) < 1) = True := by simp
  refine wp_seq (wp_sq ?_)
  iterate 2 (refine sq_cons rfl ?_; simp only [ZS, Ez.lenD, Ez.appR, Ez.appD, Ez.srcOf, Ez.cpyD, Ez.frzV, Ez.frz, Ez.frz1, Ez.splice, if_true, if_false, Ez.intBin, Nat.reduceEqDiff, reduceIte, Nat.reduceAdd, Nat.reduceMul, Nat.reduceLeDiff, reduceCtorEq, Int.reduceLE, Int.reduceToNat, Nat.reduceSub, Bool.not_true, Bool.not_false, room, room1, pos])
  refine sq_nil (wp_seq (wp_seq (wp_sq ?_)))
  iterate 1 (refine sq_cons rfl ?_; simp only [ZS, Ez.lenD, Ez.appR, Ez.appD, Ez.srcOf, Ez.cpyD, Ez.frzV, Ez.frz, Ez.frz1, Ez.splice, if_true, if_false, Ez.intBin, Nat.reduceEqDiff, reduceIte, Nat.reduceAdd, Nat.reduceMul, Nat.reduceLeDiff, reduceCtorEq, Int.reduceLE, Int.reduceToNat, Nat.reduceSub, Bool.not_true, Bool.not_false])
  have sl : ∀ c, (N + 8 = N + c) = (8 = c) := fun c => by simp
  refine sq_nil (wp_block (b9_loop F (ab := ab) (bid := N + 8) (D1 := getE e 1) (D6 := .loc p 0) (D7 := .loc q 0) (D8 := getE e 8) (D10 := .c (.lit (.int .i64 z))) (D11 := .c (.lit (.int .i64 0))) (D12 := .c (.lit (.int .i64 0))) (a0 := .c (.lit (.int .i64 a.what))) (a1 := .c (.lit (.int .i64 a.at_))) (a2 := .c (.lit (.int .i64 a.n))) (a3 := .c (.lit (.int .u64 (a.keep : Int)))) (a4 := .c (.lit (.int .u64 (a.torn : Int)))) (x := a.x) (by omega) ((N + 8, .arr (zeros [.int .u8 0] 128) 1 0 5) :: h) N ?_ 128 0 _ _ _ zeroB (by omega) (by omega) zeroB_len (by simp only [getE_cons, Nat.reduceEqDiff, if_false, if_true]) (by simp only [getE_cons, Nat.reduceEqDiff, if_false, if_true]; exact e6) (by simp only [getE_cons, Nat.reduceEqDiff, if_false, if_true]; exact e7) (by simp only [getE_cons, Nat.reduceEqDiff, if_false, if_true]) (by simp only [getE_cons, Nat.reduceEqDiff, if_false, if_true]; exact e9) (by simp only [getE_cons, Nat.reduceEqDiff, if_false, if_true]; exact e10) (by simp only [getE_cons, Nat.reduceEqDiff, if_false, if_true]; exact e11) (by simp only [getE_cons, Nat.reduceEqDiff, if_false, if_true]; exact e12) (by simp only [getE_cons, Nat.reduceEqDiff, if_false, if_true]) (by simp only [getE_cons, Nat.reduceEqDiff, if_false, if_true]; rfl) (by simp only [getH_cons, n3, if_false]; exact ha) (by simp only [getH_cons, if_true, zeros_bytes]; rfl) (fun _ _ => rfl)))
  intro s c2 hc2 gN g1 g6 g7 g8 g9 g10 g11 g12 g14 gb gf
  obtain ⟨se, sh, sn⟩ := s
  simp only at gN g1 g6 g7 g8 g9 g10 g11 g12 g14 gb gf
  simp only [if_true]
  have fr : ∀ x, x < N → getH sh x = getH h x := fun x hx => by rw [gf x (by omega)]; simp only [getH_cons, show (N + 8 = x) = False by simp; omega, if_false]
  have hp' : getH sh p = .box [.c (secsS d.l), .c (.lit (.bool d.de)), .c (.lit (.bool d.ar)), .c (.lit (.int .i64 d.le))] := by rw [fr p pN]; exact hp
  have hq' : getH sh q = .box [X, .c (.lit (.bool d.de)), .c (.lit (.bool d.ar)), .c (.lit (.int .i64 d.le))] := by rw [fr q qN]; exact hq1
  have ha' : getH sh ab = .box [.c (.lit (.int .i64 a.what)), .c (.lit (.int .i64 a.at_)), .c (.lit (.int .i64 a.n)), .c (.lit (.int .u64 (a.keep : Int))), .c (.lit (.int .u64 (a.torn : Int))), .c (.lit (.int .u8 a.x))] := by rw [fr ab aN]; exact ha
  have arg3 : ∀ h' : Heap, (∀ x, x < N → x ≠ p → getH h' x = getH h x) → frzV h' (.agg [X, .c (.lit (.bool d.de)), .c (.lit (.bool d.ar)), .c (.lit (.int .i64 d.le))]) = some (d.v, []) := fun h' hf =>
    frz_disk (show Ez.frz h' X = some (secsS d.l, []) from (hq.mono (h' := h') (Nat.le_refl N) qN hpq hf).frz) _ _ _
  have hcl : (bytesC c2).length = 128 := by rw [bytesC_len]; exact hc2
  have rest : ∀ (e' : Env) (N' o n : Nat), o + n = 128 → 0 < n → N ≤ N' → getE e' 1 = getE e 1 → getE e' 6 = .loc p 0 → getE e' 7 = .loc q 0 → getE e' 8 = getE e 8 → getE e' 10 = .c (.lit (.int .i64 z)) → getE e' 14 = .arr (N + 8) o n →
      WP F (match W9 with | .seq _ (.cond _ _ (.seq _ (.cond _ _ (.seq _ (.cond _ _ (.seq _ (.cond _ _ (.seq _ (.seq _ (.seq _ c)))))))))) => c | _ => .skip) ⟨e', sh, N'⟩ (fun x s1 => match x with | .normal => Q .normal s1 | _ => False) := by
    intro e' N' o n hon hn hN' f1 f6 f7 f8 f10 f14
    have hb128 : (bytesC (c2.drop o)).length = n := by rw [bytesC_len, List.length_drop, hc2]; omega
    have hcut : ((bytesC c2).drop o).take (n * 1) = bytesC (c2.drop o) := by
      have : (bytesC c2).drop o = bytesC (c2.drop o) := by simp [bytesC]
      rw [this, Nat.mul_one, List.take_of_length_le (by omega)]
    have hbs : C.slice (bytesC (c2.drop o)) n = bytesS (c2.drop o) := by rw [bytesS, List.length_drop, hc2, show 128 - o = n by omega]
    have hA1 : frzV sh (.arr (N + 8) o n) = some (.one (bytesS (c2.drop o)), [(N + 8, .arr (bytesC c2) 1 128 5)]) := by
      simp only [Ez.frzV, Ez.frz, gb, Ez.frz1, Nat.mul_one, hon, hcl, Nat.le_refl, if_true, Option.bind_eq_bind, Option.bind_some, show ¬ (128 ≤ 0) by omega, if_false]
      rw [Nat.mul_one] at hcut
      rw [hcut, hbs]
    have hA2 : ∀ h' : Heap, getH h' (N + 8) = .arr (bytesC c2) 1 128 5 → frzV h' (.arr (N + 8) o n) = some (.one (bytesS (c2.drop o)), []) := by
      intro h' hg
      simp only [Ez.frzV, Ez.frz, hg, Ez.frz1, Nat.mul_one, hon, hcl, Nat.le_refl, if_true, Option.bind_eq_bind, Option.bind_some]
      rw [Nat.mul_one] at hcut
      rw [hcut, hbs]
    obtain ⟨d', err, hd', r1, r2⟩ := write_both hF hN d hd z (c2.drop o)
    simp only [W9, B9_1]
    refine wp_seq (wp_sq ?_)
    iterate 3 (refine sq_cons rfl ?_; simp only [ZS, Ez.lenD, Ez.appR, Ez.appD, Ez.srcOf, Ez.cpyD, Ez.frzV, Ez.frz, Ez.frz1, Ez.splice, if_true, if_false, Ez.intBin, Nat.reduceEqDiff, reduceIte, Nat.reduceAdd, Nat.reduceMul, Nat.reduceLeDiff, reduceCtorEq, Int.reduceLE, Int.reduceToNat, Nat.reduceSub, Bool.not_true, Bool.not_false, f6, f10, f14, hp'])
    refine sq_call (vs := [d.v, .one (intC z), .one (bytesS (c2.drop o))]) (us := [(N + 8, .arr (bytesC c2) 1 128 5)]) (by simp only [List.map_cons, List.map_nil, Ez.evX, getE_cons, Nat.reduceEqDiff, if_false, if_true, frzVs, pArg, fC, hA1, Option.bind_eq_bind, Option.bind_some, List.append_nil, List.nil_append, Ez.updH]) r1 ?_
    simp only [retD, V.toD, Ez.updH, Ez.putE, List.map_cons, List.map_nil, Dk.v, dskV]
    iterate 5 (refine sq_cons rfl ?_; simp only [ZS, Ez.lenD, Ez.appR, Ez.appD, Ez.srcOf, Ez.cpyD, Ez.frzV, Ez.frz, Ez.frz1, Ez.splice, if_true, if_false, Ez.intBin, Nat.reduceEqDiff, reduceIte, Nat.reduceAdd, Nat.reduceMul, Nat.reduceLeDiff, reduceCtorEq, Int.reduceLE, Int.reduceToNat, Nat.reduceSub, Bool.not_true, Bool.not_false, f6, hp', intC, n1, n4])
    refine sq_nil (wp_sq ?_)
    iterate 3 (refine sq_cons rfl ?_; simp only [ZS, Ez.lenD, Ez.appR, Ez.appD, Ez.srcOf, Ez.cpyD, Ez.frzV, Ez.frz, Ez.frz1, Ez.splice, if_true, if_false, Ez.intBin, Nat.reduceEqDiff, reduceIte, Nat.reduceAdd, Nat.reduceMul, Nat.reduceLeDiff, reduceCtorEq, Int.reduceLE, Int.reduceToNat, Nat.reduceSub, Bool.not_true, Bool.not_false, f7, f10, f14, hq', x1, x2, n2, n5])
    refine sq_call (vs := [d.v, .one (intC z), .one (bytesS (c2.drop o))]) (us := []) ?_ r2 ?_
    · rw [show List.map (Ez.evX _) [Ez.X.t 102, Ez.X.t 103, Ez.X.t 104] = [.agg [X, .c (.lit (.bool d.de)), .c (.lit (.bool d.ar)), .c (.lit (.int .i64 d.le))], .c (.lit (.int .i64 z)), .arr (N + 8) o n] by simp only [List.map_cons, List.map_nil, Ez.evX, getE_cons, Nat.reduceEqDiff, if_false, if_true]]
      simp only [frzVs]
      rw [arg3 _ ?_]
      · simp only [Option.bind_eq_bind, Option.bind_some, Ez.updH, fC]
        rw [hA2 _ ?_]
        · rfl
        · simp only [getH_cons, n4, if_false, if_true]
      · intro x hx hxp
        simp only [getH_cons, show (p = x) = False by simp; omega, show (N + 8 = x) = False by simp; omega, if_false]
        exact fr x hx
    simp only [retD, V.toD, Ez.updH, Ez.putE, List.map_cons, List.map_nil, Dk.v, dskV]
    iterate 5 (refine sq_cons rfl ?_; simp only [ZS, Ez.lenD, Ez.appR, Ez.appD, Ez.srcOf, Ez.cpyD, Ez.frzV, Ez.frz, Ez.frz1, Ez.splice, if_true, if_false, Ez.intBin, Nat.reduceEqDiff, reduceIte, Nat.reduceAdd, Nat.reduceMul, Nat.reduceLeDiff, reduceCtorEq, Int.reduceLE, Int.reduceToNat, Nat.reduceSub, Bool.not_true, Bool.not_false, f7, hq', x1, x2, n2, n5, intC])
    refine sq_nil (hQ _ d' (.c (secsS d'.l)) err hd' ?_ ⟨?_, .inl rfl⟩ ?_ ?_ ?_ ?_ ?_ ?_ ?_ ?_)
    · simp only [getH_cons, x1, x2, if_true, if_false]; rfl
    · simp only [getH_cons, x1, x2, if_true, if_false]; rfl
    · simp only; omega
    · simp only [getE_cons, Nat.reduceEqDiff, if_false, if_true, f1]
    · simp only [getE_cons, Nat.reduceEqDiff, if_false, if_true, f6]
    · simp only [getE_cons, Nat.reduceEqDiff, if_false, if_true, f7]
    · simp only [getE_cons, Nat.reduceEqDiff, if_false, if_true, f8]
    · simp only [getE_cons, Nat.reduceEqDiff, if_false, if_true, f10]
    · simp only [getE_cons, Nat.reduceEqDiff, if_false, if_true]
    · simp only [getE_cons, Nat.reduceEqDiff, if_false, if_true]
  have h8 : ((8 : Int) = 0) = False := by simp
  obtain ⟨B, hB⟩ : ∃ B, (a.n.tmod 8 == 3) = B := ⟨_, rfl⟩
  have toQ : ∀ (x : Ex) (s' : St), (match x with | .normal => Q .normal s' | _ => False) → Q x s' := by
    intro x s' hx
    cases x with
    | normal => exact hx
    | exit _ => exact hx.elim
    | ret => exact hx.elim
  refine wp_seq (wp_seq (wp_sq ?_))
  iterate 4 (refine sq_cons rfl ?_; simp only [ZS, Ez.lenD, Ez.appR, Ez.appD, Ez.srcOf, Ez.cpyD, Ez.frzV, Ez.frz, Ez.frz1, Ez.splice, if_true, if_false, Ez.intBin, Nat.reduceEqDiff, reduceIte, Nat.reduceAdd, Nat.reduceMul, Nat.reduceLeDiff, reduceCtorEq, Int.reduceLE, Int.reduceToNat, Nat.reduceSub, Bool.not_true, Bool.not_false, g9, ha', h8, hB])
  cases B
  · refine sq_nil (wp_condF rfl (wp_skip ((rest _ _ 0 128 rfl (by omega) ?_ ?_ ?_ ?_ ?_ ?_ ?_).mono toQ)))
    · omega
    · simp only [getE_cons, Nat.reduceEqDiff, if_false, if_true, g1]
    · simp only [getE_cons, Nat.reduceEqDiff, if_false, if_true, g6]
    · simp only [getE_cons, Nat.reduceEqDiff, if_false, if_true, g7]
    · simp only [getE_cons, Nat.reduceEqDiff, if_false, if_true, g8]
    · simp only [getE_cons, Nat.reduceEqDiff, if_false, if_true, g10]
    · simp only [getE_cons, Nat.reduceEqDiff, if_false, if_true, g14]
  · have c1 : (1 ≤ 128) = True := by simp
    refine sq_nil (wp_condT rfl (wp_sq ?_))
    iterate 3 (refine sq_cons rfl ?_; simp only [ZS, Ez.lenD, Ez.appR, Ez.appD, Ez.srcOf, Ez.cpyD, Ez.frzV, Ez.frz, Ez.frz1, Ez.splice, if_true, if_false, Ez.intBin, Nat.reduceEqDiff, reduceIte, Nat.reduceAdd, Nat.reduceMul, Nat.reduceLeDiff, reduceCtorEq, Int.reduceLE, Int.reduceToNat, Nat.reduceSub, Bool.not_true, Bool.not_false, g14, gb, c1, hcl])
    refine sq_nil ((rest _ _ 1 127 rfl (by omega) ?_ ?_ ?_ ?_ ?_ ?_ ?_).mono toQ)
    · omega
    · simp only [getE_cons, Nat.reduceEqDiff, if_false, if_true, g1]
    · simp only [getE_cons, Nat.reduceEqDiff, if_false, if_true, g6]
    · simp only [getE_cons, Nat.reduceEqDiff, if_false, if_true, g7]
    · simp only [getE_cons, Nat.reduceEqDiff, if_false, if_true, g8]
    · simp only [getE_cons, Nat.reduceEqDiff, if_false, if_true, g10]
    · simp only [getE_cons, Nat.reduceEqDiff, if_false, if_true]

end Go.Proofs.Ytfphnpelampoeaa.Rw

