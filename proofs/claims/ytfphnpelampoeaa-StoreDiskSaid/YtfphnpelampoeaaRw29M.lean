/-
  A script of operations: the loop and the law.
-/
import Derived.Test.YtfphnpelampoeaaRw28M
set_option linter.unusedVariables false
set_option linter.unusedSimpArgs false
namespace Go.Proofs.Ytfphnpelampoeaa.Rw
open Go Go.Ez

theorem BoxQ.len {h : Heap} {N p q : Nat} {d : Dk} {X : D} (hb : BoxQ h N p q d X) : Ez.lenD false X = some (dInt d.l.length) := by
  rcases hb.2 with rfl | ⟨rid, rfl, _⟩ <;> rfl

theorem d9_round {F : Tab} (hF : F.code = code) (hN : ∀ f vs, f ≠ 10 → F.nat f vs = none) {Q : Ex → St → Prop} {e : Env} {h : Heap} {N p q i : Nat} {X : D} {d : Dk} (hd : d.Ok) (hp : getH h p = .box [.c (secsS d.l), .c (.lit (.bool d.de)), .c (.lit (.bool d.ar)), .c (.lit (.int .i64 d.le))]) (hq : BoxQ h N p q d X) (hpq : p ≠ q) (pN : p < N) (qN : q < N) (l : List Act) (hl : l.length ≤ 40) (hi : i < l.length)
    (e1 : getE e 1 = .c (.slice (actsC l) l.length)) (e6 : getE e 6 = .loc p 0) (e7 : getE e 7 = .loc q 0) (e8 : getE e 8 = .c (.lit (.int .i64 (i : Int))))
    (hQ : ∀ (s : St) (d' : Dk) (X' : D), d'.Ok → getH s.heap p = .box [.c (secsS d'.l), .c (.lit (.bool d'.de)), .c (.lit (.bool d'.ar)), .c (.lit (.int .i64 d'.le))] → BoxQ s.heap s.nx p q d' X' → N ≤ s.nx → getE s.env 1 = .c (.slice (actsC l) l.length) → getE s.env 6 = .loc p 0 → getE s.env 7 = .loc q 0 → getE s.env 8 = .c (.lit (.int .i64 ((i + 1 : Nat) : Int))) → Q .normal s) : WP F B9_1 ⟨e, h, N⟩ Q := by
  obtain ⟨a, hat⟩ := actsC_at i l hi
  have hlt : decide ((i : Int) < (l.length : Int)) = true := by simpa using hi
  have hlt' : ((i : Int) < (l.length : Int)) = True := by simpa using hi
  have hw : IntKind.wrap .i64 ((i : Int) + 1) = ((i + 1 : Nat) : Int) := by rw [Go.Proofs.Ytfphnpelampoeaa.wrap_i64 _ (by omega)]; rfl
  have hq1 := hq.1
  have hlen := hq.len
  have n1 : ∀ c, (N + c = p) = False := fun c => by simp; omega
  have n2 : ∀ c, (N + c = q) = False := fun c => by simp; omega
  have n4 : ∀ c, (p = N + c) = False := fun c => by simp; omega
  have n5 : ∀ c, (q = N + c) = False := fun c => by simp; omega
  have hwL : IntKind.wrap .u64 (d.l.length : Int) = (d.l.length : Int) := wrap_u64 _ (by have := hd.few; omega)
  have hL0 : ((d.l.length : Int) = 0) = False := eq_false (by have := hd.one; omega)
  unfold B9_1
  refine wp_seq (wp_seq (wp_sq ?_))
  iterate 4 (refine sq_cons rfl ?_; simp only [ZS, Ez.lenD, Ez.appR, Ez.appD, Ez.srcOf, Ez.cpyD, Ez.frzV, Ez.frz, Ez.frz1, Ez.splice, if_true, if_false, Ez.intBin, Nat.reduceEqDiff, reduceIte, Nat.reduceAdd, Nat.reduceMul, Nat.reduceLeDiff, reduceCtorEq, Int.reduceLE, Int.reduceToNat, Nat.reduceSub, Bool.not_true, Bool.not_false, e1, e8, hlt])
  refine sq_nil (wp_condT rfl (wp_skip ?_))
  refine wp_seq (wp_block (wp_seq (wp_sq ?_)))
  iterate 6 (refine sq_cons rfl ?_; simp only [ZS, Ez.lenD, Ez.appR, Ez.appD, Ez.srcOf, Ez.cpyD, Ez.frzV, Ez.frz, Ez.frz1, Ez.splice, if_true, if_false, Ez.intBin, Nat.reduceEqDiff, reduceIte, Nat.reduceAdd, Nat.reduceMul, Nat.reduceLeDiff, reduceCtorEq, Int.reduceLE, Int.reduceToNat, Nat.reduceSub, Bool.not_true, Bool.not_false, e1, e8, hlt', hat])
  refine sq_nil (wp_seq (wp_sq ?_))
  iterate 3 (refine sq_cons rfl ?_; simp only [ZS, Ez.lenD, Ez.appR, Ez.appD, Ez.srcOf, Ez.cpyD, Ez.frzV, Ez.frz, Ez.frz1, Ez.splice, if_true, if_false, Ez.intBin, Nat.reduceEqDiff, reduceIte, Nat.reduceAdd, Nat.reduceMul, Nat.reduceLeDiff, reduceCtorEq, Int.reduceLE, Int.reduceToNat, Nat.reduceSub, Bool.not_true, Bool.not_false])
  refine sq_nil (wp_seq ?_)
  have rest : ∀ (e' : Env) (hh : Heap) (N' : Nat) (z : Int), (∀ x, x < N → getH hh x = getH h x) → getH hh (N + 8) = .box [.c (.lit (.int .i64 a.what)), .c (.lit (.int .i64 a.at_)), .c (.lit (.int .i64 a.n)), .c (.lit (.int .u64 (a.keep : Int))), .c (.lit (.int .u64 (a.torn : Int))), .c (.lit (.int .u8 a.x))] → N + 13 ≤ N' → getE e' 1 = .c (.slice (actsC l) l.length) → getE e' 6 = .loc p 0 → getE e' 7 = .loc q 0 → getE e' 8 = .c (.lit (.int .i64 (i : Int))) → getE e' 9 = .loc (N + 8) 0 → getE e' 10 = .c (.lit (.int .i64 z)) →
      WP F (match B9_1 with | .seq _ (.seq (.block _ (.seq _ (.seq _ (.seq _ c)))) _) => c | _ => .skip) ⟨e', hh, N'⟩ fun x s => match x with | .normal => WP F (match B9_1 with | .seq _ (.seq _ c) => c | _ => .skip) s Q | _ => False := by
    intro e' hh N' z hf hab hN' f1 f6 f7 f8 f9 f10
    have hp' : getH hh p = .box [.c (secsS d.l), .c (.lit (.bool d.de)), .c (.lit (.bool d.ar)), .c (.lit (.int .i64 d.le))] := by rw [hf p pN]; exact hp
    have hqq : BoxQ hh N' p q d X := hq.mono (by omega) qN hpq fun x hx _ => hf x hx
    simp only [B9_1]
    refine wp_seq (wp_sq ?_)
    iterate 2 (refine sq_cons rfl ?_; simp only [ZS, Ez.lenD, Ez.appR, Ez.appD, Ez.srcOf, Ez.cpyD, Ez.frzV, Ez.frz, Ez.frz1, Ez.splice, if_true, if_false, Ez.intBin, Nat.reduceEqDiff, reduceIte, Nat.reduceAdd, Nat.reduceMul, Nat.reduceLeDiff, reduceCtorEq, Int.reduceLE, Int.reduceToNat, Nat.reduceSub, Bool.not_true, Bool.not_false])
    refine sq_nil (wp_seq (wp_seq (wp_sq ?_)))
    iterate 2 (refine sq_cons rfl ?_; simp only [ZS, Ez.lenD, Ez.appR, Ez.appD, Ez.srcOf, Ez.cpyD, Ez.frzV, Ez.frz, Ez.frz1, Ez.splice, if_true, if_false, Ez.intBin, Nat.reduceEqDiff, reduceIte, Nat.reduceAdd, Nat.reduceMul, Nat.reduceLeDiff, reduceCtorEq, Int.reduceLE, Int.reduceToNat, Nat.reduceSub, Bool.not_true, Bool.not_false, f9, hab])
    refine sq_nil (wp_block ((w9 hF hN (p := p) (q := q) (ab := N + 8) (z := z) (d := d) hd a hp' (X := X) ?_ hpq ?_ ?_ ?_ ?_ ?_ hab ?_ ?_ ?_ ?_ ?_ ?_ ?_ (Q := fun x s => match x with | .normal => WP F T9 s (fun x s => match x with | .normal => WP F (.region [⟨(some 46), .mov (.t 8), none⟩, ⟨(some 47), .bin .add false (.t 46) (.k (.int .i64 1)), none⟩, ⟨(some 8), .mov (.t 47), none⟩]) s Q | _ => False) | _ => False) ?_).mono ?_))
    · exact hqq.mono (by omega) (by omega) hpq fun _ _ _ => rfl
    · omega
    · omega
    · omega
    · omega
    · omega
    · simp only [getE_cons, Nat.reduceEqDiff, if_false, if_true, f6]
    · simp only [getE_cons, Nat.reduceEqDiff, if_false, if_true, f7]
    · simp only [getE_cons, Nat.reduceEqDiff, if_false, if_true, f9]
    · simp only [getE_cons, Nat.reduceEqDiff, if_false, if_true, f10]
    · simp only [getE_cons, Nat.reduceEqDiff, if_false, if_true]
    · simp only [getE_cons, Nat.reduceEqDiff, if_false, if_true]
    · simp only [getE_cons, Nat.reduceEqDiff, if_false, if_true]
    · intro s d' X' err hd' hp'' hq'' gN g1 g6 g7 g8 g10 g11 g12
      obtain ⟨se, sh, sn⟩ := s
      simp only at gN g1 g6 g7 g8 g10 g11 g12 hp'' hq''
      have t := t9 hF hN (Q := fun x s => match x with | .normal => WP F (.region [⟨(some 46), .mov (.t 8), none⟩, ⟨(some 47), .bin .add false (.t 46) (.k (.int .i64 1)), none⟩, ⟨(some 8), .mov (.t 47), none⟩]) s Q | _ => False) hd' hp'' hq'' g6 g7 g10 g11 g12 ?_
      · exact t
      · intro s k1 kN k2 k6 k7 k8
        obtain ⟨te, th, tn⟩ := s
        simp only at k1 kN k2 k6 k7 k8
        subst k1
        have k8' : getE te 8 = .c (.lit (.int .i64 (i : Int))) := by rw [k8, g8]; simp only [getE_cons, Nat.reduceEqDiff, if_false, if_true, f8]
        refine wp_sq ?_
        iterate 3 (refine sq_cons rfl ?_; simp only [ZS, Ez.lenD, Ez.appR, Ez.appD, Ez.srcOf, Ez.cpyD, Ez.frzV, Ez.frz, Ez.frz1, Ez.splice, if_true, if_false, Ez.intBin, Nat.reduceEqDiff, reduceIte, Nat.reduceAdd, Nat.reduceMul, Nat.reduceLeDiff, reduceCtorEq, Int.reduceLE, Int.reduceToNat, Nat.reduceSub, Bool.not_true, Bool.not_false, k8', hw])
        refine sq_nil (hQ _ d' X' hd' hp'' (hq''.mono (by simp only; omega) (by omega) hpq fun _ _ _ => rfl) ?_ ?_ ?_ ?_ ?_)
        · simp only; omega
        · simp only [getE_cons, Nat.reduceEqDiff, if_false, if_true, k2, g1, f1]
        · simp only [getE_cons, Nat.reduceEqDiff, if_false, if_true, k6, g6]
        · simp only [getE_cons, Nat.reduceEqDiff, if_false, if_true, k7, g7]
        · simp only [getE_cons, Nat.reduceEqDiff, if_false, if_true]
    · intro x s' hx
      cases x with
      | normal => exact hx
      | exit _ => exact hx.elim
      | ret => exact hx.elim
  have wrap : ∀ {c : ICode} {s : St}, WP F c s (fun x s => match x with | .normal => WP F (match B9_1 with | .seq _ (.seq _ c) => c | _ => .skip) s Q | _ => False) → WP F c s (fun x s1 => match x with | .normal => WP F (match B9_1 with | .seq _ (.seq _ c) => c | _ => .skip) s1 Q | .exit id' => (if id' = 1 then WP F (match B9_1 with | .seq _ (.seq _ c) => c | _ => .skip) s1 Q else Q (.exit id') s1) | .ret => Q .ret s1) := by
    intro c s hw
    refine hw.mono fun x s' hx => ?_
    cases x with
    | normal => exact hx
    | exit id => exact hx.elim
    | ret => exact hx.elim
  obtain ⟨X1, y1⟩ : ∃ X1, decide (a.at_ < -1) = X1 := ⟨_, rfl⟩
  obtain ⟨X2, y2⟩ : ∃ X2, decide (a.at_ > (d.l.length : Int)) = X2 := ⟨_, rfl⟩
  have hhf : ∀ x, x < N → getH ((N + 8, .box [.c (.lit (.int .i64 a.what)), .c (.lit (.int .i64 a.at_)), .c (.lit (.int .i64 a.n)), .c (.lit (.int .u64 (a.keep : Int))), .c (.lit (.int .u64 (a.torn : Int))), .c (.lit (.int .u8 a.x))]) :: (N + 8, .box [.c (.lit (.int .i64 0)), .c (.lit (.int .i64 0)), .c (.lit (.int .i64 0)), .c (.lit (.int .u64 0)), .c (.lit (.int .u64 0)), .c (.lit (.int .u8 0))]) :: h) x = getH h x := fun x hx => by simp only [getH_cons, show (N + 8 = x) = False by simp; omega, if_false]
  refine wp_seq (wp_sq ?_)
  cases X1
  · cases X2
    · iterate 9 (first | (refine sq_yes rfl (sq_cons rfl ?_); simp only [ZS, Ez.appR, Ez.appD, Ez.srcOf, Ez.cpyD, Ez.frzV, Ez.frz, Ez.frz1, Ez.splice, if_true, if_false, Ez.intBin, Nat.reduceEqDiff, reduceIte, Nat.reduceAdd, Nat.reduceMul, Nat.reduceLeDiff, reduceCtorEq, Int.reduceLE, Int.reduceToNat, Nat.reduceSub, Bool.not_true, Bool.not_false, y1, y2, e7, hq1, n1, n2, n4, n5, hlen]) | (refine sq_cons rfl ?_; simp only [ZS, Ez.appR, Ez.appD, Ez.srcOf, Ez.cpyD, Ez.frzV, Ez.frz, Ez.frz1, Ez.splice, if_true, if_false, Ez.intBin, Nat.reduceEqDiff, reduceIte, Nat.reduceAdd, Nat.reduceMul, Nat.reduceLeDiff, reduceCtorEq, Int.reduceLE, Int.reduceToNat, Nat.reduceSub, Bool.not_true, Bool.not_false, y1, y2, e7, hq1, n1, n2, n4, n5, hlen]) | (refine sq_no rfl ?_; simp only [Ez.putE, Ez.undefD]))
      refine sq_nil (wp_condF rfl (wp_skip (wrap (rest _ _ _ a.at_ hhf ?_ ?_ ?_ ?_ ?_ ?_ ?_ ?_))))
      · simp only [getH_cons, if_true]
      · omega
      · simp only [getE_cons, Nat.reduceEqDiff, if_false, if_true, e1]
      · simp only [getE_cons, Nat.reduceEqDiff, if_false, if_true, e6]
      · simp only [getE_cons, Nat.reduceEqDiff, if_false, if_true, e7]
      · simp only [getE_cons, Nat.reduceEqDiff, if_false, if_true, e8]
      · simp only [getE_cons, Nat.reduceEqDiff, if_false, if_true]
      · simp only [getE_cons, Nat.reduceEqDiff, if_false, if_true]
    · iterate 9 (first | (refine sq_yes rfl (sq_cons rfl ?_); simp only [ZS, Ez.appR, Ez.appD, Ez.srcOf, Ez.cpyD, Ez.frzV, Ez.frz, Ez.frz1, Ez.splice, if_true, if_false, Ez.intBin, Nat.reduceEqDiff, reduceIte, Nat.reduceAdd, Nat.reduceMul, Nat.reduceLeDiff, reduceCtorEq, Int.reduceLE, Int.reduceToNat, Nat.reduceSub, Bool.not_true, Bool.not_false, y1, y2, e7, hq1, n1, n2, n4, n5, hlen]) | (refine sq_cons rfl ?_; simp only [ZS, Ez.appR, Ez.appD, Ez.srcOf, Ez.cpyD, Ez.frzV, Ez.frz, Ez.frz1, Ez.splice, if_true, if_false, Ez.intBin, Nat.reduceEqDiff, reduceIte, Nat.reduceAdd, Nat.reduceMul, Nat.reduceLeDiff, reduceCtorEq, Int.reduceLE, Int.reduceToNat, Nat.reduceSub, Bool.not_true, Bool.not_false, y1, y2, e7, hq1, n1, n2, n4, n5, hlen]) | (refine sq_no rfl ?_; simp only [Ez.putE, Ez.undefD]))
      refine sq_nil (wp_condT rfl (wp_sq ?_))
      iterate 8 (refine sq_cons rfl ?_; simp only [ZS, Ez.appR, Ez.appD, Ez.srcOf, Ez.cpyD, Ez.frzV, Ez.frz, Ez.frz1, Ez.splice, if_true, if_false, Ez.intBin, Nat.reduceEqDiff, reduceIte, Nat.reduceAdd, Nat.reduceMul, Nat.reduceLeDiff, reduceCtorEq, Int.reduceLE, Int.reduceToNat, Nat.reduceSub, Bool.not_true, Bool.not_false, e7, hq1, n1, n2, n4, n5, hlen, hwL, hL0])
      iterate 1 (refine sq_cons rfl ?_; simp only [ZS, Ez.appR, Ez.appD, Ez.srcOf, Ez.cpyD, Ez.frzV, Ez.frz, Ez.frz1, Ez.splice, if_true, if_false, Ez.intBin, Nat.reduceEqDiff, reduceIte, Nat.reduceAdd, Nat.reduceMul, Nat.reduceLeDiff, reduceCtorEq, Int.reduceLE, Int.reduceToNat, Nat.reduceSub, Bool.not_true, Bool.not_false])
      refine sq_nil (wrap (rest _ _ _ (IntKind.wrap .i64 ((IntKind.wrap .u64 a.at_).tmod (d.l.length : Int))) hhf ?_ ?_ ?_ ?_ ?_ ?_ ?_ ?_))
      · simp only [getH_cons, if_true]
      · omega
      · simp only [getE_cons, Nat.reduceEqDiff, if_false, if_true, e1]
      · simp only [getE_cons, Nat.reduceEqDiff, if_false, if_true, e6]
      · simp only [getE_cons, Nat.reduceEqDiff, if_false, if_true, e7]
      · simp only [getE_cons, Nat.reduceEqDiff, if_false, if_true, e8]
      · simp only [getE_cons, Nat.reduceEqDiff, if_false, if_true]
      · simp only [getE_cons, Nat.reduceEqDiff, if_false, if_true]
  · iterate 9 (first | (refine sq_yes rfl (sq_cons rfl ?_); simp only [ZS, Ez.appR, Ez.appD, Ez.srcOf, Ez.cpyD, Ez.frzV, Ez.frz, Ez.frz1, Ez.splice, if_true, if_false, Ez.intBin, Nat.reduceEqDiff, reduceIte, Nat.reduceAdd, Nat.reduceMul, Nat.reduceLeDiff, reduceCtorEq, Int.reduceLE, Int.reduceToNat, Nat.reduceSub, Bool.not_true, Bool.not_false, y1, y2, e7, hq1, n1, n2, n4, n5, hlen]) | (refine sq_cons rfl ?_; simp only [ZS, Ez.appR, Ez.appD, Ez.srcOf, Ez.cpyD, Ez.frzV, Ez.frz, Ez.frz1, Ez.splice, if_true, if_false, Ez.intBin, Nat.reduceEqDiff, reduceIte, Nat.reduceAdd, Nat.reduceMul, Nat.reduceLeDiff, reduceCtorEq, Int.reduceLE, Int.reduceToNat, Nat.reduceSub, Bool.not_true, Bool.not_false, y1, y2, e7, hq1, n1, n2, n4, n5, hlen]) | (refine sq_no rfl ?_; simp only [Ez.putE, Ez.undefD]))
    refine sq_nil (wp_condT rfl (wp_sq ?_))
    iterate 8 (refine sq_cons rfl ?_; simp only [ZS, Ez.appR, Ez.appD, Ez.srcOf, Ez.cpyD, Ez.frzV, Ez.frz, Ez.frz1, Ez.splice, if_true, if_false, Ez.intBin, Nat.reduceEqDiff, reduceIte, Nat.reduceAdd, Nat.reduceMul, Nat.reduceLeDiff, reduceCtorEq, Int.reduceLE, Int.reduceToNat, Nat.reduceSub, Bool.not_true, Bool.not_false, e7, hq1, n1, n2, n4, n5, hlen, hwL, hL0])
    iterate 1 (refine sq_cons rfl ?_; simp only [ZS, Ez.appR, Ez.appD, Ez.srcOf, Ez.cpyD, Ez.frzV, Ez.frz, Ez.frz1, Ez.splice, if_true, if_false, Ez.intBin, Nat.reduceEqDiff, reduceIte, Nat.reduceAdd, Nat.reduceMul, Nat.reduceLeDiff, reduceCtorEq, Int.reduceLE, Int.reduceToNat, Nat.reduceSub, Bool.not_true, Bool.not_false])
    refine sq_nil (wrap (rest _ _ _ (IntKind.wrap .i64 ((IntKind.wrap .u64 a.at_).tmod (d.l.length : Int))) hhf ?_ ?_ ?_ ?_ ?_ ?_ ?_ ?_))
    · simp only [getH_cons, if_true]
    · omega
    · simp only [getE_cons, Nat.reduceEqDiff, if_false, if_true, e1]
    · simp only [getE_cons, Nat.reduceEqDiff, if_false, if_true, e6]
    · simp only [getE_cons, Nat.reduceEqDiff, if_false, if_true, e7]
    · simp only [getE_cons, Nat.reduceEqDiff, if_false, if_true, e8]
    · simp only [getE_cons, Nat.reduceEqDiff, if_false, if_true]
    · simp only [getE_cons, Nat.reduceEqDiff, if_false, if_true]

end Go.Proofs.Ytfphnpelampoeaa.Rw

