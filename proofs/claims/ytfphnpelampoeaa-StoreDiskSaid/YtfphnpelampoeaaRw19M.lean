/-
  A crash, by the reference: one sector.
-/
import Derived.Test.YtfphnpelampoeaaRw18M
set_option linter.unusedVariables false
set_option linter.unusedSimpArgs false
namespace Go.Proofs.Ytfphnpelampoeaa.Rw
open Go Go.Ez

/-- what a crash leaves of a sector's data -/
def crashD (T K j : Nat) (s : Sec) : List UInt8 := if s.fresh then (if T.testBit (j % 64) then complB s.data else if K.testBit (j % 64) then s.data else s.sure) else s.data

theorem crashD_len (T K j : Nat) (s : Sec) (h : s.data.length = 128 ∧ s.sure.length = 128) : (crashD T K j s).length = 128 := by
  unfold crashD
  split
  · split
    · simp [complB, h.1]
    · split
      · exact h.1
      · exact h.2
  · exact h.1

/-- the end of a round -/
def T26 : ICode := match B26_1 with | .seq _ (.seq (.block _ (.seq _ (.seq _ c))) _) => c | _ => .skip

theorem splice_mid3 {P R : List D} {A B C x y z : D} : splice (P ++ A :: B :: C :: R) P.length [x, y, z] = P ++ x :: y :: z :: R := by
  simp [splice, List.drop_append, List.drop_eq_nil_of_le (show P.length ≤ P.length + 3 by omega)]

theorem s26_tail (F : Tab) {Q : Ex → St → Prop} {e : Env} {h : Heap} {N q rid sb a b k n : Nat} {P R : List D} {Fc d1 d2 d3 D1 D2 D6 D8 A0 : D} {da : List UInt8} (hda : da.length = 128) (hk : k < n) (hP : P.length = k * 3) (hL : P.length + (R.length + 3) = n * 3) (e1 : getE e 1 = D1) (e2 : getE e 2 = D2) (e6 : getE e 6 = D6) (e7 : getE e 7 = .loc q 0) (e8 : getE e 8 = D8) (e9 : getE e 9 = .c (.lit (.int .i64 (k : Int)))) (e10 : getE e 10 = .loc sb 0)
    (hsb : getH h sb = .box [A0, .arr b 0 128, Fc]) (hb : getH h b = .arr (bytesC da) 1 0 5) (hq : getH h q = .box [.arr rid 0 n, d1, d2, d3]) (hr : getH h rid = .rows (P ++ .arr a 0 128 :: .arr b 0 128 :: Fc :: R) 3 32) (n1 : q < N) (n2 : rid < N) (n3 : sb < N) (n4 : b < N) (m1 : q ≠ rid) (m2 : q ≠ sb) (m3 : rid ≠ sb) (m4 : b ≠ sb) (m5 : b ≠ rid) (m6 : b ≠ q)
    (hQ : ∀ s : St, s.nx = N + 13 → getE s.env 1 = D1 → getE s.env 2 = D2 → getE s.env 6 = D6 → getE s.env 7 = .loc q 0 → getE s.env 8 = D8 → getE s.env 9 = .c (.lit (.int .i64 (k : Int))) → getH s.heap rid = .rows (P ++ .arr (N + 2) 0 128 :: .arr b 0 128 :: .c (.lit (.bool false)) :: R) 3 32 → getH s.heap (N + 2) = .arr (bytesC da) 1 0 5 → (∀ x, x < N → x ≠ rid → x ≠ sb → getH s.heap x = getH h x) → Q .normal s) : WP F T26 ⟨e, h, N⟩ Q := by
  have hbl : (bytesC da).length = 128 := by rw [bytesC_len]; exact hda
  have tb : List.take 128 (bytesC da) = bytesC da := List.take_of_length_le (by omega)
  have f1 : ((k : Int) < (n : Int)) = True := by simpa using hk
  have f2 : (k * 3 + 3 ≤ n * 3) = True := by simp; omega
  have hLL : ∀ x y z : D, (P ++ x :: y :: z :: R).length = n * 3 := fun x y z => by rw [List.length_append]; simp; omega
  have sp3 : ∀ x y z : D, splice (P ++ .arr a 0 128 :: .arr b 0 128 :: Fc :: R) (k * 3) [x, y, z] = P ++ x :: y :: z :: R := fun x y z => by rw [← hP]; exact splice_mid3
  have sb0 : ∀ x y z w : D, splice [x, y, z] 0 [w] = [w, y, z] := fun _ _ _ _ => rfl
  have sb2 : ∀ x y z w : D, splice [x, y, z] 2 [w] = [x, y, w] := fun _ _ _ _ => rfl
  have p1 : ((0 : Nat) < 1) = True := by simp
  have r3 : (128 ≤ roomMax) = True := by simp [roomMax]
  have x1 : (q = rid) = False := by simpa using m1
  have x2 : (rid = q) = False := by simp; omega
  have x3 : (q = sb) = False := by simpa using m2
  have x4 : (sb = q) = False := by simp; omega
  have x5 : (rid = sb) = False := by simpa using m3
  have x6 : (sb = rid) = False := by simp; omega
  have x7 : ∀ c, (N + c = q) = False := fun c => by simp; omega
  have x8 : ∀ c, (N + c = rid) = False := fun c => by simp; omega
  have x9 : ∀ c, (N + c = sb) = False := fun c => by simp; omega
  have xa : ∀ c, (q = N + c) = False := fun c => by simp; omega
  have xb : ∀ c, (rid = N + c) = False := fun c => by simp; omega
  have xc : ∀ c, (sb = N + c) = False := fun c => by simp; omega
  simp only [T26, B26_1]
  refine wp_seq (wp_sq ?_)
  iterate 7 (refine sq_cons rfl ?_; simp only [ZS, Ez.lenD, Ez.appR, Ez.appD, Ez.srcOf, Ez.cpyD, Ez.frzV, Ez.frz, Ez.frz1, if_true, if_false, Ez.intBin, Nat.reduceEqDiff, reduceIte, Nat.reduceAdd, Nat.reduceMul, Nat.reduceLeDiff, reduceCtorEq, Int.reduceLE, Int.reduceToNat, Nat.reduceSub, Bool.not_true, Bool.not_false, e10, hsb, hb, hbl, tb, p1, r3, sb0, sb2, x7, x8, x9, xa, xb, xc])
  refine sq_nil (wp_sq ?_)
  iterate 6 (refine sq_cons rfl ?_; simp only [ZS, Ez.lenD, Ez.appR, Ez.appD, Ez.srcOf, Ez.cpyD, Ez.frzV, Ez.frz, Ez.frz1, if_true, if_false, Ez.intBin, Nat.reduceEqDiff, reduceIte, Nat.reduceAdd, Nat.reduceMul, Nat.reduceLeDiff, reduceCtorEq, Int.reduceLE, Int.reduceToNat, Nat.reduceSub, Bool.not_true, Bool.not_false, e7, e9, e10, hq, hr, f1, f2, hLL, sp3, x1, x2, x3, x4, x5, x6, x7, x8, x9, xa, xb, xc])
  refine sq_nil (hQ _ rfl ?_ ?_ ?_ ?_ ?_ ?_ ?_ ?_ ?_)
  · simp only [getE_cons, Nat.reduceEqDiff, if_false, if_true, e1]
  · simp only [getE_cons, Nat.reduceEqDiff, if_false, if_true, e2]
  · simp only [getE_cons, Nat.reduceEqDiff, if_false, if_true, e6]
  · simp only [getE_cons, Nat.reduceEqDiff, if_false, if_true, e7]
  · simp only [getE_cons, Nat.reduceEqDiff, if_false, if_true, e8]
  · simp only [getE_cons, Nat.reduceEqDiff, if_false, if_true, e9]
  · simp only [getH_cons, if_true]
  · simp only [getH_cons, xb, xc, if_true, if_false]
  · intro x y1 y2 y3
    simp only [getH_cons, show (rid = x) = False by simp; omega, show (sb = x) = False by simp; omega, show (N + 2 = x) = False by simp; omega, if_false]

/-- the choice -/
def X26 : ICode := match B26_1 with | .seq _ (.seq (.block _ (.seq _ (.seq c _))) _) => c | _ => .skip

theorem s26_choice (F : Tab) {Q : Ex → St → Prop} {e : Env} {h : Heap} {N sb a b T K j : Nat} {D6 D7 D9 : D} {sec : Sec} (hT : T < 18446744073709551616) (hK : K < 18446744073709551616) (hj : j < 100000) (hl : sec.data.length = 128 ∧ sec.sure.length = 128) (e1 : getE e 1 = .c (.lit (.int .u64 (K : Int)))) (e2 : getE e 2 = .c (.lit (.int .u64 (T : Int)))) (e6 : getE e 6 = D6) (e7 : getE e 7 = D7) (e8 : getE e 8 = .c (.lit (.int .i64 (j : Int)))) (e9 : getE e 9 = D9) (e10 : getE e 10 = .loc sb 0)
    (hsb : getH h sb = .box [.arr a 0 128, .arr b 0 128, .c (.lit (.bool sec.fresh))]) (ha : getH h a = .arr (bytesC sec.sure) 1 0 5) (hb : getH h b = .arr (bytesC sec.data) 1 0 5) (m1 : sb ≠ b) (m2 : a ≠ b)
    (hQ : ∀ s : St, N ≤ s.nx → getE s.env 1 = .c (.lit (.int .u64 (K : Int))) → getE s.env 2 = .c (.lit (.int .u64 (T : Int))) → getE s.env 6 = D6 → getE s.env 7 = D7 → getE s.env 8 = .c (.lit (.int .i64 ((if sec.fresh then j + 1 else j : Nat) : Int))) → getE s.env 9 = D9 → getE s.env 10 = .loc sb 0 → getH s.heap b = .arr (bytesC (crashD T K j sec)) 1 0 5 → (∀ x, x ≠ b → getH s.heap x = getH h x) → Q .normal s) : WP F X26 ⟨e, h, N⟩ Q := by
  have z64 : ((64 : Int) = 0) = False := by simp
  have hrem : intBin .rem .i64 (j : Int) 64 = some (.int .i64 ((j % 64 : Nat) : Int)) := rfl
  have hjs : j % 64 < 64 := Nat.mod_lt _ (by omega)
  have hshT := shr_u64 T (j % 64) hjs
  have hshK := shr_u64 K (j % 64) hjs
  have handT : intBin .and .u64 ((T / 2 ^ (j % 64) : Nat) : Int) 1 = some (.int .u64 ((T / 2 ^ (j % 64) % 2 : Nat) : Int)) := by
    have := and_u64 (T / 2 ^ (j % 64)) 1 (Nat.lt_of_le_of_lt (Nat.div_le_self _ _) hT) (by omega)
    rw [Nat.and_one_is_mod] at this
    exact this
  have handK : intBin .and .u64 ((K / 2 ^ (j % 64) : Nat) : Int) 1 = some (.int .u64 ((K / 2 ^ (j % 64) % 2 : Nat) : Int)) := by
    have := and_u64 (K / 2 ^ (j % 64)) 1 (Nat.lt_of_le_of_lt (Nat.div_le_self _ _) hK) (by omega)
    rw [Nat.and_one_is_mod] at this
    exact this
  have heqT : intBin .eql .u64 ((T / 2 ^ (j % 64) % 2 : Nat) : Int) 1 = some (.bool (T.testBit (j % 64))) := by
    show some (Value.bool (((T / 2 ^ (j % 64) % 2 : Nat) : Int) == 1)) = _
    congr 2
    rw [Nat.testBit_eq_decide_div_mod_eq]
    by_cases h : T / 2 ^ (j % 64) % 2 = 1
    · rw [h]; rfl
    · have h0 : T / 2 ^ (j % 64) % 2 = 0 := by omega
      rw [h0]; rfl
  have heqK : intBin .eql .u64 ((K / 2 ^ (j % 64) % 2 : Nat) : Int) 0 = some (.bool (!K.testBit (j % 64))) := by
    show some (Value.bool (((K / 2 ^ (j % 64) % 2 : Nat) : Int) == 0)) = _
    congr 2
    rw [Nat.testBit_eq_decide_div_mod_eq]
    by_cases h : K / 2 ^ (j % 64) % 2 = 1
    · rw [h]; rfl
    · have h0 : K / 2 ^ (j % 64) % 2 = 0 := by omega
      rw [h0]; rfl
  have hw : intBin .add .i64 (j : Int) 1 = some (.int .i64 ((j + 1 : Nat) : Int)) := by
    show some (Value.int .i64 (IntKind.wrap .i64 ((j : Int) + 1))) = _
    rw [Go.Proofs.Ytfphnpelampoeaa.wrap_i64 _ (by omega)]; rfl
  have tbs : List.take 128 (bytesC sec.sure) = bytesC sec.sure := List.take_of_length_le (by rw [bytesC_len]; omega)
  have hls : (bytesC sec.sure).length = 128 := by rw [bytesC_len]; exact hl.2
  have hld : (bytesC sec.data).length = 128 := by rw [bytesC_len]; exact hl.1
  have x1 : (sb = b) = False := by simpa using m1
  have x2 : (b = sb) = False := by simp; omega
  simp only [X26, B26_1]
  refine wp_seq (wp_sq ?_)
  iterate 2 (refine sq_cons rfl ?_; simp only [ZS, Ez.lenD, Ez.appR, Ez.appD, Ez.srcOf, Ez.cpyD, Ez.frzV, Ez.frz, Ez.frz1, if_true, if_false, Nat.reduceEqDiff, reduceIte, Nat.reduceAdd, Nat.reduceMul, Nat.reduceLeDiff, reduceCtorEq, Int.reduceLE, Int.reduceToNat, Nat.reduceSub, Bool.not_true, Bool.not_false, e10, hsb])
  cases hfr : sec.fresh with
  | false =>
    refine sq_nil (wp_condF (by simp only [Ez.evX, getE_cons, Nat.reduceEqDiff, if_false, if_true, hfr]) (wp_skip ?_))
    refine hQ _ ?_ ?_ ?_ ?_ ?_ ?_ ?_ ?_ ?_ ?_
    · simp only; omega
    · simp only [getE_cons, Nat.reduceEqDiff, if_false, if_true, e1]
    · simp only [getE_cons, Nat.reduceEqDiff, if_false, if_true, e2]
    · simp only [getE_cons, Nat.reduceEqDiff, if_false, if_true, e6]
    · simp only [getE_cons, Nat.reduceEqDiff, if_false, if_true, e7]
    · simp only [getE_cons, Nat.reduceEqDiff, if_false, if_true, e8, hfr]; rfl
    · simp only [getE_cons, Nat.reduceEqDiff, if_false, if_true, e9]
    · simp only [getE_cons, Nat.reduceEqDiff, if_false, if_true, e10]
    · simp only [crashD, hfr, Bool.false_eq_true, if_false]; exact hb
    · intro x _; rfl
  | true =>
    refine sq_nil (wp_condT (by simp only [Ez.evX, getE_cons, Nat.reduceEqDiff, if_false, if_true, hfr]) (wp_seq (wp_block (wp_seq (wp_sq ?_)))))
    iterate 7 (refine sq_cons rfl ?_; simp only [ZS, Ez.lenD, Ez.appR, Ez.appD, Ez.srcOf, Ez.cpyD, Ez.frzV, Ez.frz, Ez.frz1, if_true, if_false, Nat.reduceEqDiff, reduceIte, Nat.reduceAdd, Nat.reduceMul, Nat.reduceLeDiff, reduceCtorEq, Int.reduceLE, Int.reduceToNat, Nat.reduceSub, Bool.not_true, Bool.not_false, e2, e8, hrem, hshT, handT, heqT])
    have inc : ∀ (e' : Env) (h' : Heap) (N' : Nat), N ≤ N' → getE e' 1 = .c (.lit (.int .u64 (K : Int))) → getE e' 2 = .c (.lit (.int .u64 (T : Int))) → getE e' 6 = D6 → getE e' 7 = D7 → getE e' 8 = .c (.lit (.int .i64 (j : Int))) → getE e' 9 = D9 → getE e' 10 = .loc sb 0 → getH h' b = .arr (bytesC (crashD T K j sec)) 1 0 5 → (∀ x, x ≠ b → getH h' x = getH h x) →
        WP F (.region [⟨(some 64), .mov (.t 8), none⟩, ⟨(some 65), .bin .add false (.t 64) (.k (.int .i64 1)), none⟩, ⟨(some 8), .mov (.t 65), none⟩]) ⟨e', h', N'⟩ Q := by
      intro e' h' N' k0 k1 k2 k6 k7 k8 k9 k10 kb kf
      refine wp_sq ?_
      iterate 3 (refine sq_cons rfl ?_; simp only [ZS, Ez.lenD, Ez.appR, Ez.appD, Ez.srcOf, Ez.cpyD, Ez.frzV, Ez.frz, Ez.frz1, if_true, if_false, Nat.reduceEqDiff, reduceIte, Nat.reduceAdd, Nat.reduceMul, Nat.reduceLeDiff, reduceCtorEq, Int.reduceLE, Int.reduceToNat, Nat.reduceSub, Bool.not_true, Bool.not_false, k8, hw])
      refine sq_nil (hQ _ ?_ ?_ ?_ ?_ ?_ ?_ ?_ ?_ ?_ ?_)
      · simp only; omega
      · simp only [getE_cons, Nat.reduceEqDiff, if_false, if_true, k1]
      · simp only [getE_cons, Nat.reduceEqDiff, if_false, if_true, k2]
      · simp only [getE_cons, Nat.reduceEqDiff, if_false, if_true, k6]
      · simp only [getE_cons, Nat.reduceEqDiff, if_false, if_true, k7]
      · simp only [getE_cons, Nat.reduceEqDiff, if_false, if_true, hfr]
      · simp only [getE_cons, Nat.reduceEqDiff, if_false, if_true, k9]
      · simp only [getE_cons, Nat.reduceEqDiff, if_false, if_true, k10]
      · exact kb
      · exact kf
    cases hbt : T.testBit (j % 64) with
    | true =>
      refine sq_nil (wp_condT (by simp only [Ez.evX, getE_cons, Nat.reduceEqDiff, if_false, if_true, hbt]) (wp_seq (wp_sq ?_)))
      iterate 1 (refine sq_cons rfl ?_; simp only [ZS, Ez.lenD, Ez.appR, Ez.appD, Ez.srcOf, Ez.cpyD, Ez.frzV, Ez.frz, Ez.frz1, if_true, if_false, Nat.reduceEqDiff, reduceIte, Nat.reduceAdd, Nat.reduceMul, Nat.reduceLeDiff, reduceCtorEq, Int.reduceLE, Int.reduceToNat, Nat.reduceSub, Bool.not_true, Bool.not_false])
      refine sq_nil (wp_block (s26i_loop F (D1 := .c (.lit (.int .u64 (K : Int)))) (D2 := .c (.lit (.int .u64 (T : Int)))) (D6 := D6) (D7 := D7) (D8 := .c (.lit (.int .i64 (j : Int)))) (D9 := D9) (A := .arr a 0 128) (Fc := .c (.lit (.bool sec.fresh))) (da := sec.data) (sb := sb) (b := b) hl.1 m1 h N ?_ 128 0 _ _ _ (by omega) (by omega) (by simp only [getE_cons, Nat.reduceEqDiff, if_false, if_true, e1]) (by simp only [getE_cons, Nat.reduceEqDiff, if_false, if_true, e2]) (by simp only [getE_cons, Nat.reduceEqDiff, if_false, if_true, e6]) (by simp only [getE_cons, Nat.reduceEqDiff, if_false, if_true, e7]) (by simp only [getE_cons, Nat.reduceEqDiff, if_false, if_true, e8]) (by simp only [getE_cons, Nat.reduceEqDiff, if_false, if_true, e9]) (by simp only [getE_cons, Nat.reduceEqDiff, if_false, if_true, e10]) (by simp only [getE_cons, Nat.reduceEqDiff, if_false, if_true]; rfl) hsb (by simp only [cplK, List.take_zero, List.drop_zero]; exact hb) (fun _ _ => rfl)))
      intro s g0 g1 g2 g6 g7 g8 g9 g10 gb gf
      obtain ⟨se, sh, sn⟩ := s
      simp only at g0 g1 g2 g6 g7 g8 g9 g10 gb gf
      simp only [if_true]
      exact inc se sh sn g0 g1 g2 g6 g7 g8 g9 g10 (by rw [gb]; simp only [crashD, hfr, hbt, if_true]) gf
    | false =>
      refine sq_nil (wp_condF (by simp only [Ez.evX, getE_cons, Nat.reduceEqDiff, if_false, if_true, hbt]) (wp_seq (wp_sq ?_)))
      iterate 7 (refine sq_cons rfl ?_; simp only [ZS, Ez.lenD, Ez.appR, Ez.appD, Ez.srcOf, Ez.cpyD, Ez.frzV, Ez.frz, Ez.frz1, if_true, if_false, Nat.reduceEqDiff, reduceIte, Nat.reduceAdd, Nat.reduceMul, Nat.reduceLeDiff, reduceCtorEq, Int.reduceLE, Int.reduceToNat, Nat.reduceSub, Bool.not_true, Bool.not_false, e1, e8, hrem, hshK, handK, heqK])
      cases hbk : K.testBit (j % 64) with
      | true =>
        refine sq_nil (wp_condF (by simp only [Ez.evX, getE_cons, Nat.reduceEqDiff, if_false, if_true, hbk, Bool.not_true]) (wp_skip ?_))
        refine inc _ _ _ ?_ ?_ ?_ ?_ ?_ ?_ ?_ ?_ ?_ ?_
        · omega
        · simp only [getE_cons, Nat.reduceEqDiff, if_false, if_true, e1]
        · simp only [getE_cons, Nat.reduceEqDiff, if_false, if_true, e2]
        · simp only [getE_cons, Nat.reduceEqDiff, if_false, if_true, e6]
        · simp only [getE_cons, Nat.reduceEqDiff, if_false, if_true, e7]
        · simp only [getE_cons, Nat.reduceEqDiff, if_false, if_true, e8]
        · simp only [getE_cons, Nat.reduceEqDiff, if_false, if_true, e9]
        · simp only [getE_cons, Nat.reduceEqDiff, if_false, if_true, e10]
        · rw [hb]; simp only [crashD, hfr, hbt, hbk, if_true, Bool.false_eq_true, if_false]
        · intro x _; rfl
      | false =>
        have hcp : splice (bytesC sec.data) 0 (bytesC sec.sure) = bytesC sec.sure := by
          unfold splice
          rw [hls, Nat.zero_add, List.drop_eq_nil_of_le (by omega)]
          simp
        have mm : min 128 128 = 128 := rfl
        refine sq_nil (wp_condT (by simp only [Ez.evX, getE_cons, Nat.reduceEqDiff, if_false, if_true, hbk, Bool.not_false]) (wp_sq ?_))
        iterate 5 (refine sq_cons rfl ?_; simp only [ZS, Ez.lenD, Ez.appR, Ez.appD, Ez.srcOf, Ez.cpyD, Ez.frzV, Ez.frz, Ez.frz1, if_true, if_false, Nat.reduceEqDiff, reduceIte, Nat.reduceAdd, Nat.reduceMul, Nat.reduceLeDiff, reduceCtorEq, Int.reduceLE, Int.reduceToNat, Nat.reduceSub, Bool.not_true, Bool.not_false, e10, hsb, ha, hb, hls, hld, tbs, mm, hcp])
        refine sq_nil (inc _ _ _ ?_ ?_ ?_ ?_ ?_ ?_ ?_ ?_ ?_ ?_)
        · omega
        · simp only [getE_cons, Nat.reduceEqDiff, if_false, if_true, e1]
        · simp only [getE_cons, Nat.reduceEqDiff, if_false, if_true, e2]
        · simp only [getE_cons, Nat.reduceEqDiff, if_false, if_true, e6]
        · simp only [getE_cons, Nat.reduceEqDiff, if_false, if_true, e7]
        · simp only [getE_cons, Nat.reduceEqDiff, if_false, if_true, e8]
        · simp only [getE_cons, Nat.reduceEqDiff, if_false, if_true, e9]
        · simp only [getE_cons, Nat.reduceEqDiff, if_false, if_true, e10]
        · simp only [getH_cons, if_true, crashD, hfr, hbt, hbk, Bool.false_eq_true, if_false]
        · intro x hx
          simp only [getH_cons, show (b = x) = False by simp; omega, if_false]

end Go.Proofs.Ytfphnpelampoeaa.Rw

