/-
  A crash, by the program: the whole function; new disks.
-/
import Derived.Test.YtfphnpelampoeaaRw22M
set_option linter.unusedVariables false
set_option linter.unusedSimpArgs false
namespace Go.Proofs.Ytfphnpelampoeaa.Rw
open Go Go.Ez

theorem s19_out (F : Tab) {Q : Ex → St → Prop} {e : Env} {h : Heap} {N n : Nat} (e18 : getE e 18 = .c (.lit (.int .i64 (n : Int)))) (e19 : getE e 19 = .c (.lit (.int .i64 (n : Int)))) (hQ : ∀ s : St, s.heap = h → N ≤ s.nx → getE s.env 3 = getE e 3 → getE s.env 6 = getE e 6 → getE s.env 7 = getE e 7 → Q (.exit 0) s) : WP F B19_1 ⟨e, h, N⟩ Q := by
  have hlt : decide ((n : Int) < (n : Int)) = false := by simp
  unfold B19_1
  refine wp_seq (wp_sq ?_)
  iterate 1 (refine sq_cons rfl ?_; simp only [ZS, Ez.lenD, Ez.appR, Ez.appD, Ez.srcOf, Ez.cpyD, Ez.frzV, Ez.frz, Ez.frz1, Ez.splice, if_true, if_false, Ez.intBin, Nat.reduceEqDiff, reduceIte, Nat.reduceAdd, Nat.reduceMul, Nat.reduceLeDiff, reduceCtorEq, Int.reduceLE, Int.reduceToNat, Nat.reduceSub, Bool.not_true, Bool.not_false, e18, e19, hlt])
  refine sq_nil (wp_seq (wp_condF rfl (wp_exit (hQ _ rfl ?_ ?_ ?_ ?_))))
  · simp only; omega
  · simp only [getE_cons, Nat.reduceEqDiff, if_false, if_true]
  · simp only [getE_cons, Nat.reduceEqDiff, if_false, if_true]
  · simp only [getE_cons, Nat.reduceEqDiff, if_false, if_true]

theorem s19_loop (F : Tab) (l : List Sec) (hO : Okay l) (hn : l.length ≤ 256) (aid T K : Nat) (hT : T < 18446744073709551616) (hK : K < 18446744073709551616) (D3 D6 : D) (h0 : Heap) {Q : Ex → St → Prop}
    (hQ : ∀ s : St, getE s.env 3 = D3 → getE s.env 6 = D6 → getE s.env 7 = .arr aid 0 l.length → getH s.heap aid = .arr (secsC (crd T K 0 l)) 3 0 32 → (∀ x, x < aid → getH s.heap x = getH h0 x) → Q (.exit 0) s) :
    ∀ (m k N : Nat) (e : Env) (h : Heap), k + m = l.length → aid < N → getE e 1 = .c (.lit (.int .u64 (K : Int))) → getE e 2 = .c (.lit (.int .u64 (T : Int))) → getE e 3 = D3 → getE e 6 = D6 → getE e 7 = .arr aid 0 l.length → getE e 8 = .c (.lit (.int .i64 ((cnt (l.take k) : Nat) : Int))) → getE e 18 = .c (.lit (.int .i64 (l.length : Int))) → getE e 19 = .c (.lit (.int .i64 (k : Int))) → getH h aid = .arr (secsC (cdK T K k l)) 3 0 32 → (∀ x, x < aid → getH h x = getH h0 x) → WP F (.loop B19_1) ⟨e, h, N⟩ Q
  | 0, k, N, e, h, hk, haN, e1, e2, e3, e6, e7, e8, e18, e19, ha, hf => by
    have hkl : k = l.length := by omega
    subst hkl
    rw [cdK_all] at ha
    exact wp_loop (s19_out F e18 e19 fun s g1 g2 g3 g4 g5 => hQ s (by rw [g3]; exact e3) (by rw [g4]; exact e6) (by rw [g5]; exact e7) (by rw [g1]; exact ha) (by rw [g1]; exact hf))
  | m + 1, k, N, e, h, hk, haN, e1, e2, e3, e6, e7, e8, e18, e19, ha, hf => by
    have hkl : k < l.length := by omega
    have hlen := cdK_len T K k l
    have hcl := cnt_le (l.take k)
    have htl : (l.take k).length ≤ 256 := by rw [List.length_take]; omega
    refine wp_loop (s19_round F (l := cdK T K k l) (hO.cdK T K k) (by rw [hlen]; exact hn) hT hK (by omega) (by rw [hlen]; exact hkl) haN ha e1 e2 e3 e6 (by rw [hlen]; exact e7) e8 (by rw [hlen]; exact e18) e19 ?_)
    intro s g0 g1 g2 g3 g6 g7 g8 g18 g19 gA gf
    obtain ⟨se, sh, sn⟩ := s
    simp only at g0
    rw [hlen] at g7 g18
    rw [cdK_at T K k l hkl] at gA g8
    rw [cdK_succ T K k l hkl] at gA
    have hc : cnt (l.take (k + 1)) = if (secAt l k).fresh then cnt (l.take k) + 1 else cnt (l.take k) := by rw [take_succ_at l k hkl, cnt_snoc]
    exact s19_loop F l hO hn aid T K hT hK D3 D6 h0 hQ m (k + 1) sn se sh (by omega) (by omega) g1 g2 g3 g6 g7 (by rw [hc]; exact g8) g18 g19 gA fun x hx => by rw [← hf x hx]; exact gf x (by omega) (by omega)

theorem crash19 {F : Tab} (hF : F.code = code) (hN : ∀ f vs, f ≠ 10 → F.nat f vs = none) (l : List Sec) (hO : Okay l) (h1 : 1 ≤ l.length) (hn : l.length ≤ 256) (de ar : Bool) (le : Int) (T K : Nat) (hT : T < 18446744073709551616) (hK : K < 18446744073709551616) : RunF F 19 [dskV l de ar le, .one (.lit (.int .u64 (K : Int))), .one (.lit (.int .u64 (T : Int)))] [dskV (crash T K 0 l) false false 0] := by
  have hcl := secsC_len l
  have p3 : ((0 : Nat) < 3) = True := by simp
  have r1 : (l.length * 56 ≤ roomMax) = True := by simp [roomMax]; omega
  have r2 : (l.length ≤ roomMax) = True := by simp [roomMax]; omega
  have n0 : (l.length = 0) = False := eq_false (by omega)
  have hl2 := crd_len T K l 0
  have hset := settle36 hF hN (crd T K 0 l) (Okay.crd hO) (by omega) (by omega)
  rw [settle_crd] at hset
  refine RunF.diskD (I := I19) (t := 6) (by rw [hF]; rfl) (hN 19 _ (by omega)) rfl rfl rfl ?_
  unfold I19
  simp only [bindArgs, boolC, intC, secsS, V.toD, dskV, List.map_cons, List.map_nil]
  refine wp_seq (wp_sq ?_)
  iterate 2 (refine sq_cons rfl ?_; simp only [ZS, Ez.lenD, Ez.appR, Ez.appD, Ez.srcOf, Ez.cpyD, Ez.frzV, Ez.frz, Ez.frz1, Ez.splice, if_true, if_false, Ez.intBin, Nat.reduceEqDiff, reduceIte, Nat.reduceAdd, Nat.reduceMul, Nat.reduceLeDiff, reduceCtorEq, Int.reduceLE, Int.reduceToNat, Nat.reduceSub, Bool.not_true, Bool.not_false])
  refine sq_nil (wp_seq (wp_sq ?_))
  iterate 4 (refine sq_cons rfl ?_; simp only [ZS, Ez.lenD, Ez.appR, Ez.appD, Ez.srcOf, Ez.cpyD, Ez.frzV, Ez.frz, Ez.frz1, Ez.splice, if_true, if_false, Ez.intBin, Nat.reduceEqDiff, reduceIte, Nat.reduceAdd, Nat.reduceMul, Nat.reduceLeDiff, reduceCtorEq, Int.reduceLE, Int.reduceToNat, Nat.reduceSub, Bool.not_true, Bool.not_false, hcl, p3, r1, r2, n0])
  refine sq_nil (wp_seq (wp_sq ?_))
  iterate 1 (refine sq_cons rfl ?_; simp only [ZS, Ez.lenD, Ez.appR, Ez.appD, Ez.srcOf, Ez.cpyD, Ez.frzV, Ez.frz, Ez.frz1, Ez.splice, if_true, if_false, Ez.intBin, Nat.reduceEqDiff, reduceIte, Nat.reduceAdd, Nat.reduceMul, Nat.reduceLeDiff, reduceCtorEq, Int.reduceLE, Int.reduceToNat, Nat.reduceSub, Bool.not_true, Bool.not_false])
  refine sq_nil (wp_seq (wp_seq (wp_sq ?_)))
  iterate 3 (refine sq_cons rfl ?_; simp only [ZS, Ez.lenD, Ez.appR, Ez.appD, Ez.srcOf, Ez.cpyD, Ez.frzV, Ez.frz, Ez.frz1, Ez.splice, if_true, if_false, Ez.intBin, Nat.reduceEqDiff, reduceIte, Nat.reduceAdd, Nat.reduceMul, Nat.reduceLeDiff, reduceCtorEq, Int.reduceLE, Int.reduceToNat, Nat.reduceSub, Bool.not_true, Bool.not_false])
  refine sq_nil (wp_block (s19_loop F l hO hn 4 T K hT hK (.loc 0 0) (.loc 1 0) [(1, .box [.full [] 0, .c (.lit (.bool false)), .c (.lit (.bool false)), .c (.lit (.int .i64 0))]), (0, .box [.c (.slice (secsC l) l.length), .c (.lit (.bool de)), .c (.lit (.bool ar)), .c (.lit (.int .i64 le))])] ?_ l.length 0 _ _ _ (by omega) (by omega) (by simp only [getE_cons, Nat.reduceEqDiff, if_false, if_true]) (by simp only [getE_cons, Nat.reduceEqDiff, if_false, if_true]) (by simp only [getE_cons, Nat.reduceEqDiff, if_false, if_true]) (by simp only [getE_cons, Nat.reduceEqDiff, if_false, if_true]) (by simp only [getE_cons, Nat.reduceEqDiff, if_false, if_true]) (by simp only [getE_cons, Nat.reduceEqDiff, if_false, if_true]; rfl) (by simp only [getE_cons, Nat.reduceEqDiff, if_false, if_true]) (by simp only [getE_cons, Nat.reduceEqDiff, if_false, if_true]; rfl) (by simp only [getH_cons, if_true]; rfl) (fun x hx => by simp only [getH_cons, show (4 = x) = False by simp; omega, if_false])))
  intro s g3 g6 g7 gA gf
  obtain ⟨se, sh, sn⟩ := s
  simp only at g3 g6 g7 gA gf
  simp only [if_true]
  have c0 : getH sh 0 = .box [.c (.slice (secsC l) l.length), .c (.lit (.bool de)), .c (.lit (.bool ar)), .c (.lit (.int .i64 le))] := by rw [gf 0 (by omega)]; rfl
  have c1 : getH sh 1 = .box [.full [] 0, .c (.lit (.bool false)), .c (.lit (.bool false)), .c (.lit (.int .i64 0))] := by rw [gf 1 (by omega)]; rfl
  have hcl2 : (secsC (crd T K 0 l)).length = l.length * 3 := by rw [secsC_len, hl2]
  have hfz : frz sh (.arr 4 0 l.length) = some (secsS (crd T K 0 l), if l.length * 3 ≤ 0 then [] else [(4, .arr (secsC (crd T K 0 l)) 3 (l.length * 3) 32)]) := by
    simp only [frz, gA, frz1, Nat.zero_add, hcl2, Nat.le_refl, if_true, List.drop_zero]
    rw [List.take_of_length_le (by omega), secsS, hl2]
  have n0' : ¬ l.length * 3 ≤ 0 := by omega
  rw [if_neg n0'] at hfz
  refine wp_seq (wp_sq ?_)
  iterate 1 (refine sq_cons rfl ?_; simp only [ZS, Ez.lenD, Ez.appR, Ez.appD, Ez.srcOf, Ez.cpyD, Ez.frzV, Ez.frz, Ez.frz1, Ez.splice, if_true, if_false, Ez.intBin, Nat.reduceEqDiff, reduceIte, Nat.reduceAdd, Nat.reduceMul, Nat.reduceLeDiff, reduceCtorEq, Int.reduceLE, Int.reduceToNat, Nat.reduceSub, Bool.not_true, Bool.not_false, g7])
  refine sq_call (vs := [.one (secsS (crd T K 0 l))]) (us := [(4, .arr (secsC (crd T K 0 l)) 3 (l.length * 3) 32)]) (by simp only [List.map_cons, List.map_nil, Ez.evX, getE_cons, Nat.reduceEqDiff, if_false, if_true, frzVs, frzV, hfz, Option.bind_eq_bind, Option.bind_some, List.append_nil]) hset ?_
  simp only [retD, V.toD, Ez.putE, Ez.updH, List.map_cons, List.map_nil, secsS]
  iterate 2 (refine sq_cons rfl ?_; simp only [ZS, Ez.lenD, Ez.appR, Ez.appD, Ez.srcOf, Ez.cpyD, Ez.frzV, Ez.frz, Ez.frz1, Ez.splice, if_true, if_false, Ez.intBin, Nat.reduceEqDiff, reduceIte, Nat.reduceAdd, Nat.reduceMul, Nat.reduceLeDiff, reduceCtorEq, Int.reduceLE, Int.reduceToNat, Nat.reduceSub, Bool.not_true, Bool.not_false, g3, c0])
  refine sq_nil (wp_seq (wp_sq ?_))
  iterate 6 (refine sq_cons rfl ?_; simp only [ZS, Ez.lenD, Ez.appR, Ez.appD, Ez.srcOf, Ez.cpyD, Ez.frzV, Ez.frz, Ez.frz1, Ez.splice, if_true, if_false, Ez.intBin, Nat.reduceEqDiff, reduceIte, Nat.reduceAdd, Nat.reduceMul, Nat.reduceLeDiff, reduceCtorEq, Int.reduceLE, Int.reduceToNat, Nat.reduceSub, Bool.not_true, Bool.not_false, g3, c0])
  refine sq_nil (wp_seq (wp_sq ?_))
  iterate 2 (refine sq_cons rfl ?_; simp only [ZS, Ez.lenD, Ez.appR, Ez.appD, Ez.srcOf, Ez.cpyD, Ez.frzV, Ez.frz, Ez.frz1, Ez.splice, if_true, if_false, Ez.intBin, Nat.reduceEqDiff, reduceIte, Nat.reduceAdd, Nat.reduceMul, Nat.reduceLeDiff, reduceCtorEq, Int.reduceLE, Int.reduceToNat, Nat.reduceSub, Bool.not_true, Bool.not_false, g3, g6, c0, c1])
  refine sq_nil (wp_ret ⟨rfl, 1, ?_, .c (secsS (crash T K 0 l)), [], ?_, rfl⟩)
  · simp only [getE_cons, Nat.reduceEqDiff, if_false, if_true, g6]
  · simp only [getH_cons, if_true, if_false, Nat.reduceEqDiff]; rfl

end Go.Proofs.Ytfphnpelampoeaa.Rw

