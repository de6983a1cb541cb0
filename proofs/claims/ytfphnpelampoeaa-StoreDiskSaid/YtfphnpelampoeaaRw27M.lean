/-
  A script of operations: one operation and what is compared behind it.
-/
import Derived.Test.YtfphnpelampoeaaRw26M
set_option linter.unusedVariables false
set_option linter.unusedSimpArgs false
namespace Go.Proofs.Ytfphnpelampoeaa.Rw
open Go Go.Ez

def T9 : ICode := match B9_1 with | .seq _ (.seq (.block _ (.seq _ (.seq _ (.seq _ (.seq _ (.seq _ c)))))) _) => c | _ => .skip

theorem t9 {F : Tab} (hF : F.code = code) (hN : ∀ f vs, f ≠ 10 → F.nat f vs = none) {Q : Ex → St → Prop} {e : Env} {h : Heap} {N p q : Nat} {X : D} {d : Dk} (hd : d.Ok) {z err : Int} (hp : getH h p = .box [.c (secsS d.l), .c (.lit (.bool d.de)), .c (.lit (.bool d.ar)), .c (.lit (.int .i64 d.le))]) (hq : BoxQ h N p q d X)
    (e6 : getE e 6 = .loc p 0) (e7 : getE e 7 = .loc q 0) (e10 : getE e 10 = .c (.lit (.int .i64 z))) (e11 : getE e 11 = .c (.lit (.int .i64 err))) (e12 : getE e 12 = .c (.lit (.int .i64 err)))
    (hQ : ∀ s : St, s.heap = h → N ≤ s.nx → getE s.env 1 = getE e 1 → getE s.env 6 = getE e 6 → getE s.env 7 = getE e 7 → getE s.env 8 = getE e 8 → Q .normal s) : WP F T9 ⟨e, h, N⟩ Q := by
  obtain ⟨b, er, r29, r30⟩ := read_both hF hN d hd z
  have sm := same23 hF hN d.l hd.okay hd.few d.de d.ar d.le
  have vl := valid12 hF (fun vs => hN 31 vs (by omega)) (fun vs => hN 12 vs (by omega)) d.l d.de d.ar d.le
  rw [hd.valid] at vl
  have hq1 := hq.1
  have hfx := hq.frz
  have arg := hq.arg hfx
  have x1 : (err != err) = false := by simp
  have x2 : (er != er) = false := by simp
  have x3 : (!(b == b)) = false := by simp
  have pArg : frzV h (.agg [.c (secsS d.l), .c (.lit (.bool d.de)), .c (.lit (.bool d.ar)), .c (.lit (.int .i64 d.le))]) = some (d.v, []) := frz_disk (frz_c h _) _ _ _
  have fC : ∀ z : Int, frzV h (.c (.lit (.int .i64 z))) = some (.one (intC z), []) := fun _ => rfl
  simp only [T9, B9_1]
  refine wp_seq (wp_sq ?_)
  iterate 2 (refine sq_cons rfl ?_; simp only [ZS, Ez.lenD, Ez.appR, Ez.appD, Ez.srcOf, Ez.cpyD, Ez.frzV, Ez.frz, Ez.frz1, Ez.splice, if_true, if_false, Ez.intBin, Nat.reduceEqDiff, reduceIte, Nat.reduceAdd, Nat.reduceMul, Nat.reduceLeDiff, reduceCtorEq, Int.reduceLE, Int.reduceToNat, Nat.reduceSub, Bool.not_true, Bool.not_false, e6, e10, hp])
  refine sq_call (vs := [d.v, .one (intC z)]) (us := []) (by simp only [List.map_cons, List.map_nil, Ez.evX, getE_cons, Nat.reduceEqDiff, if_false, if_true, e10, frzVs, pArg, fC, Option.bind_eq_bind, Option.bind_some, List.append_nil, Ez.updH]) r29 ?_
  simp only [retD, V.toD, Ez.updH, Ez.putE, List.map_cons, List.map_nil, Dk.v, dskV]
  iterate 5 (refine sq_cons rfl ?_; simp only [ZS, Ez.lenD, Ez.appR, Ez.appD, Ez.srcOf, Ez.cpyD, Ez.frzV, Ez.frz, Ez.frz1, Ez.splice, if_true, if_false, Ez.intBin, Nat.reduceEqDiff, reduceIte, Nat.reduceAdd, Nat.reduceMul, Nat.reduceLeDiff, reduceCtorEq, Int.reduceLE, Int.reduceToNat, Nat.reduceSub, Bool.not_true, Bool.not_false])
  refine sq_nil (wp_seq (wp_sq ?_))
  iterate 2 (refine sq_cons rfl ?_; simp only [ZS, Ez.lenD, Ez.appR, Ez.appD, Ez.srcOf, Ez.cpyD, Ez.frzV, Ez.frz, Ez.frz1, Ez.splice, if_true, if_false, Ez.intBin, Nat.reduceEqDiff, reduceIte, Nat.reduceAdd, Nat.reduceMul, Nat.reduceLeDiff, reduceCtorEq, Int.reduceLE, Int.reduceToNat, Nat.reduceSub, Bool.not_true, Bool.not_false, e7, e10, hq1])
  refine sq_call (vs := [d.v, .one (intC z)]) (us := []) (by simp only [List.map_cons, List.map_nil, Ez.evX, getE_cons, Nat.reduceEqDiff, if_false, if_true, e10, frzVs, arg, fC, Option.bind_eq_bind, Option.bind_some, List.append_nil, Ez.updH]) r30 ?_
  simp only [retD, V.toD, Ez.updH, Ez.putE, List.map_cons, List.map_nil, Dk.v, dskV]
  iterate 5 (refine sq_cons rfl ?_; simp only [ZS, Ez.lenD, Ez.appR, Ez.appD, Ez.srcOf, Ez.cpyD, Ez.frzV, Ez.frz, Ez.frz1, Ez.splice, if_true, if_false, Ez.intBin, Nat.reduceEqDiff, reduceIte, Nat.reduceAdd, Nat.reduceMul, Nat.reduceLeDiff, reduceCtorEq, Int.reduceLE, Int.reduceToNat, Nat.reduceSub, Bool.not_true, Bool.not_false])
  refine sq_nil (wp_seq (wp_sq ?_))
  iterate 18 (first | (refine sq_yes rfl (sq_cons rfl ?_); simp only [ZS, Ez.lenD, Ez.appR, Ez.appD, Ez.srcOf, Ez.cpyD, Ez.frzV, Ez.frz, Ez.frz1, Ez.splice, if_true, if_false, Ez.intBin, Nat.reduceEqDiff, reduceIte, Nat.reduceAdd, Nat.reduceMul, Nat.reduceLeDiff, reduceCtorEq, Int.reduceLE, Int.reduceToNat, Nat.reduceSub, Bool.not_true, Bool.not_false, e6, e7, e10, e11, e12, hp, hq1, x1, x2, x3, intC, bytesS, srcB, bytesC_len, bytesOf_bytesC, strBin, toList_mk]) | (refine sq_cons rfl ?_; simp only [ZS, Ez.lenD, Ez.appR, Ez.appD, Ez.srcOf, Ez.cpyD, Ez.frzV, Ez.frz, Ez.frz1, Ez.splice, if_true, if_false, Ez.intBin, Nat.reduceEqDiff, reduceIte, Nat.reduceAdd, Nat.reduceMul, Nat.reduceLeDiff, reduceCtorEq, Int.reduceLE, Int.reduceToNat, Nat.reduceSub, Bool.not_true, Bool.not_false, e6, e7, e10, e11, e12, hp, hq1, x1, x2, x3, intC, bytesS, srcB, bytesC_len, bytesOf_bytesC, strBin, toList_mk]) | (refine sq_no rfl ?_; simp only [Ez.putE, Ez.undefD]))
  refine sq_yes rfl (sq_call (vs := [d.v, d.v]) (us := []) (by simp only [List.map_cons, List.map_nil, Ez.evX, getE_cons, Nat.reduceEqDiff, if_false, if_true, frzVs, arg, pArg, Option.bind_eq_bind, Option.bind_some, List.append_nil, Ez.updH]) sm ?_)
  simp only [retD, V.toD, Ez.updH, Ez.putE, List.map_cons, List.map_nil, Dk.v, dskV]
  iterate 4 (first | (refine sq_yes rfl (sq_cons rfl ?_); simp only [ZS, Ez.lenD, Ez.appR, Ez.appD, Ez.srcOf, Ez.cpyD, Ez.frzV, Ez.frz, Ez.frz1, Ez.splice, if_true, if_false, Ez.intBin, Nat.reduceEqDiff, reduceIte, Nat.reduceAdd, Nat.reduceMul, Nat.reduceLeDiff, reduceCtorEq, Int.reduceLE, Int.reduceToNat, Nat.reduceSub, Bool.not_true, Bool.not_false, e6, hp]) | (refine sq_cons rfl ?_; simp only [ZS, Ez.lenD, Ez.appR, Ez.appD, Ez.srcOf, Ez.cpyD, Ez.frzV, Ez.frz, Ez.frz1, Ez.splice, if_true, if_false, Ez.intBin, Nat.reduceEqDiff, reduceIte, Nat.reduceAdd, Nat.reduceMul, Nat.reduceLeDiff, reduceCtorEq, Int.reduceLE, Int.reduceToNat, Nat.reduceSub, Bool.not_true, Bool.not_false, e6, hp]) | (refine sq_no rfl ?_; simp only [Ez.putE, Ez.undefD]))
  refine sq_yes rfl (sq_call (vs := [d.v]) (us := []) (by simp only [List.map_cons, List.map_nil, Ez.evX, getE_cons, Nat.reduceEqDiff, if_false, if_true, frzVs, arg, pArg, Option.bind_eq_bind, Option.bind_some, List.append_nil, Ez.updH]) vl ?_)
  simp only [retD, V.toD, Ez.updH, Ez.putE, List.map_cons, List.map_nil, Dk.v, dskV]
  iterate 2 (first | (refine sq_yes rfl (sq_cons rfl ?_); simp only [ZS, Ez.lenD, Ez.appR, Ez.appD, Ez.srcOf, Ez.cpyD, Ez.frzV, Ez.frz, Ez.frz1, Ez.splice, if_true, if_false, Ez.intBin, Nat.reduceEqDiff, reduceIte, Nat.reduceAdd, Nat.reduceMul, Nat.reduceLeDiff, reduceCtorEq, Int.reduceLE, Int.reduceToNat, Nat.reduceSub, Bool.not_true, Bool.not_false]) | (refine sq_cons rfl ?_; simp only [ZS, Ez.lenD, Ez.appR, Ez.appD, Ez.srcOf, Ez.cpyD, Ez.frzV, Ez.frz, Ez.frz1, Ez.splice, if_true, if_false, Ez.intBin, Nat.reduceEqDiff, reduceIte, Nat.reduceAdd, Nat.reduceMul, Nat.reduceLeDiff, reduceCtorEq, Int.reduceLE, Int.reduceToNat, Nat.reduceSub, Bool.not_true, Bool.not_false]) | (refine sq_no rfl ?_; simp only [Ez.putE, Ez.undefD]))
  refine sq_nil (wp_condF rfl (wp_skip (hQ _ rfl ?_ ?_ ?_ ?_ ?_)))
  · simp only; omega
  · simp only [getE_cons, Nat.reduceEqDiff, if_false, if_true]
  · simp only [getE_cons, Nat.reduceEqDiff, if_false, if_true]
  · simp only [getE_cons, Nat.reduceEqDiff, if_false, if_true]
  · simp only [getE_cons, Nat.reduceEqDiff, if_false, if_true]

theorem b9_round (F : Tab) {Q : Ex → St → Prop} {e : Env} {h : Heap} {N ab bid k : Nat} {D1 D6 D7 D8 D10 D11 D12 a0 a1 a2 a3 a4 : D} {x : Int} {cur : List UInt8} (hc : cur.length = 128) (hk : k < 128) (e1 : getE e 1 = D1) (e6 : getE e 6 = D6) (e7 : getE e 7 = D7) (e8 : getE e 8 = D8) (e10 : getE e 10 = D10) (e11 : getE e 11 = D11) (e12 : getE e 12 = D12) (e9 : getE e 9 = .loc ab 0) (e14 : getE e 14 = .arr bid 0 128) (e15 : getE e 15 = .c (.lit (.int .i64 (k : Int))))
    (ha : getH h ab = .box [a0, a1, a2, a3, a4, .c (.lit (.int .u8 x))]) (hb : getH h bid = .arr (bytesC cur) 1 0 5)
    (hQ : ∀ (s : St) (c2 : List UInt8), c2.length = 128 → N ≤ s.nx → getE s.env 1 = D1 → getE s.env 6 = D6 → getE s.env 7 = D7 → getE s.env 8 = D8 → getE s.env 9 = .loc ab 0 → getE s.env 10 = D10 → getE s.env 11 = D11 → getE s.env 12 = D12 → getE s.env 14 = .arr bid 0 128 → getE s.env 15 = .c (.lit (.int .i64 ((k + 1 : Nat) : Int))) → getH s.heap bid = .arr (bytesC c2) 1 0 5 → (∀ y, y ≠ bid → getH s.heap y = getH h y) → Q .normal s) : WP F B9_0 ⟨e, h, N⟩ Q := by
  have hlt : decide ((k : Int) < ((128 : Nat) : Int)) = true := by simp; omega
  have hlt' : ((k : Int) < ((128 : Nat) : Int)) = True := by simp; omega
  have hl : (bytesC cur).length = 128 := by rw [bytesC_len]; exact hc
  have f1 : (k + 1 ≤ 128) = True := by simp; omega
  obtain ⟨bv, hbv⟩ := u8_byte (x + IntKind.wrap .u8 (k : Int))
  have hsp := splice_bytes cur k (by omega) bv
  have hw : IntKind.wrap .i64 ((k : Int) + 1) = ((k + 1 : Nat) : Int) := by rw [Go.Proofs.Ytfphnpelampoeaa.wrap_i64 _ (by omega)]; rfl
  unfold B9_0
  refine wp_seq (wp_seq (wp_sq ?_))
  iterate 4 (refine sq_cons rfl ?_; simp only [ZS, Ez.lenD, Ez.appR, Ez.appD, Ez.srcOf, Ez.cpyD, Ez.frzV, Ez.frz, Ez.frz1, Ez.splice, if_true, if_false, Ez.intBin, Nat.reduceEqDiff, reduceIte, Nat.reduceAdd, Nat.reduceMul, Nat.reduceLeDiff, reduceCtorEq, Int.reduceLE, Int.reduceToNat, Nat.reduceSub, Bool.not_true, Bool.not_false, e14, e15, hlt])
  refine sq_nil (wp_condT rfl (wp_skip ?_))
  refine wp_seq (wp_block (wp_sq ?_))
  iterate 9 (refine sq_cons rfl ?_; simp only [ZS, Ez.lenD, Ez.appR, Ez.appD, Ez.srcOf, Ez.cpyD, Ez.frzV, Ez.frz, Ez.frz1, if_true, if_false, Ez.intBin, Nat.reduceEqDiff, reduceIte, Nat.reduceAdd, Nat.reduceMul, Nat.reduceLeDiff, reduceCtorEq, Int.reduceLE, Int.reduceToNat, Nat.reduceSub, Bool.not_true, Bool.not_false, e9, e14, e15, ha, hb, hlt', hbv, hsp, hl, f1])
  refine sq_nil (wp_sq ?_)
  iterate 3 (refine sq_cons rfl ?_; simp only [ZS, Ez.lenD, Ez.appR, Ez.appD, Ez.srcOf, Ez.cpyD, Ez.frzV, Ez.frz, Ez.frz1, Ez.splice, if_true, if_false, Ez.intBin, Nat.reduceEqDiff, reduceIte, Nat.reduceAdd, Nat.reduceMul, Nat.reduceLeDiff, reduceCtorEq, Int.reduceLE, Int.reduceToNat, Nat.reduceSub, Bool.not_true, Bool.not_false, e15, hw])
  refine sq_nil (hQ _ (cur.set k bv) (by simp [hc]) ?_ ?_ ?_ ?_ ?_ ?_ ?_ ?_ ?_ ?_ ?_ ?_ ?_)
  · simp only; omega
  · simp only [getE_cons, Nat.reduceEqDiff, if_false, if_true, e1]
  · simp only [getE_cons, Nat.reduceEqDiff, if_false, if_true, e6]
  · simp only [getE_cons, Nat.reduceEqDiff, if_false, if_true, e7]
  · simp only [getE_cons, Nat.reduceEqDiff, if_false, if_true, e8]
  · simp only [getE_cons, Nat.reduceEqDiff, if_false, if_true, e9]
  · simp only [getE_cons, Nat.reduceEqDiff, if_false, if_true, e10]
  · simp only [getE_cons, Nat.reduceEqDiff, if_false, if_true, e11]
  · simp only [getE_cons, Nat.reduceEqDiff, if_false, if_true, e12]
  · simp only [getE_cons, Nat.reduceEqDiff, if_false, if_true, e14]
  · simp only [getE_cons, Nat.reduceEqDiff, if_false, if_true]
  · simp only [getH_cons, if_true]
  · intro y hy
    simp only [getH_cons, show (bid = y) = False by simp; omega, if_false]

theorem b9_out (F : Tab) {Q : Ex → St → Prop} {e : Env} {h : Heap} {N bid : Nat} (e14 : getE e 14 = .arr bid 0 128) (e15 : getE e 15 = .c (.lit (.int .i64 ((128 : Nat) : Int))))
    (hQ : ∀ s : St, s.heap = h → N ≤ s.nx → (∀ t, t < 15 → getE s.env t = getE e t) → Q (.exit 3) s) : WP F B9_0 ⟨e, h, N⟩ Q := by
  have hlt : decide (((128 : Nat) : Int) < ((128 : Nat) : Int)) = false := by decide
  unfold B9_0
  refine wp_seq (wp_seq (wp_sq ?_))
  iterate 4 (refine sq_cons rfl ?_; simp only [ZS, Ez.lenD, Ez.appR, Ez.appD, Ez.srcOf, Ez.cpyD, Ez.frzV, Ez.frz, Ez.frz1, Ez.splice, if_true, if_false, Ez.intBin, Nat.reduceEqDiff, reduceIte, Nat.reduceAdd, Nat.reduceMul, Nat.reduceLeDiff, reduceCtorEq, Int.reduceLE, Int.reduceToNat, Nat.reduceSub, Bool.not_true, Bool.not_false, e14, e15, hlt])
  refine sq_nil (wp_condF rfl (wp_exit (hQ _ rfl ?_ ?_)))
  · simp only; omega
  · intro t ht
    simp only [getE_cons, show (77 = t) = False by simp; omega, show (76 = t) = False by simp; omega, show (75 = t) = False by simp; omega, show (74 = t) = False by simp; omega, if_false]

theorem b9_loop (F : Tab) {Q : Ex → St → Prop} {ab bid : Nat} {D1 D6 D7 D8 D10 D11 D12 a0 a1 a2 a3 a4 : D} {x : Int} (hab : ab ≠ bid) (h0 : Heap) (N0 : Nat)
    (hQ : ∀ (s : St) (c2 : List UInt8), c2.length = 128 → N0 ≤ s.nx → getE s.env 1 = D1 → getE s.env 6 = D6 → getE s.env 7 = D7 → getE s.env 8 = D8 → getE s.env 9 = .loc ab 0 → getE s.env 10 = D10 → getE s.env 11 = D11 → getE s.env 12 = D12 → getE s.env 14 = .arr bid 0 128 → getH s.heap bid = .arr (bytesC c2) 1 0 5 → (∀ y, y ≠ bid → getH s.heap y = getH h0 y) → Q (.exit 3) s) :
    ∀ (m k N : Nat) (e : Env) (h : Heap) (cur : List UInt8), k + m = 128 → N0 ≤ N → cur.length = 128 → getE e 1 = D1 → getE e 6 = D6 → getE e 7 = D7 → getE e 8 = D8 → getE e 9 = .loc ab 0 → getE e 10 = D10 → getE e 11 = D11 → getE e 12 = D12 → getE e 14 = .arr bid 0 128 → getE e 15 = .c (.lit (.int .i64 (k : Int))) → getH h ab = .box [a0, a1, a2, a3, a4, .c (.lit (.int .u8 x))] → getH h bid = .arr (bytesC cur) 1 0 5 → (∀ y, y ≠ bid → getH h y = getH h0 y) → WP F (.loop B9_0) ⟨e, h, N⟩ Q
  | 0, k, N, e, h, cur, hk, hN, hc, e1, e6, e7, e8, e9, e10, e11, e12, e14, e15, ha, hb, hf => by
    obtain rfl : k = 128 := by omega
    refine wp_loop (b9_out F e14 e15 fun s g1 g2 g3 => hQ s cur hc (by omega) (by rw [g3 1 (by omega)]; exact e1) (by rw [g3 6 (by omega)]; exact e6) (by rw [g3 7 (by omega)]; exact e7) (by rw [g3 8 (by omega)]; exact e8) (by rw [g3 9 (by omega)]; exact e9) (by rw [g3 10 (by omega)]; exact e10) (by rw [g3 11 (by omega)]; exact e11) (by rw [g3 12 (by omega)]; exact e12) (by rw [g3 14 (by omega)]; exact e14) (by rw [g1]; exact hb) (by rw [g1]; exact hf))
  | m + 1, k, N, e, h, cur, hk, hN, hc, e1, e6, e7, e8, e9, e10, e11, e12, e14, e15, ha, hb, hf => by
    refine wp_loop (b9_round F hc (by omega) e1 e6 e7 e8 e10 e11 e12 e9 e14 e15 ha hb ?_)
    intro s c2 gc gN g1 g6 g7 g8 g9 g10 g11 g12 g14 g15 gb gf
    obtain ⟨se, sh, sn⟩ := s
    simp only at gN gb gf
    exact b9_loop F hab h0 N0 hQ m (k + 1) sn se sh c2 (by omega) (by omega) gc g1 g6 g7 g8 g9 g10 g11 g12 g14 g15 (by rw [gf ab hab]; exact ha) gb fun y hy => by rw [gf y hy]; exact hf y hy

end Go.Proofs.Ytfphnpelampoeaa.Rw

