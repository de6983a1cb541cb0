/-
  The copy of a disk: its loop, and the whole function.
-/
import Derived.Test.YtfphnpelampoeaaRw2M
set_option linter.unusedVariables false
set_option linter.unusedSimpArgs false
namespace Go.Proofs.Ytfphnpelampoeaa.Rw
open Go Go.Ez

/-- sectors of the right size -/
def Okay (l : List Sec) : Prop := ∀ s ∈ l, s.data.length = 128 ∧ s.sure.length = 128

theorem take_succ_at (l : List Sec) (k : Nat) (h : k < l.length) : l.take (k + 1) = l.take k ++ [secAt l k] := by
  unfold secAt
  rw [List.take_add_one, List.getD_eq_getElem?_getD]
  rw [List.getElem?_eq_getElem h]
  rfl

theorem secAt_mem (l : List Sec) (k : Nat) (h : k < l.length) : secAt l k ∈ l := by
  unfold secAt; rw [List.getD_eq_getElem?_getD, List.getElem?_eq_getElem h]; simp

theorem cells_at {l : List Sec} (ho : Okay l) {k : Nat} (h : k < l.length) : (secsC l).drop (k * 3) = .slice (bytesC (secAt l k).sure) 128 :: .slice (bytesC (secAt l k).data) 128 :: .lit (.bool (secAt l k).fresh) :: secsC (l.drop (k + 1)) := by
  rw [secsC_at k l h]
  have := ho _ (secAt_mem l k h)
  simp [secC, bytesS, boolC, this.1, this.2]

/-- what a call owns of a disk: the row, its sectors, all in numbers from B on -/
structure Owned (l : List Sec) (B : Nat) (rid : Nat) (ids : List (Nat × Nat)) (h : Heap) (N : Nat) : Prop where
  hr : getH h rid = .rows (rowD ids l) 3 32
  held : Held h ids l
  nd : (rid :: flat ids).Nodup
  lo : ∀ x ∈ rid :: flat ids, B ≤ x ∧ x < N

theorem flat_app (a b : List (Nat × Nat)) : flat (a ++ b) = flat a ++ flat b := by simp [flat]

theorem Owned.snoc {l : List Sec} {k B rid N N' a b rid' : Nat} {ids : List (Nat × Nat)} {h h' : Heap} (ho : Owned (l.take k) B rid ids h N) (hB : B ≤ N) (hk : k < l.length)
    (hr : getH h' rid' = .rows (rowD ids (l.take k) ++ [.arr a 0 128, .arr b 0 128, .c (.lit (.bool (secAt l k).fresh))]) 3 32) (ha : getH h' a = .arr (bytesC (secAt l k).sure) 1 0 5) (hb : getH h' b = .arr (bytesC (secAt l k).data) 1 0 5)
    (ha' : N ≤ a ∧ a < N') (hb' : N ≤ b ∧ b < N') (hr' : N ≤ rid' ∧ rid' < N') (hab : a ≠ b) (har : a ≠ rid') (hbr : b ≠ rid') (hf : ∀ x ∈ flat ids, getH h' x = getH h x) (hN : N ≤ N') : Owned (l.take (k + 1)) B rid' (ids ++ [(a, b)]) h' N' := by
  have hl := ho.held.len
  refine ⟨?_, ?_, ?_, ?_⟩
  · rw [take_succ_at l k hk, rowD_app hl, hr]; rfl
  · rw [take_succ_at l k hk]; exact (ho.held.frame hf).app ⟨ha, hb, trivial⟩
  · have h1 := ho.nd
    have h2 := ho.lo
    rw [flat_app]
    simp only [List.nodup_cons] at h1
    rw [List.nodup_cons, List.nodup_append]
    refine ⟨?_, h1.2, ?_, ?_⟩
    · simp only [List.mem_append, flat, List.flatMap_cons, List.flatMap_nil, List.append_nil, List.mem_cons, List.not_mem_nil, or_false, not_or]
      refine ⟨fun hm => ?_, fun e => har e.symm, fun e => hbr e.symm⟩
      have := h2 rid' (by simp only [List.mem_cons]; right; exact hm)
      omega
    · simp [flat, hab]
    · intro x hx y hy
      have := h2 x (by simp [hx])
      simp only [flat, List.flatMap_cons, List.flatMap_nil, List.append_nil, List.mem_cons, List.not_mem_nil, or_false] at hy
      rcases hy with rfl | rfl <;> omega
  · intro x hx
    rw [flat_app] at hx
    simp only [List.mem_cons, List.mem_append] at hx
    rcases hx with rfl | hx | hx
    · omega
    · have := ho.lo x (by simp [hx]); omega
    · simp only [flat, List.flatMap_cons, List.flatMap_nil, List.append_nil, List.mem_cons, List.not_mem_nil, or_false] at hx
      rcases hx with rfl | rfl <;> omega

theorem cop_loop (F : Tab) (l : List Sec) (hO : Okay l) (hn : l.length ≤ 256) (p1 p2 p3 B : Nat) (h0 : Heap) (d1 d2 d3 d4 d5 d6 : D) (h1 : getH h0 p1 = .box [.c (.slice (secsC l) l.length), d1, d2, d3]) (b1 : p1 < B) (b3 : p3 < B) (n13 : p1 ≠ p3) {Q : Ex → St → Prop}
    (hQ : ∀ (s : St) (rid : Nat) (ids : List (Nat × Nat)), B ≤ s.nx → getE s.env 2 = .loc p2 0 → getE s.env 3 = .loc p3 0 → getH s.heap p3 = .box [.arr rid 0 l.length, d4, d5, d6] → Owned l B rid ids s.heap s.nx → (∀ x, x < B → x ≠ p3 → getH s.heap x = getH h0 x) → Q (.exit 0) s) :
    ∀ (m k N rid : Nat) (e : Env) (h : Heap) (ids : List (Nat × Nat)), k + m = l.length → B ≤ N → getE e 1 = .loc p1 0 → getE e 2 = .loc p2 0 → getE e 3 = .loc p3 0 → getE e 4 = .c (.lit (.int .i64 (k : Int))) →
      getH h p3 = .box [.arr rid 0 k, d4, d5, d6] → Owned (l.take k) B rid ids h N → (∀ x, x < B → x ≠ p3 → getH h x = getH h0 x) → WP F (.loop B38_0) ⟨e, h, N⟩ Q
  | 0, k, N, rid, e, h, ids, hk, hB, e1, e2, e3, e4, h3, ho, hf => by
    have hkl : k = l.length := by omega
    subst hkl
    rw [List.take_length] at ho
    refine wp_loop (cop_out F e1 e4 (by rw [hf p1 b1 n13]; exact h1) fun s s1 s2 s3 s4 => ?_)
    refine hQ s rid ids (by omega) (by rw [s3]; exact e2) (by rw [s4]; exact e3) (by rw [s2]; exact h3) ?_ (by rw [s2]; exact hf)
    rw [s2, s1]
    exact ⟨ho.hr, ho.held, ho.nd, fun x hx => ⟨(ho.lo x hx).1, by have := (ho.lo x hx).2; omega⟩⟩
  | m + 1, k, N, rid, e, h, ids, hk, hB, e1, e2, e3, e4, h3, ho, hf => by
    have hkl : k < l.length := by omega
    have hr := ho.lo rid (by simp)
    have hs := hO _ (secAt_mem l k hkl)
    have hlen : (l.take k).length = k := by rw [List.length_take]; omega
    refine wp_loop (cop_round F e1 e2 e3 e4 (by rw [hf p1 b1 n13]; exact h1) hkl (cells_at hO hkl) (by rw [bytesC_len]; exact hs.2) (by rw [bytesC_len]; exact hs.1) hn h3 ho.hr (by rw [rowD_len ho.held.len, hlen]) (by omega) (by omega) (by omega) (by omega) ?_)
    intro s g1 g2 g3 g4 g5 g6 g7 g8 g9 g10
    have hnd := ho.nd
    rw [List.nodup_cons] at hnd
    have ho' : Owned (l.take (k + 1)) B (N + 26) (ids ++ [(N + 14, N + 17)]) s.heap s.nx :=
      ho.snoc hB hkl g7 g8 g9 (by omega) (by omega) (by omega) (by omega) (by omega) (by omega) (fun x hx => by
        have := ho.lo x (by simp [hx])
        refine g10 x this.2 (by omega) fun e => hnd.1 (e ▸ hx)) (by omega)
    obtain ⟨se, sh, sn⟩ := s
    exact cop_loop F l hO hn p1 p2 p3 B h0 d1 d2 d3 d4 d5 d6 h1 b1 b3 n13 hQ m (k + 1) sn (N + 26) se sh _ (by omega) (by simp only at g1; omega) g2 g3 g4 g5 g6 ho' fun x hx hx3 => by rw [← hf x hx hx3]; exact g10 x (by omega) hx3 (by omega)

theorem copied_run {F : Tab} (hF : F.code = code) (l : List Sec) (hO : Okay l) (h1 : 1 ≤ l.length) (hn : l.length ≤ 256) (de ar : Bool) (le : Int) (h : Heap) (N : Nat) :
    ∃ rid ids h' N', RunB F 38 [.agg [.c (secsS l), .c (boolC de), .c (boolC ar), .c (intC le)]] h N [.agg [.arr rid 0 l.length, .c (boolC de), .c (boolC ar), .c (intC le)]] h' N' ∧
      Owned l N rid ids h' N' ∧ N ≤ N' ∧ ∀ x, x < N → getH h' x = getH h x := by
  have key : WP F I38.body ⟨bindArgs 0 [.agg [.c (secsS l), .c (boolC de), .c (boolC ar), .c (intC le)]], h, N⟩ fun x s => x = .ret ∧ ∃ rid ids, getE s.env 2 = .loc (N + 1) 0 ∧ getH s.heap (N + 1) = .box [.arr rid 0 l.length, .c (boolC de), .c (boolC ar), .c (intC le)] ∧ Owned l N rid ids s.heap s.nx ∧ N ≤ s.nx ∧ ∀ x, x < N → getH s.heap x = getH h x := by
    unfold I38
    simp only [bindArgs, boolC, intC, secsS]
    refine wp_seq (wp_reg ?_)
    iterate 2 (refine seqW_cons rfl ?_; simp only [Nat.add_eq_left, Nat.left_eq_add, oneW_some, stepC, step, evX, pureD, loadD, storeD, lenD, asLit, asInt, asBool, getE_cons, putE, updH, getH_cons, iadrD, rowsOf, appR, appD, srcOf, cpyD, frzV, frz, frz1, V.cells, cellsD, isCell, fillP, rowsy, zeros, litC, litD, splice, scalar, Option.bind_eq_bind, Option.bind_some, if_true, if_false, Option.map_some, Option.map_none, dInt, binV, isShift, intBin, Nat.reduceEqDiff, Bool.false_eq_true, List.getElem?_cons_zero, List.getElem?_cons_succ, reduceIte, Nat.add_zero, Nat.zero_add, Nat.add_assoc, Nat.reduceAdd, Nat.reduceMul, Nat.reduceLeDiff, Option.some.injEq, reduceCtorEq, Nat.add_left_cancel_iff, List.map_cons, List.map_nil, List.length_cons, List.length_nil, List.take_succ_cons, List.drop_succ_cons, List.take_zero, List.drop_zero, List.take_nil, List.drop_nil, List.all_cons, List.all_nil, Bool.and_self, Bool.and_true, List.cons_append, List.nil_append, List.append_nil, Int.toNat_natCast, Nat.mul_one, Int.natCast_nonneg, and_self, and_true, true_and, Nat.le_refl, Nat.zero_le])
    refine seqW_nil (wp_seq (wp_reg ?_))
    iterate 3 (refine seqW_cons rfl ?_; simp only [Nat.add_eq_left, Nat.left_eq_add, oneW_some, stepC, step, evX, pureD, loadD, storeD, lenD, asLit, asInt, asBool, getE_cons, putE, updH, getH_cons, iadrD, rowsOf, appR, appD, srcOf, cpyD, frzV, frz, frz1, V.cells, cellsD, isCell, fillP, rowsy, zeros, litC, litD, splice, scalar, Option.bind_eq_bind, Option.bind_some, if_true, if_false, Option.map_some, Option.map_none, dInt, binV, isShift, intBin, Nat.reduceEqDiff, Bool.false_eq_true, List.getElem?_cons_zero, List.getElem?_cons_succ, reduceIte, Nat.add_zero, Nat.zero_add, Nat.add_assoc, Nat.reduceAdd, Nat.reduceMul, Nat.reduceLeDiff, Option.some.injEq, reduceCtorEq, Nat.add_left_cancel_iff, List.map_cons, List.map_nil, List.length_cons, List.length_nil, List.take_succ_cons, List.drop_succ_cons, List.take_zero, List.drop_zero, List.take_nil, List.drop_nil, List.all_cons, List.all_nil, Bool.and_self, Bool.and_true, List.cons_append, List.nil_append, List.append_nil, Int.toNat_natCast, Nat.mul_one, Int.natCast_nonneg, and_self, and_true, true_and, Nat.le_refl, Nat.zero_le])
    refine seqW_nil (wp_seq (wp_reg ?_))
    iterate 2 (refine seqW_cons rfl ?_; simp only [Nat.add_eq_left, Nat.left_eq_add, oneW_some, stepC, step, evX, pureD, loadD, storeD, lenD, asLit, asInt, asBool, getE_cons, putE, updH, getH_cons, iadrD, rowsOf, appR, appD, srcOf, cpyD, frzV, frz, frz1, V.cells, cellsD, isCell, fillP, rowsy, zeros, litC, litD, splice, scalar, Option.bind_eq_bind, Option.bind_some, if_true, if_false, Option.map_some, Option.map_none, dInt, binV, isShift, intBin, Nat.reduceEqDiff, Bool.false_eq_true, List.getElem?_cons_zero, List.getElem?_cons_succ, reduceIte, Nat.add_zero, Nat.zero_add, Nat.add_assoc, Nat.reduceAdd, Nat.reduceMul, Nat.reduceLeDiff, Option.some.injEq, reduceCtorEq, Nat.add_left_cancel_iff, List.map_cons, List.map_nil, List.length_cons, List.length_nil, List.take_succ_cons, List.drop_succ_cons, List.take_zero, List.drop_zero, List.take_nil, List.drop_nil, List.all_cons, List.all_nil, Bool.and_self, Bool.and_true, List.cons_append, List.nil_append, List.append_nil, Int.toNat_natCast, Nat.mul_one, Int.natCast_nonneg, and_self, and_true, true_and, Nat.le_refl, Nat.zero_le])
    refine seqW_nil (wp_seq (wp_seq (wp_reg ?_)))
    iterate 1 (refine seqW_cons rfl ?_; simp only [Nat.add_eq_left, Nat.left_eq_add, oneW_some, stepC, step, evX, pureD, loadD, storeD, lenD, asLit, asInt, asBool, getE_cons, putE, updH, getH_cons, iadrD, rowsOf, appR, appD, srcOf, cpyD, frzV, frz, frz1, V.cells, cellsD, isCell, fillP, rowsy, zeros, litC, litD, splice, scalar, Option.bind_eq_bind, Option.bind_some, if_true, if_false, Option.map_some, Option.map_none, dInt, binV, isShift, intBin, Nat.reduceEqDiff, Bool.false_eq_true, List.getElem?_cons_zero, List.getElem?_cons_succ, reduceIte, Nat.add_zero, Nat.zero_add, Nat.add_assoc, Nat.reduceAdd, Nat.reduceMul, Nat.reduceLeDiff, Option.some.injEq, reduceCtorEq, Nat.add_left_cancel_iff, List.map_cons, List.map_nil, List.length_cons, List.length_nil, List.take_succ_cons, List.drop_succ_cons, List.take_zero, List.drop_zero, List.take_nil, List.drop_nil, List.all_cons, List.all_nil, Bool.and_self, Bool.and_true, List.cons_append, List.nil_append, List.append_nil, Int.toNat_natCast, Nat.mul_one, Int.natCast_nonneg, and_self, and_true, true_and, Nat.le_refl, Nat.zero_le])
    refine seqW_nil (wp_block ?_)
    have hs := hO _ (secAt_mem l 0 h1)
    refine wp_loop (cop_first F (p1 := N) (p2 := N + 1) (p3 := N + 3) (d1 := .c (boolC de)) (d2 := .c (boolC ar)) (d3 := .c (intC le)) (d4 := .c (boolC de)) (d5 := .c (boolC ar)) (d6 := .c (intC le)) (by simp only [getE_cons, Nat.reduceEqDiff, if_false, if_true]) (by simp only [getE_cons, Nat.reduceEqDiff, if_false, if_true]) (by simp only [getE_cons, Nat.reduceEqDiff, if_false, if_true]) (by simp only [getE_cons, if_true]; rfl)
      (by simp [getH_cons, boolC, intC]) h1 (cells_at hO h1) (by rw [bytesC_len]; exact hs.2) (by rw [bytesC_len]; exact hs.1) (by simp [getH_cons, boolC, intC]) (by omega) (by omega) ?_)
    intro s g1 g2 g3 g4 g5 g6 g7 g8 g9 g10
    obtain ⟨se, sh, sn⟩ := s
    simp only at g1 g2 g3 g4 g5 g6 g7 g8 g9 g10
    subst g1
    have ho' : Owned (l.take 1) (N + 8) (N + 8 + 26) [(N + 8 + 14, N + 8 + 17)] sh (N + 8 + 32) := by
      rw [take_succ_at l 0 h1]
      refine ⟨g7, ⟨g8, g9, trivial⟩, ?_, ?_⟩
      · simp [flat]
      · intro x hx; simp [flat] at hx; omega
    refine cop_loop F l hO hn N (N + 1) (N + 3) (N + 8) sh (.c (boolC de)) (.c (boolC ar)) (.c (intC le)) (.c (boolC de)) (.c (boolC ar)) (.c (intC le)) (by rw [g10 N (by omega) (by omega)]; simp [getH_cons, boolC, intC]) (by omega) (by omega) (by omega) ?_ (l.length - 1) 1 _ _ se sh _ (by omega) (by omega) g2 g3 g4 g5 g6 ho' (fun _ _ _ => rfl)
    intro s rid ids k1 k2 k3 k4 k5 k6
    obtain ⟨te, th, tn⟩ := s
    simp only at k1 k2 k3 k4 k5 k6
    simp only [if_true]
    have hp2 : getH th (N + 1) = .box [.full [] 0, .c (.lit (.bool false)), .c (.lit (.bool false)), .c (.lit (.int .i64 0))] := by
      rw [k6 (N + 1) (by omega) (by omega), g10 (N + 1) (by omega) (by omega)]; simp [getH_cons]
    refine wp_seq (wp_reg ?_)
    iterate 2 (refine seqW_cons rfl ?_; simp only [Nat.add_eq_left, Nat.left_eq_add, oneW_some, stepC, step, evX, pureD, loadD, storeD, lenD, asLit, asInt, asBool, getE_cons, putE, updH, getH_cons, iadrD, rowsOf, appR, appD, srcOf, cpyD, frzV, frz, frz1, V.cells, cellsD, isCell, fillP, rowsy, zeros, litC, litD, splice, scalar, Option.bind_eq_bind, Option.bind_some, if_true, if_false, Option.map_some, Option.map_none, dInt, binV, isShift, intBin, Nat.reduceEqDiff, Bool.false_eq_true, List.getElem?_cons_zero, List.getElem?_cons_succ, reduceIte, Nat.add_zero, Nat.zero_add, Nat.add_assoc, Nat.reduceAdd, Nat.reduceMul, Nat.reduceLeDiff, Option.some.injEq, reduceCtorEq, Nat.add_left_cancel_iff, List.map_cons, List.map_nil, List.length_cons, List.length_nil, List.take_succ_cons, List.drop_succ_cons, List.take_zero, List.drop_zero, List.take_nil, List.drop_nil, List.all_cons, List.all_nil, Bool.and_self, Bool.and_true, List.cons_append, List.nil_append, List.append_nil, Int.toNat_natCast, Nat.mul_one, Int.natCast_nonneg, and_self, and_true, true_and, Nat.le_refl, Nat.zero_le, k2, k3, k4, hp2])
    refine seqW_nil (wp_ret ⟨rfl, rid, ids, ?_, ?_, ?_, ?_, ?_⟩)
    · simp only [getE_cons, Nat.reduceEqDiff, if_false]; exact k2
    · simp only [getH_cons, if_true, boolC, intC]
    · have hne : ∀ x, N + 8 ≤ x → (N + 1 = x) = False := fun x hx => by simp; omega
      refine ⟨?_, ?_, k5.nd, fun x hx => ?_⟩
      · simp only [getH_cons, hne rid (k5.lo rid (by simp)).1, if_false]; exact k5.hr
      · exact k5.held.frame fun x hx => by simp only [getH_cons, hne x (k5.lo x (by simp [hx])).1, if_false]
      · have := k5.lo x hx; simp only; omega
    · simp only; omega
    · intro x hx
      simp only [getH_cons, show (N + 1 = x) = False by simp; omega, if_false]
      rw [k6 x (by omega) (by omega), g10 x (by omega) (by omega)]
      simp [getH_cons, show ¬ (N + 3 = x) by omega, show ¬ (N + 1 = x) by omega, show ¬ (N = x) by omega]
  obtain ⟨x, s, hrun, rfl, rid, ids, g1, g2, g3, g4, g5⟩ := key
  refine ⟨rid, ids, s.heap, s.nx, ?_, g3, g4, g5⟩
  refine RunB.fn (I := I38) (by rw [hF]; rfl) rfl hrun (by simp) ?_
  simp [I38, resD, g1, g2, loadD]

end Go.Proofs.Ytfphnpelampoeaa.Rw

