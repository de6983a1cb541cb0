/-
  Flush, by the program and by the reference.
-/
import Derived.Test.YtfphnpelampoeaaRw15M
set_option linter.unusedVariables false
set_option linter.unusedSimpArgs false
namespace Go.Proofs.Ytfphnpelampoeaa.Rw
open Go Go.Ez

theorem fl_dead {F : Tab} (hF : F.code = code) (hN : ∀ f vs, f ≠ 10 → F.nat f vs = none) (l : List Sec) (ar : Bool) (le : Int) : RunF F 22 [dskV l true ar le] [dskV l true ar le, .one (intC 51)] := by
  refine RunF.diskE (I := I22) (t := 2) (t2 := 3) (by rw [hF]; rfl) (hN 22 _ (by omega)) rfl rfl rfl ?_
  unfold I22
  simp only [bindArgs, boolC, intC, secsS, bytesS, V.toD, dskV, List.map_cons, List.map_nil]
  refine wp_seq (wp_sq ?_)
  iterate 3 (refine sq_cons rfl ?_; simp only [ZS, Ez.lenD, Ez.appR, Ez.appD, Ez.srcOf, Ez.cpyD, Ez.frzV, Ez.frz, Ez.frz1, Ez.splice, if_true, if_false, Ez.intBin, Nat.reduceEqDiff, reduceIte, Nat.reduceAdd, Nat.reduceMul, Nat.reduceLeDiff, reduceCtorEq, Int.reduceLE, Int.reduceToNat, Nat.reduceSub, Bool.not_true, Bool.not_false])
  refine sq_nil (wp_seq (wp_seq (wp_sq ?_)))
  iterate 2 (refine sq_cons rfl ?_; simp only [ZS, Ez.lenD, Ez.appR, Ez.appD, Ez.srcOf, Ez.cpyD, Ez.frzV, Ez.frz, Ez.frz1, Ez.splice, if_true, if_false, Ez.intBin, Nat.reduceEqDiff, reduceIte, Nat.reduceAdd, Nat.reduceMul, Nat.reduceLeDiff, reduceCtorEq, Int.reduceLE, Int.reduceToNat, Nat.reduceSub, Bool.not_true, Bool.not_false])
  refine sq_nil (wp_condT rfl (wp_seq (wp_sq ?_)))
  iterate 3 (refine sq_cons rfl ?_; simp only [ZS, Ez.lenD, Ez.appR, Ez.appD, Ez.srcOf, Ez.cpyD, Ez.frzV, Ez.frz, Ez.frz1, Ez.splice, if_true, if_false, Ez.intBin, Nat.reduceEqDiff, reduceIte, Nat.reduceAdd, Nat.reduceMul, Nat.reduceLeDiff, reduceCtorEq, Int.reduceLE, Int.reduceToNat, Nat.reduceSub, Bool.not_true, Bool.not_false])
  refine sq_nil (wp_ret ⟨rfl, ⟨1, ?_, .c (secsS l), [], ?_, rfl⟩, rfl⟩)
  · simp only [getE_cons, Nat.reduceEqDiff, if_false, if_true]
  · simp only [getH_cons, if_true, if_false, Nat.reduceEqDiff]; rfl

theorem fl_off {F : Tab} (hF : F.code = code) (hN : ∀ f vs, f ≠ 10 → F.nat f vs = none) (l : List Sec) (ar : Bool) (le le1 : Int) (hu : RunF F 37 [dskV l false ar le] [dskV l true ar le1, .one (boolC false)]) : RunF F 22 [dskV l false ar le] [dskV l true ar le1, .one (intC 51)] := by
  refine RunF.diskE (I := I22) (t := 2) (t2 := 3) (by rw [hF]; rfl) (hN 22 _ (by omega)) rfl rfl rfl ?_
  unfold I22
  simp only [bindArgs, boolC, intC, secsS, bytesS, V.toD, dskV, List.map_cons, List.map_nil]
  refine wp_seq (wp_sq ?_)
  iterate 3 (refine sq_cons rfl ?_; simp only [ZS, Ez.lenD, Ez.appR, Ez.appD, Ez.srcOf, Ez.cpyD, Ez.frzV, Ez.frz, Ez.frz1, Ez.splice, if_true, if_false, Ez.intBin, Nat.reduceEqDiff, reduceIte, Nat.reduceAdd, Nat.reduceMul, Nat.reduceLeDiff, reduceCtorEq, Int.reduceLE, Int.reduceToNat, Nat.reduceSub, Bool.not_true, Bool.not_false])
  refine sq_nil (wp_seq (wp_seq (wp_sq ?_)))
  iterate 2 (refine sq_cons rfl ?_; simp only [ZS, Ez.lenD, Ez.appR, Ez.appD, Ez.srcOf, Ez.cpyD, Ez.frzV, Ez.frz, Ez.frz1, Ez.splice, if_true, if_false, Ez.intBin, Nat.reduceEqDiff, reduceIte, Nat.reduceAdd, Nat.reduceMul, Nat.reduceLeDiff, reduceCtorEq, Int.reduceLE, Int.reduceToNat, Nat.reduceSub, Bool.not_true, Bool.not_false])
  refine sq_nil (wp_condF rfl (wp_skip ?_))
  refine wp_seq (wp_sq ?_)
  iterate 1 (refine sq_cons rfl ?_; simp only [ZS, Ez.lenD, Ez.appR, Ez.appD, Ez.srcOf, Ez.cpyD, Ez.frzV, Ez.frz, Ez.frz1, Ez.splice, if_true, if_false, Ez.intBin, Nat.reduceEqDiff, reduceIte, Nat.reduceAdd, Nat.reduceMul, Nat.reduceLeDiff, reduceCtorEq, Int.reduceLE, Int.reduceToNat, Nat.reduceSub, Bool.not_true, Bool.not_false])
  refine sq_call (us := []) (vs := [dskV l false ar le]) (by rfl) hu ?_
  simp only [retD, V.toD, Ez.putE, Ez.updH, List.map_cons, List.map_nil, dskV, boolC, intC, secsS]
  iterate 5 (refine sq_cons rfl ?_; simp only [ZS, Ez.lenD, Ez.appR, Ez.appD, Ez.srcOf, Ez.cpyD, Ez.frzV, Ez.frz, Ez.frz1, Ez.splice, if_true, if_false, Ez.intBin, Nat.reduceEqDiff, reduceIte, Nat.reduceAdd, Nat.reduceMul, Nat.reduceLeDiff, reduceCtorEq, Int.reduceLE, Int.reduceToNat, Nat.reduceSub, Bool.not_true, Bool.not_false])
  refine sq_nil (wp_seq (wp_seq (wp_sq ?_)))
  iterate 2 (refine sq_cons rfl ?_; simp only [ZS, Ez.lenD, Ez.appR, Ez.appD, Ez.srcOf, Ez.cpyD, Ez.frzV, Ez.frz, Ez.frz1, Ez.splice, if_true, if_false, Ez.intBin, Nat.reduceEqDiff, reduceIte, Nat.reduceAdd, Nat.reduceMul, Nat.reduceLeDiff, reduceCtorEq, Int.reduceLE, Int.reduceToNat, Nat.reduceSub, Bool.not_true, Bool.not_false])
  refine sq_nil (wp_condT rfl (wp_seq (wp_sq ?_)))
  iterate 3 (refine sq_cons rfl ?_; simp only [ZS, Ez.lenD, Ez.appR, Ez.appD, Ez.srcOf, Ez.cpyD, Ez.frzV, Ez.frz, Ez.frz1, Ez.splice, if_true, if_false, Ez.intBin, Nat.reduceEqDiff, reduceIte, Nat.reduceAdd, Nat.reduceMul, Nat.reduceLeDiff, reduceCtorEq, Int.reduceLE, Int.reduceToNat, Nat.reduceSub, Bool.not_true, Bool.not_false])
  refine sq_nil (wp_ret ⟨rfl, ⟨1, ?_, .c (secsS l), [], ?_, rfl⟩, rfl⟩)
  · simp only [getE_cons, Nat.reduceEqDiff, if_false, if_true]
  · simp only [getH_cons, if_true, if_false, Nat.reduceEqDiff]; rfl

theorem fl_ok {F : Tab} (hF : F.code = code) (hN : ∀ f vs, f ≠ 10 → F.nat f vs = none) (l : List Sec) (hO : Okay l) (h1 : 1 ≤ l.length) (hn : l.length ≤ 256) (ar : Bool) (le le1 : Int) (hu : RunF F 37 [dskV l false ar le] [dskV l false ar le1, .one (boolC true)]) : RunF F 22 [dskV l false ar le] [dskV (settleP l) false ar le1, .one (intC 0)] := by
  refine RunF.diskE (I := I22) (t := 2) (t2 := 3) (by rw [hF]; rfl) (hN 22 _ (by omega)) rfl rfl rfl ?_
  unfold I22
  simp only [bindArgs, boolC, intC, secsS, bytesS, V.toD, dskV, List.map_cons, List.map_nil]
  refine wp_seq (wp_sq ?_)
  iterate 3 (refine sq_cons rfl ?_; simp only [ZS, Ez.lenD, Ez.appR, Ez.appD, Ez.srcOf, Ez.cpyD, Ez.frzV, Ez.frz, Ez.frz1, Ez.splice, if_true, if_false, Ez.intBin, Nat.reduceEqDiff, reduceIte, Nat.reduceAdd, Nat.reduceMul, Nat.reduceLeDiff, reduceCtorEq, Int.reduceLE, Int.reduceToNat, Nat.reduceSub, Bool.not_true, Bool.not_false])
  refine sq_nil (wp_seq (wp_seq (wp_sq ?_)))
  iterate 2 (refine sq_cons rfl ?_; simp only [ZS, Ez.lenD, Ez.appR, Ez.appD, Ez.srcOf, Ez.cpyD, Ez.frzV, Ez.frz, Ez.frz1, Ez.splice, if_true, if_false, Ez.intBin, Nat.reduceEqDiff, reduceIte, Nat.reduceAdd, Nat.reduceMul, Nat.reduceLeDiff, reduceCtorEq, Int.reduceLE, Int.reduceToNat, Nat.reduceSub, Bool.not_true, Bool.not_false])
  refine sq_nil (wp_condF rfl (wp_skip ?_))
  refine wp_seq (wp_sq ?_)
  iterate 1 (refine sq_cons rfl ?_; simp only [ZS, Ez.lenD, Ez.appR, Ez.appD, Ez.srcOf, Ez.cpyD, Ez.frzV, Ez.frz, Ez.frz1, Ez.splice, if_true, if_false, Ez.intBin, Nat.reduceEqDiff, reduceIte, Nat.reduceAdd, Nat.reduceMul, Nat.reduceLeDiff, reduceCtorEq, Int.reduceLE, Int.reduceToNat, Nat.reduceSub, Bool.not_true, Bool.not_false])
  refine sq_call (us := []) (vs := [dskV l false ar le]) (by rfl) hu ?_
  simp only [retD, V.toD, Ez.putE, Ez.updH, List.map_cons, List.map_nil, dskV, boolC, intC, secsS]
  iterate 5 (refine sq_cons rfl ?_; simp only [ZS, Ez.lenD, Ez.appR, Ez.appD, Ez.srcOf, Ez.cpyD, Ez.frzV, Ez.frz, Ez.frz1, Ez.splice, if_true, if_false, Ez.intBin, Nat.reduceEqDiff, reduceIte, Nat.reduceAdd, Nat.reduceMul, Nat.reduceLeDiff, reduceCtorEq, Int.reduceLE, Int.reduceToNat, Nat.reduceSub, Bool.not_true, Bool.not_false])
  refine sq_nil (wp_seq (wp_seq (wp_sq ?_)))
  iterate 2 (refine sq_cons rfl ?_; simp only [ZS, Ez.lenD, Ez.appR, Ez.appD, Ez.srcOf, Ez.cpyD, Ez.frzV, Ez.frz, Ez.frz1, Ez.splice, if_true, if_false, Ez.intBin, Nat.reduceEqDiff, reduceIte, Nat.reduceAdd, Nat.reduceMul, Nat.reduceLeDiff, reduceCtorEq, Int.reduceLE, Int.reduceToNat, Nat.reduceSub, Bool.not_true, Bool.not_false])
  refine sq_nil (wp_condF rfl (wp_skip ?_))
  refine wp_seq (wp_sq ?_)
  iterate 2 (refine sq_cons rfl ?_; simp only [ZS, Ez.lenD, Ez.appR, Ez.appD, Ez.srcOf, Ez.cpyD, Ez.frzV, Ez.frz, Ez.frz1, Ez.splice, if_true, if_false, Ez.intBin, Nat.reduceEqDiff, reduceIte, Nat.reduceAdd, Nat.reduceMul, Nat.reduceLeDiff, reduceCtorEq, Int.reduceLE, Int.reduceToNat, Nat.reduceSub, Bool.not_true, Bool.not_false])
  refine sq_call (us := []) (vs := [.one (secsS l)]) (by rfl) (settle36 hF hN l hO h1 hn) ?_
  simp only [retD, V.toD, Ez.putE, Ez.updH, List.map_cons, List.map_nil, secsS]
  iterate 2 (refine sq_cons rfl ?_; simp only [ZS, Ez.lenD, Ez.appR, Ez.appD, Ez.srcOf, Ez.cpyD, Ez.frzV, Ez.frz, Ez.frz1, Ez.splice, if_true, if_false, Ez.intBin, Nat.reduceEqDiff, reduceIte, Nat.reduceAdd, Nat.reduceMul, Nat.reduceLeDiff, reduceCtorEq, Int.reduceLE, Int.reduceToNat, Nat.reduceSub, Bool.not_true, Bool.not_false])
  refine sq_nil (wp_seq (wp_sq ?_))
  iterate 3 (refine sq_cons rfl ?_; simp only [ZS, Ez.lenD, Ez.appR, Ez.appD, Ez.srcOf, Ez.cpyD, Ez.frzV, Ez.frz, Ez.frz1, Ez.splice, if_true, if_false, Ez.intBin, Nat.reduceEqDiff, reduceIte, Nat.reduceAdd, Nat.reduceMul, Nat.reduceLeDiff, reduceCtorEq, Int.reduceLE, Int.reduceToNat, Nat.reduceSub, Bool.not_true, Bool.not_false])
  refine sq_nil (wp_ret ⟨rfl, ⟨1, ?_, .c (secsS (settleP l)), [], ?_, rfl⟩, rfl⟩)
  · simp only [getE_cons, Nat.reduceEqDiff, if_false, if_true]
  · simp only [getH_cons, if_true, if_false, Nat.reduceEqDiff]; rfl

theorem s24_round (F : Tab) {Q : Ex → St → Prop} {l : List Sec} (hO : Okay l) (hn : l.length ≤ 256) {B rid N q k : Nat} {ids : List (Nat × Nat)} {h : Heap} {d1 d2 d3 D2 : D} {e : Env} (ho : Owned l B rid ids h N) (hBN : B ≤ N) (hk : k < l.length) (hqN : q < N) (hqB : ∀ x ∈ rid :: flat ids, x ≠ q)
    (e2 : getE e 2 = D2) (e4 : getE e 4 = .loc q 0) (e5 : getE e 5 = .c (.lit (.int .i64 (k : Int)))) (hq : getH h q = .box [.arr rid 0 l.length, d1, d2, d3])
    (hQ : ∀ (s : St) (ids' : List (Nat × Nat)), N ≤ s.nx → getE s.env 2 = D2 → getE s.env 4 = .loc q 0 → getE s.env 5 = .c (.lit (.int .i64 ((k + 1 : Nat) : Int))) → getH s.heap q = .box [.arr rid 0 l.length, d1, d2, d3] → Owned (l.set k ⟨(secAt l k).data, (secAt l k).data, false⟩) B rid ids' s.heap s.nx → (∀ x ∈ rid :: flat ids', x ≠ q) →
      (∀ x, x < N → x ≠ rid → getH s.heap x = getH h x) → Q .normal s) : WP F B24_0 ⟨e, h, N⟩ Q := by
  obtain ⟨i1, a, b, i2, s1, s2, s3, s4, s5, s6, s7⟩ := ho.split hk
  have hlo := ho.lo
  have hnd := ho.nd
  rw [s1, flat_app, show flat ((a, b) :: i2) = a :: b :: flat i2 from rfl] at hlo hnd hqB
  have hr : getH h rid = .rows (rowD i1 (l.take k) ++ .arr a 0 128 :: .arr b 0 128 :: .c (boolC (secAt l k).fresh) :: rowD i2 (l.drop (k + 1))) 3 32 := by rw [← s7]; exact ho.hr
  have hP : (rowD i1 (l.take k)).length = k * 3 := by rw [rowD_len (by rw [s2, List.length_take]; omega), List.length_take]; congr 1; omega
  have hL : ∀ x y : D, (rowD i1 (l.take k) ++ x :: .arr b 0 128 :: y :: rowD i2 (l.drop (k + 1))).length = l.length * 3 := fun x y => by
    rw [List.length_append, hP]; simp [rowD_len s6.len]; omega
  have g1 : (rowD i1 (l.take k) ++ .arr a 0 128 :: .arr b 0 128 :: .c (boolC (secAt l k).fresh) :: rowD i2 (l.drop (k + 1)))[k * 3 + 1]? = some (.arr b 0 128) := by
    rw [List.getElem?_append_right (by omega), hP, Nat.add_sub_cancel_left]; rfl
  have sp0 : ∀ x : D, splice (rowD i1 (l.take k) ++ .arr a 0 128 :: .arr b 0 128 :: .c (boolC (secAt l k).fresh) :: rowD i2 (l.drop (k + 1))) (k * 3) [x] = rowD i1 (l.take k) ++ x :: .arr b 0 128 :: .c (boolC (secAt l k).fresh) :: rowD i2 (l.drop (k + 1)) := fun x => by rw [← hP]; exact splice_mid0
  have sp2 : ∀ x y : D, splice (rowD i1 (l.take k) ++ x :: .arr b 0 128 :: .c (boolC (secAt l k).fresh) :: rowD i2 (l.drop (k + 1))) (k * 3 + 2) [y] = rowD i1 (l.take k) ++ x :: .arr b 0 128 :: y :: rowD i2 (l.drop (k + 1)) := fun x y => by rw [← hP]; exact splice_mid2
  have hlt : decide ((k : Int) < (l.length : Int)) = true := by simpa using hk
  have f1 : ((k : Int) < (l.length : Int)) = True := by simpa using hk
  have f2 : (k * 3 + 1 ≤ l.length * 3) = True := by simp; omega
  have f3 : (k * 3 + 3 ≤ l.length * 3) = True := by simp; omega
  have p1 : ((0 : Nat) < 1) = True := by simp
  have r3 : (128 ≤ roomMax) = True := by simp [roomMax]
  have hs := hO _ (secAt_mem l k hk)
  have hbl : (bytesC (secAt l k).data).length = 128 := by rw [bytesC_len]; exact hs.1
  have tb : List.take 128 (bytesC (secAt l k).data) = bytesC (secAt l k).data := List.take_of_length_le (by omega)
  have lr := hlo rid (by simp)
  have lb := hlo b (by simp)
  have qr := hqB rid (by simp)
  have qb := hqB b (by simp)
  have brn : rid ≠ b := by rw [List.nodup_cons] at hnd; exact fun e => hnd.1 (by simp [e])
  have x1 : (q = rid) = False := by simp; omega
  have x2 : (rid = q) = False := by simp; omega
  have x3 : ∀ c, (N + c = q) = False := fun c => by simp; omega
  have x4 : ∀ c, (N + c = rid) = False := fun c => by simp; omega
  have x5 : ∀ c, (q = N + c) = False := fun c => by simp; omega
  have x6 : ∀ c, (rid = N + c) = False := fun c => by simp; omega
  have x7 : ∀ c, (N + c = b) = False := fun c => by simp; omega
  have x8 : (rid = b) = False := by simp; omega
  have x9 : (b = rid) = False := by simp; omega
  have xa : (b = q) = False := by simp; omega
  have xb : (q = b) = False := by simp; omega
  have hw : IntKind.wrap .i64 ((k : Int) + 1) = ((k + 1 : Nat) : Int) := by rw [Go.Proofs.Ytfphnpelampoeaa.wrap_i64 _ (by omega)]; rfl
  unfold B24_0
  refine wp_seq (wp_seq (wp_sq ?_))
  iterate 5 (refine sq_cons rfl ?_; simp only [ZS, Ez.lenD, Ez.appR, Ez.appD, Ez.srcOf, Ez.cpyD, Ez.frzV, Ez.frz, Ez.frz1, Ez.splice, if_true, if_false, Ez.intBin, Nat.reduceEqDiff, reduceIte, Nat.reduceAdd, Nat.reduceMul, Nat.reduceLeDiff, reduceCtorEq, Int.reduceLE, Int.reduceToNat, Nat.reduceSub, Bool.not_true, Bool.not_false, e4, e5, hq, hlt])
  refine sq_nil (wp_condT rfl (wp_skip ?_))
  refine wp_seq (wp_block (wp_dr ?_))
  iterate 19 (refine dr_cons rfl ?_; simp only [ZS, Ez.lenD, Ez.appR, Ez.appD, Ez.srcOf, Ez.cpyD, Ez.frzV, Ez.frz, Ez.frz1, if_true, if_false, Ez.intBin, Nat.reduceEqDiff, reduceIte, Nat.reduceAdd, Nat.reduceMul, Nat.reduceLeDiff, reduceCtorEq, Int.reduceLE, Int.reduceToNat, Nat.reduceSub, Bool.not_true, Bool.not_false, e4, e5, hq, hr, s5, hL, g1, sp0, sp2, f1, f2, f3, p1, r3, hbl, tb, x1, x2, x3, x4, x5, x6, x7, x8, x9, xa, xb])
  refine dr_nil ⟨?_, ?_⟩
  · simp [drawOk, drawFrom, okRow, clash, meets, touches, frzIds, ids1, opX, tmpsX, Nat.testBit, evX, getE_cons, e4, e5, hq, hr, s5, x1, x2, x3, x4, x5, x6, x7, x8, x9, xa, xb, getH_cons]
  refine wp_sq ?_
  iterate 3 (refine sq_cons rfl ?_; simp only [ZS, Ez.lenD, Ez.appR, Ez.appD, Ez.srcOf, Ez.cpyD, Ez.frzV, Ez.frz, Ez.frz1, Ez.splice, if_true, if_false, Ez.intBin, Nat.reduceEqDiff, reduceIte, Nat.reduceAdd, Nat.reduceMul, Nat.reduceLeDiff, reduceCtorEq, Int.reduceLE, Int.reduceToNat, Nat.reduceSub, Bool.not_true, Bool.not_false, e5, hw])
  have key : ∀ (H : Heap), getH H rid = .rows (rowD i1 (l.take k) ++ .arr (N + 17) 0 128 :: .arr b 0 128 :: .c (boolC false) :: rowD i2 (l.drop (k + 1))) 3 32 → getH H (N + 17) = .arr (bytesC (secAt l k).data) 1 0 5 → (∀ x, x < N → x ≠ rid → getH H x = getH h x) → Owned (l.set k ⟨(secAt l k).data, (secAt l k).data, false⟩) B rid (i1 ++ (N + 17, b) :: i2) H (N + 27) := by
    intro H k1 k2 k3
    rw [List.nodup_cons] at hnd
    refine ho.put hk s1 s2 s3 s6 (by omega) (by omega) hBN k1 k2 (by rw [k3 b lb.2 (by omega)]; exact s5) fun x hx => k3 x ?_ ?_
    · refine (hlo x ?_).2
      simp only [List.mem_append] at hx
      simp only [List.mem_cons, List.mem_append]
      rcases hx with hx | hx
      · exact .inr (.inl hx)
      · exact .inr (.inr (.inr (.inr hx)))
    · intro e
      subst e
      simp only [List.mem_append] at hx
      rcases hx with hx | hx
      · exact hnd.1 (by simp [hx])
      · exact hnd.1 (by simp [hx])
  refine sq_nil (hQ _ (i1 ++ (N + 17, b) :: i2) ?_ ?_ ?_ ?_ ?_ (key _ ?_ ?_ ?_) ?_ ?_)
  · simp only; omega
  · simp only [getE_cons, Nat.reduceEqDiff, if_false, if_true, e2]
  · simp only [getE_cons, Nat.reduceEqDiff, if_false, if_true, e4]
  · simp only [getE_cons, Nat.reduceEqDiff, if_false, if_true]
  · simp only [getH_cons, x2, x3, if_false, hq]
  · simp only [getH_cons, if_true]; rfl
  · simp only [getH_cons, x6, if_true, if_false]
  · intro x y1 y2
    simp only [getH_cons, show (rid = x) = False by simp; omega, show (N + 17 = x) = False by simp; omega, if_false]
  · intro x hx
    rw [flat_app, show flat ((N + 17, b) :: i2) = (N + 17) :: b :: flat i2 from rfl] at hx
    simp only [List.mem_cons, List.mem_append] at hx
    rcases hx with hx | hx | hx | hx | hx
    · exact hqB x (by simp [hx])
    · exact hqB x (by simp [hx])
    · omega
    · exact hqB x (by simp [hx])
    · exact hqB x (by simp [hx])
  · intro x y1 y2
    simp only [getH_cons, show (rid = x) = False by simp; omega, show (N + 17 = x) = False by simp; omega, if_false]

theorem s24_out (F : Tab) {Q : Ex → St → Prop} {e : Env} {h : Heap} {N q n rid : Nat} {d1 d2 d3 : D} (e4 : getE e 4 = .loc q 0) (e5 : getE e 5 = .c (.lit (.int .i64 (n : Int)))) (hq : getH h q = .box [.arr rid 0 n, d1, d2, d3]) (hQ : ∀ s : St, s.heap = h → s.nx = N + 5 → getE s.env 2 = getE e 2 → getE s.env 4 = getE e 4 → Q (.exit 0) s) : WP F B24_0 ⟨e, h, N⟩ Q := by
  have hlt : decide ((n : Int) < (n : Int)) = false := by simp
  unfold B24_0
  refine wp_seq (wp_seq (wp_sq ?_))
  iterate 5 (refine sq_cons rfl ?_; simp only [ZS, Ez.lenD, Ez.appR, Ez.appD, Ez.srcOf, Ez.cpyD, Ez.frzV, Ez.frz, Ez.frz1, Ez.splice, if_true, if_false, Ez.intBin, Nat.reduceEqDiff, reduceIte, Nat.reduceAdd, Nat.reduceMul, Nat.reduceLeDiff, reduceCtorEq, Int.reduceLE, Int.reduceToNat, Nat.reduceSub, Bool.not_true, Bool.not_false, e4, e5, hq, hlt])
  refine sq_nil (wp_condF rfl (wp_exit (hQ _ rfl rfl ?_ ?_)))
  · simp only [getE_cons, Nat.reduceEqDiff, if_false, if_true]
  · simp only [getE_cons, Nat.reduceEqDiff, if_false, if_true]

theorem s24_loop (F : Tab) (l : List Sec) (hO : Okay l) (hn : l.length ≤ 256) (B rid q : Nat) (d1 d2 d3 D2 : D) (N0 : Nat) (h0 : Heap) (hrB : B ≤ rid) {Q : Ex → St → Prop}
    (hQ : ∀ (s : St) (ids : List (Nat × Nat)), getE s.env 2 = D2 → getE s.env 4 = .loc q 0 → getH s.heap q = .box [.arr rid 0 l.length, d1, d2, d3] → Owned (settleP l) B rid ids s.heap s.nx → (∀ x ∈ rid :: flat ids, x ≠ q) → (∀ x, x < B → getH s.heap x = getH h0 x) → Q (.exit 0) s) :
    ∀ (m k N : Nat) (e : Env) (h : Heap) (ids : List (Nat × Nat)), k + m = l.length → B ≤ N → q < N → getE e 2 = D2 → getE e 4 = .loc q 0 → getE e 5 = .c (.lit (.int .i64 (k : Int))) → getH h q = .box [.arr rid 0 l.length, d1, d2, d3] → Owned (setK k l) B rid ids h N → (∀ x ∈ rid :: flat ids, x ≠ q) → (∀ x, x < B → getH h x = getH h0 x) → WP F (.loop B24_0) ⟨e, h, N⟩ Q
  | 0, k, N, e, h, ids, hk, hB, hqN, e2, e4, e5, hq, ho, hqi, hf => by
    have hkl : k = l.length := by omega
    subst hkl
    rw [setK_all] at ho
    refine wp_loop (s24_out F e4 e5 hq fun s g1 g2 g3 g4 => hQ s ids (by rw [g3]; exact e2) (by rw [g4]; exact e4) (by rw [g1]; exact hq) ?_ hqi (by rw [g1]; exact hf))
    rw [g1, g2]
    exact ⟨ho.hr, ho.held, ho.nd, fun x hx => ⟨(ho.lo x hx).1, by have := (ho.lo x hx).2; omega⟩⟩
  | m + 1, k, N, e, h, ids, hk, hB, hqN, e2, e4, e5, hq, ho, hqi, hf => by
    have hkl : k < l.length := by omega
    have hlen := setK_len k l
    refine wp_loop (s24_round F (l := setK k l) (hO.setK k) (by rw [hlen]; exact hn) ho hB (by rw [hlen]; exact hkl) hqN hqi e2 e4 e5 (by rw [hlen]; exact hq) ?_)
    intro s ids' g0 g1 g2 g3 g4 g5 g6 g7
    obtain ⟨se, sh, sn⟩ := s
    rw [hlen] at g4
    rw [setK_at k l hkl, setK_succ k l hkl] at g5
    exact s24_loop F l hO hn B rid q d1 d2 d3 D2 N0 h0 hrB hQ m (k + 1) sn se sh ids' (by omega) (by simp only at g0; omega) (by simp only at g0; omega) g1 g2 g3 g4 g5 g6 fun x hx => by rw [← hf x hx]; exact g7 x (by omega) (by omega)

end Go.Proofs.Ytfphnpelampoeaa.Rw

