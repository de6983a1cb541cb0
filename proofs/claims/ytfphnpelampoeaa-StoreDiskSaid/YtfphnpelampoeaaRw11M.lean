/-
  Disks as results; how the cells of sectors are read and put.
-/
import Derived.Test.YtfphnpelampoeaaRw10M
set_option linter.unusedVariables false
set_option linter.unusedSimpArgs false
namespace Go.Proofs.Ytfphnpelampoeaa.Rw
open Go Go.Ez

theorem secsC_append (a b : List Sec) : secsC (a ++ b) = secsC a ++ secsC b := by simp [secsC]
theorem secC_len (s : Sec) : (secC s).length = 3 := rfl
theorem secsC_take : ∀ (k : Nat) (l : List Sec), (secsC l).take (k * 3) = secsC (l.take k)
  | 0, l => by simp [secsC]
  | k + 1, [] => by simp [secsC]
  | k + 1, s :: l => by
    rw [secsC_cons, List.take_succ_cons, secsC_cons, ← secsC_take k l, List.take_append, secC_len, List.take_of_length_le (by rw [secC_len]; omega)]
    congr 2
    omega

theorem secsC_get (k j : Nat) (l : List Sec) (h : k < l.length) (hj : j < 3) : (secsC l)[k * 3 + j]? = (secC (secAt l k))[j]? := by
  rw [← List.getElem?_drop, secsC_at k l h, List.getElem?_append_left (by rw [secC_len]; exact hj)]

theorem secsC_get0 (k : Nat) (l : List Sec) (h : k < l.length) : (secsC l)[k * 3]? = some (bytesS (secAt l k).sure) := secsC_get k 0 l h (by omega)
theorem secsC_get1 (k : Nat) (l : List Sec) (h : k < l.length) : (secsC l)[k * 3 + 1]? = some (bytesS (secAt l k).data) := secsC_get k 1 l h (by omega)
theorem secsC_get2 (k : Nat) (l : List Sec) (h : k < l.length) : (secsC l)[k * 3 + 2]? = some (C.lit (.bool (secAt l k).fresh)) := secsC_get k 2 l h (by omega)

theorem secsC_put (k j : Nat) (l : List Sec) (h : k < l.length) (hj : j < 3) (x : C) (s : Sec) (hs : secC s = (secC (secAt l k)).take j ++ [x] ++ (secC (secAt l k)).drop (j + 1)) :
    (secsC l).take (k * 3 + j) ++ [x] ++ (secsC l).drop (k * 3 + j + 1) = secsC (l.set k s) := by
  rw [set_getD noSec s k l h, secsC_append, secsC_cons, hs, ← secsC_take]
  have e1 : (secsC l).take (k * 3 + j) = (secsC l).take (k * 3) ++ (secC (secAt l k)).take j := by
    rw [List.take_add, secsC_at k l h, List.take_append_of_le_length (by rw [secC_len]; omega)]
  have e2 : (secsC l).drop (k * 3 + j + 1) = (secC (secAt l k)).drop (j + 1) ++ secsC (l.drop (k + 1)) := by
    rw [Nat.add_assoc, ← List.drop_drop, secsC_at k l h, List.drop_append_of_le_length (by rw [secC_len]; omega)]
  rw [e1, e2]
  simp

theorem secsC_put0 (k : Nat) (l : List Sec) (h : k < l.length) (b : List UInt8) :
    (secsC l).take (k * 3) ++ bytesS b :: (secsC l).drop (k * 3 + 1) = secsC (l.set k { secAt l k with sure := b }) := by
  have := secsC_put k 0 l h (by omega) (bytesS b) { secAt l k with sure := b } rfl
  simpa using this
theorem secsC_put1 (k : Nat) (l : List Sec) (h : k < l.length) (b : List UInt8) :
    (secsC l).take (k * 3 + 1) ++ bytesS b :: (secsC l).drop (k * 3 + 2) = secsC (l.set k { secAt l k with data := b }) := by
  have := secsC_put k 1 l h (by omega) (bytesS b) { secAt l k with data := b } rfl
  simpa using this
theorem secsC_put2 (k : Nat) (l : List Sec) (h : k < l.length) (b : Bool) :
    (secsC l).take (k * 3 + 2) ++ C.lit (.bool b) :: (secsC l).drop (k * 3 + 3) = secsC (l.set k { secAt l k with fresh := b }) := by
  have := secsC_put k 2 l h (by omega) (C.lit (.bool b)) { secAt l k with fresh := b } rfl
  simpa using this


/-- a disk in a box -/
def BoxD (h : Heap) (q : Nat) (l : List Sec) (de ar : Bool) (le : Int) : Prop := ∃ X us, getH h q = .box [X, .c (boolC de), .c (boolC ar), .c (intC le)] ∧ frz h X = some (secsS l, us)

/-- it returns with a disk in a box, and with a number -/
def RetDE (t t2 : Nat) (l : List Sec) (de ar : Bool) (le : Int) (e : C) (x : Ex) (s : St) : Prop := x = .ret ∧ (∃ q, getE s.env t = .loc q 0 ∧ BoxD s.heap q l de ar le) ∧ getE s.env t2 = .c e
def RetDD (t : Nat) (l : List Sec) (de ar : Bool) (le : Int) (x : Ex) (s : St) : Prop := x = .ret ∧ ∃ q, getE s.env t = .loc q 0 ∧ BoxD s.heap q l de ar le

theorem frz_c (h : Heap) (c : C) : frz h (.c c) = some (c, []) := rfl

theorem frz_disk {h : Heap} {X : D} {l : List Sec} {us : List (Nat × Ez.Obj)} (hf : frz h X = some (secsS l, us)) (de ar : Bool) (le : Int) : frzV h (.agg [X, .c (boolC de), .c (boolC ar), .c (intC le)]) = some (dskV l de ar le, us) := by
  simp only [frzV, frzL, hf, frz_c, Option.bind_eq_bind, Option.bind_some, List.append_nil, updH]
  rfl

theorem RunF.diskE {F : Tab} {f t t2 : Nat} {I : IFunc} {vs : List V} {ds : List D} {l : List Sec} {de ar : Bool} {le : Int} {e : C} (hI : F.code f = some I) (hn : F.nat f vs = none) (hp : ds.length = I.nparams) (hv : vs.map V.toD = ds) (hres : I.res = [.cell t true 4, .tmp t2])
    (h : WP F I.body ⟨bindArgs 0 ds, [], 0⟩ (RetDE t t2 l de ar le e)) : RunF F f vs [dskV l de ar le, .one e] := by
  obtain ⟨x, s, hrun, rfl, ⟨q, g1, X, us, g2, g3⟩, g4⟩ := h
  have hb : RunB F f ds [] 0 [.agg [X, .c (boolC de), .c (boolC ar), .c (intC le)], .c e] s.heap s.nx := by
    refine RunB.fn hI hp hrun (by simp) ?_
    rw [hres]
    simp [resD, g1, g2, g4, loadD]
  rw [← hv] at hb
  refine RunF.body (us := us) hn hb ?_
  have a1 := frz_disk g3 de ar le
  have a2 : ∀ h, frzV h (.c e) = some (.one e, []) := fun _ => rfl
  simp only [frzVs, a1, a2, Option.bind_eq_bind, Option.bind_some, List.append_nil]

theorem RunF.diskD {F : Tab} {f t : Nat} {I : IFunc} {vs : List V} {ds : List D} {l : List Sec} {de ar : Bool} {le : Int} (hI : F.code f = some I) (hn : F.nat f vs = none) (hp : ds.length = I.nparams) (hv : vs.map V.toD = ds) (hres : I.res = [.cell t true 4])
    (h : WP F I.body ⟨bindArgs 0 ds, [], 0⟩ (RetDD t l de ar le)) : RunF F f vs [dskV l de ar le] := by
  obtain ⟨x, s, hrun, rfl, q, g1, X, us, g2, g3⟩ := h
  have hb : RunB F f ds [] 0 [.agg [X, .c (boolC de), .c (boolC ar), .c (intC le)]] s.heap s.nx := by
    refine RunB.fn hI hp hrun (by simp) ?_
    rw [hres]
    simp [resD, g1, g2, loadD]
  rw [← hv] at hb
  refine RunF.body (us := us) hn hb ?_
  have a1 := frz_disk g3 de ar le
  simp only [frzVs, a1, Option.bind_eq_bind, Option.bind_some, List.append_nil]

theorem Owned.box {l : List Sec} {B rid N q : Nat} {ids : List (Nat × Nat)} {h h' : Heap} (ho : Owned l B rid ids h N) (hO : Okay l) {de ar : Bool} {le : Int} (hq : getH h' q = .box [.arr rid 0 l.length, .c (boolC de), .c (boolC ar), .c (intC le)]) (hf : ∀ x, B ≤ x → x < N → getH h' x = getH h x) : BoxD h' q l de ar le := by
  have hf' : ∀ x ∈ rid :: flat ids, getH h' x = getH h x := fun x hx => hf x (ho.lo x hx).1 (ho.lo x hx).2
  obtain ⟨us, y1, _⟩ := frz_rows (h := h') (by rw [hf' rid (by simp)]; exact ho.hr) (held_rows (ho.held.frame fun x hx => hf' x (by simp [hx])) hO)
  exact ⟨_, us, hq, y1⟩

def cutL (n : Int) : Int := if (0 : Int) > n then 0 else n

theorem cut17 {F : Tab} (hF : F.code = code) (hN : ∀ f vs, f ≠ 10 → F.nat f vs = none) (l : List Sec) (de ar : Bool) (le n : Int) : RunF F 17 [dskV l de ar le, .one (intC n)] [dskV l de true (cutL n)] := by
  refine RunF.diskD (I := I17) (t := 4) (by rw [hF]; rfl) (hN 17 _ (by omega)) rfl rfl rfl ?_
  unfold I17
  simp only [bindArgs, boolC, intC, secsS, V.toD, dskV, List.map_cons, List.map_nil]
  refine wp_seq (wp_sq ?_)
  iterate 2 (refine sq_cons rfl ?_; simp only [ZS, Ez.lenD, Ez.appR, Ez.appD, Ez.srcOf, Ez.cpyD, Ez.frzV, Ez.frz, Ez.frz1, Ez.splice, if_true, if_false, Ez.intBin, Nat.reduceEqDiff, reduceIte, Nat.reduceAdd, Nat.reduceMul, Nat.reduceLeDiff, reduceCtorEq, Int.reduceLE, Int.reduceToNat, Nat.reduceSub, Bool.not_true, Bool.not_false])
  refine sq_nil (wp_seq (wp_sq ?_))
  iterate 6 (refine sq_cons rfl ?_; simp only [ZS, Ez.lenD, Ez.appR, Ez.appD, Ez.srcOf, Ez.cpyD, Ez.frzV, Ez.frz, Ez.frz1, Ez.splice, if_true, if_false, Ez.intBin, Nat.reduceEqDiff, reduceIte, Nat.reduceAdd, Nat.reduceMul, Nat.reduceLeDiff, reduceCtorEq, Int.reduceLE, Int.reduceToNat, Nat.reduceSub, Bool.not_true, Bool.not_false])
  refine sq_nil (wp_seq (wp_sq ?_))
  iterate 2 (refine sq_cons rfl ?_; simp only [ZS, Ez.lenD, Ez.appR, Ez.appD, Ez.srcOf, Ez.cpyD, Ez.frzV, Ez.frz, Ez.frz1, Ez.splice, if_true, if_false, Ez.intBin, Nat.reduceEqDiff, reduceIte, Nat.reduceAdd, Nat.reduceMul, Nat.reduceLeDiff, reduceCtorEq, Int.reduceLE, Int.reduceToNat, Nat.reduceSub, Bool.not_true, Bool.not_false])
  refine sq_nil (wp_ret ⟨rfl, 1, ?_, .c (secsS l), [], ?_, rfl⟩)
  · simp only [getE_cons, Nat.reduceEqDiff, if_false, if_true]
  · simp only [getH_cons, if_true, if_false, Nat.reduceEqDiff]; rfl

/-- the memory behind the copy of a disk, with the copy in a box -/
theorem cut25 {F : Tab} (hF : F.code = code) (hN : ∀ f vs, f ≠ 10 → F.nat f vs = none) (l : List Sec) (hO : Okay l) (h1 : 1 ≤ l.length) (hn : l.length ≤ 256) (de ar : Bool) (le n : Int) : RunF F 25 [dskV l de ar le, .one (intC n)] [dskV l de true (cutL n)] := by
  refine RunF.diskD (I := I25) (t := 4) (by rw [hF]; rfl) (hN 25 _ (by omega)) rfl rfl rfl ?_
  unfold I25
  simp only [bindArgs, boolC, intC, secsS, V.toD, dskV, List.map_cons, List.map_nil]
  refine wp_seq (wp_sq ?_)
  iterate 2 (refine sq_cons rfl ?_; simp only [ZS, Ez.lenD, Ez.appR, Ez.appD, Ez.srcOf, Ez.cpyD, Ez.frzV, Ez.frz, Ez.frz1, Ez.splice, if_true, if_false, Ez.intBin, Nat.reduceEqDiff, reduceIte, Nat.reduceAdd, Nat.reduceMul, Nat.reduceLeDiff, reduceCtorEq, Int.reduceLE, Int.reduceToNat, Nat.reduceSub, Bool.not_true, Bool.not_false])
  refine sq_nil (wp_seq (wp_sq ?_))
  iterate 1 (refine sq_cons rfl ?_; simp only [ZS, Ez.lenD, Ez.appR, Ez.appD, Ez.srcOf, Ez.cpyD, Ez.frzV, Ez.frz, Ez.frz1, Ez.splice, if_true, if_false, Ez.intBin, Nat.reduceEqDiff, reduceIte, Nat.reduceAdd, Nat.reduceMul, Nat.reduceLeDiff, reduceCtorEq, Int.reduceLE, Int.reduceToNat, Nat.reduceSub, Bool.not_true, Bool.not_false])
  obtain ⟨rid, ids, h', N', hrun, ho, hNN, hfr⟩ := copied_run hF l hO h1 hn de ar le [(1, .box [.full [] 0, .c (.lit (.bool false)), .c (.lit (.bool false)), .c (.lit (.int .i64 0))]), (0, .box [.c (.slice (secsC l) l.length), .c (.lit (.bool de)), .c (.lit (.bool ar)), .c (.lit (.int .i64 le))])] 3
  refine sq_lend (ds := [.agg [.c (secsS l), .c (boolC de), .c (boolC ar), .c (intC le)]]) (us := []) (by rfl) hrun ?_
  simp only [tupD, Ez.putE, boolC, intC]
  iterate 2 (refine sq_cons rfl ?_; simp only [ZS, Ez.lenD, Ez.appR, Ez.appD, Ez.srcOf, Ez.cpyD, Ez.frzV, Ez.frz, Ez.frz1, Ez.splice, if_true, if_false, Ez.intBin, Nat.reduceEqDiff, reduceIte, Nat.reduceAdd, Nat.reduceMul, Nat.reduceLeDiff, reduceCtorEq, Int.reduceLE, Int.reduceToNat, Nat.reduceSub, Bool.not_true, Bool.not_false])
  refine sq_nil (wp_seq (wp_sq ?_))
  iterate 6 (refine sq_cons rfl ?_; simp only [ZS, Ez.lenD, Ez.appR, Ez.appD, Ez.srcOf, Ez.cpyD, Ez.frzV, Ez.frz, Ez.frz1, Ez.splice, if_true, if_false, Ez.intBin, Nat.reduceEqDiff, reduceIte, Nat.reduceAdd, Nat.reduceMul, Nat.reduceLeDiff, reduceCtorEq, Int.reduceLE, Int.reduceToNat, Nat.reduceSub, Bool.not_true, Bool.not_false])
  have p1 : getH h' 1 = .box [.full [] 0, .c (.lit (.bool false)), .c (.lit (.bool false)), .c (.lit (.int .i64 0))] := by rw [hfr 1 (by omega)]; rfl
  have q1 : (N' = 1) = False := by simp; omega
  refine sq_nil (wp_seq (wp_sq ?_))
  iterate 2 (refine sq_cons rfl ?_; simp only [ZS, Ez.lenD, Ez.appR, Ez.appD, Ez.srcOf, Ez.cpyD, Ez.frzV, Ez.frz, Ez.frz1, Ez.splice, if_true, if_false, Ez.intBin, Nat.reduceEqDiff, reduceIte, Nat.reduceAdd, Nat.reduceMul, Nat.reduceLeDiff, reduceCtorEq, Int.reduceLE, Int.reduceToNat, Nat.reduceSub, Bool.not_true, Bool.not_false, p1, q1])
  refine sq_nil (wp_ret ⟨rfl, 1, ?_, ho.box hO ?_ ?_⟩)
  · simp only [getE_cons, Nat.reduceEqDiff, if_false, if_true]
  · simp only [getH_cons, if_true, if_false, Nat.reduceEqDiff]; rfl
  · intro x xa xb
    simp only [getH_cons, show (1 = x) = False by simp; omega, show (N' = x) = False by simp; omega, if_false]

end Go.Proofs.Ytfphnpelampoeaa.Rw

