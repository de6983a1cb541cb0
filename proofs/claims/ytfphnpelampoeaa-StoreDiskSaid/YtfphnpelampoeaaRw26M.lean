/-
  Disks of a script: what both sides do to them.
-/
import Derived.Test.YtfphnpelampoeaaRw25M
set_option linter.unusedVariables false
set_option linter.unusedSimpArgs false
namespace Go.Proofs.Ytfphnpelampoeaa.Rw
open Go Go.Ez

theorem new_runZ {F : Tab} (hF : F.code = code) (n : Nat) (z : Int) (m1 : (if (1 : Int) > z then (1 : Int) else z) = (n : Int)) (h1 : 1 ≤ n) (hn : n ≤ 256) (h : Heap) (N : Nat) :
    ∃ rid ids h' N', RunB F 14 [.c (intC z)] h N [.agg [.arr rid 0 n, .c (boolC false), .c (boolC false), .c (intC 0)]] h' N' ∧
      Owned (newSecs n) N rid ids h' N' ∧ N ≤ N' ∧ ∀ x, x < N → getH h' x = getH h x := by
  have m2 : (if (256 : Int) < (n : Int) then (256 : Int) else (n : Int)) = (n : Int) := by rw [if_neg (by omega)]
  have key : WP F I14.body ⟨bindArgs 0 [.c (intC z)], h, N⟩ fun x s => x = .ret ∧ ∃ rid ids, getE s.env 2 = .loc N 0 ∧ getH s.heap N = .box [.arr rid 0 n, .c (boolC false), .c (boolC false), .c (intC 0)] ∧ Owned (newSecs n) N rid ids s.heap s.nx ∧ N ≤ s.nx ∧ ∀ x, x < N → getH s.heap x = getH h x := by
    unfold I14
    simp only [bindArgs, boolC, intC]
    refine wp_seq (wp_sq ?_)
    iterate 1 (refine sq_cons rfl ?_; simp only [ZS, Ez.lenD, Ez.appR, Ez.appD, Ez.srcOf, Ez.cpyD, Ez.frzV, Ez.frz, Ez.frz1, Ez.splice, if_true, if_false, Ez.intBin, Nat.reduceEqDiff, reduceIte, Nat.reduceAdd, Nat.reduceMul, Nat.reduceLeDiff, reduceCtorEq, Int.reduceLE, Int.reduceToNat, Nat.reduceSub, Bool.not_true, Bool.not_false])
    refine sq_nil (wp_seq (wp_sq ?_))
    iterate 4 (refine sq_cons rfl ?_; simp only [ZS, Ez.lenD, Ez.appR, Ez.appD, Ez.srcOf, Ez.cpyD, Ez.frzV, Ez.frz, Ez.frz1, Ez.splice, if_true, if_false, Ez.intBin, Nat.reduceEqDiff, reduceIte, Nat.reduceAdd, Nat.reduceMul, Nat.reduceLeDiff, reduceCtorEq, Int.reduceLE, Int.reduceToNat, Nat.reduceSub, Bool.not_true, Bool.not_false, m1, m2])
    refine sq_nil (wp_seq (wp_sq ?_))
    iterate 3 (refine sq_cons rfl ?_; simp only [ZS, Ez.lenD, Ez.appR, Ez.appD, Ez.srcOf, Ez.cpyD, Ez.frzV, Ez.frz, Ez.frz1, Ez.splice, if_true, if_false, Ez.intBin, Nat.reduceEqDiff, reduceIte, Nat.reduceAdd, Nat.reduceMul, Nat.reduceLeDiff, reduceCtorEq, Int.reduceLE, Int.reduceToNat, Nat.reduceSub, Bool.not_true, Bool.not_false])
    refine sq_nil (wp_seq (wp_seq (wp_sq ?_)))
    iterate 1 (refine sq_cons rfl ?_; simp only [ZS, Ez.lenD, Ez.appR, Ez.appD, Ez.srcOf, Ez.cpyD, Ez.frzV, Ez.frz, Ez.frz1, Ez.splice, if_true, if_false, Ez.intBin, Nat.reduceEqDiff, reduceIte, Nat.reduceAdd, Nat.reduceMul, Nat.reduceLeDiff, reduceCtorEq, Int.reduceLE, Int.reduceToNat, Nat.reduceSub, Bool.not_true, Bool.not_false])
    refine sq_nil (wp_block ?_)
    refine wp_loop (new_first F (p2 := N) (p4 := N + 6) (d4 := .c (boolC false)) (d5 := .c (boolC false)) (d6 := .c (intC 0)) (by simp only [getE_cons, Nat.reduceEqDiff, if_false, if_true]) (by simp only [getE_cons, Nat.reduceEqDiff, if_false, if_true]) (by simp only [getE_cons, Nat.reduceEqDiff, if_false, if_true]) (by simp only [getE_cons, if_true]; rfl)
      h1 (by simp [getH_cons, boolC, intC]) (by omega) ?_)
    intro s g1 g2 g3 g4 g5 g6 g7 g8 g9 g10
    obtain ⟨se, sh, sn⟩ := s
    simp only at g1 g2 g3 g4 g5 g6 g7 g8 g9 g10
    subst g1
    have ho' : Owned ((newSecs n).take 1) (N + 9) (N + 9 + 9) [(N + 9 + 5, N + 9 + 6)] sh (N + 9 + 15) := by
      rw [take_succ_at (newSecs n) 0 (by rw [newSecs_len]; exact h1), secAt_new n 0 h1]
      refine ⟨g7, ⟨by rw [g8, zeros_bytes]; rfl, by rw [g9, zeros_bytes]; rfl, trivial⟩, ?_, ?_⟩
      · simp [flat]
      · intro x hx; simp [flat] at hx; omega
    refine new_loop F n hn N (N + 6) (N + 9) sh (.c (boolC false)) (.c (boolC false)) (.c (intC 0)) (by omega) ?_ (n - 1) 1 _ _ se sh _ (by omega) (by omega) g2 g3 g4 g5 g6 ho' (fun _ _ _ => rfl)
    intro s rid ids k1 k2 k3 k4 k5 k6
    obtain ⟨te, th, tn⟩ := s
    simp only at k1 k2 k3 k4 k5 k6
    simp only [if_true]
    have hp2 : getH th N = .box [.full [] 0, .c (.lit (.bool false)), .c (.lit (.bool false)), .c (.lit (.int .i64 0))] := by
      rw [k6 N (by omega) (by omega), g10 N (by omega) (by omega)]; simp [getH_cons]
    refine wp_seq (wp_sq ?_)
    iterate 2 (refine sq_cons rfl ?_; simp only [ZS, Ez.lenD, Ez.appR, Ez.appD, Ez.srcOf, Ez.cpyD, Ez.frzV, Ez.frz, Ez.frz1, Ez.splice, if_true, if_false, Ez.intBin, Nat.reduceEqDiff, reduceIte, Nat.reduceAdd, Nat.reduceMul, Nat.reduceLeDiff, reduceCtorEq, Int.reduceLE, Int.reduceToNat, Nat.reduceSub, Bool.not_true, Bool.not_false, k2, k3, k4, hp2])
    refine sq_nil (wp_ret ⟨rfl, rid, ids, ?_, ?_, ?_, ?_, ?_⟩)
    · simp only [getE_cons, Nat.reduceEqDiff, if_false]; exact k2
    · simp only [getH_cons, if_true, boolC, intC]
    · have hne : ∀ x, N + 9 ≤ x → (N = x) = False := fun x hx => by simp; omega
      refine ⟨?_, ?_, k5.nd, fun x hx => ?_⟩
      · simp only [getH_cons, hne rid (k5.lo rid (by simp)).1, if_false]; exact k5.hr
      · exact k5.held.frame fun x hx => by simp only [getH_cons, hne x (k5.lo x (by simp [hx])).1, if_false]
      · have := k5.lo x hx; simp only; omega
    · simp only; omega
    · intro x hx
      simp only [getH_cons, show (N = x) = False by simp; omega, if_false]
      rw [k6 x (by omega) (by omega), g10 x (by omega) (by omega)]
      simp [getH_cons, show ¬ (N + 6 = x) by omega, show ¬ (N = x) by omega]
  obtain ⟨x, s, hrun, rfl, rid, ids, g1, g2, g3, g4, g5⟩ := key
  refine ⟨rid, ids, s.heap, s.nx, ?_, g3, g4, g5⟩
  refine RunB.fn (I := I14) (by rw [hF]; rfl) rfl hrun (by simp) ?_
  simp [I14, resD, g1, g2, loadD]

structure Dk where
  l : List Sec
  de : Bool
  ar : Bool
  le : Int

def Dk.v (d : Dk) : V := dskV d.l d.de d.ar d.le

structure Dk.Ok (d : Dk) : Prop where
  okay : Okay d.l
  one : 1 ≤ d.l.length
  few : d.l.length ≤ 256
  le0 : 0 ≤ d.le
  le1 : d.le < 1000000
  arm : d.ar = false → d.le = 0
  good : d.l.any badS = false

theorem Dk.Ok.valid {d : Dk} (h : d.Ok) : validP d.l d.ar d.le = true := by
  have h1 : decide ((d.l.length : Int) < 1) = false := by have := h.one; simp; omega
  have h2 : decide ((d.l.length : Int) > 256) = false := by have := h.few; simp; omega
  have h3 : decide (d.le < 0) = false := by have := h.le0; simp; omega
  unfold validP
  rw [h1, h2, h3, h.good]
  cases ha : d.ar with
  | true => rfl
  | false => rw [h.arm ha]; rfl

theorem any_set {l : List Sec} (h : l.any badS = false) (k : Nat) (s : Sec) (hs : badS s = false) : (l.set k s).any badS = false := by
  rw [List.any_eq_false] at h ⊢
  intro x hx
  rcases List.mem_or_eq_of_mem_set hx with h1 | rfl
  · exact h x h1
  · simp [hs]

theorem good_settle {l : List Sec} (h : Okay l) : (settleP l).any badS = false := by
  rw [List.any_eq_false]
  intro x hx
  simp only [settleP, List.mem_map] at hx
  obtain ⟨s, hs, rfl⟩ := hx
  have := h s hs
  simp [badS, this.1]

theorem good_crash (T K : Nat) : ∀ {l : List Sec} {j : Nat}, Okay l → (crash T K j l).any badS = false
  | [], j, _ => rfl
  | s :: l, j, h => by
    have h1 : badS (newS T K j s) = false := by
      have := crashD_len T K j s (h s (by simp))
      simp [badS, newS, this]
    have h2 := fun j => good_crash T K (l := l) (j := j) fun x hx => h x (by simp [hx])
    simp only [crash, List.any_cons, h1, h2, Bool.or_self]

theorem good_new (n : Nat) : (newSecs n).any badS = false := by
  rw [List.any_eq_false]
  intro x hx
  simp only [newSecs, List.mem_replicate] at hx
  rw [hx.2]
  simp [badS, zeroSec, zeroB]

theorem Dk.new_ok (n : Nat) (h1 : 1 ≤ n) (hn : n ≤ 256) : Dk.Ok ⟨newSecs n, false, false, 0⟩ :=
  ⟨Okay.new n, by simp [newSecs_len]; exact h1, by simp [newSecs_len]; exact hn, by simp, by simp, fun _ => rfl, good_new n⟩

theorem settleP_len (l : List Sec) : (settleP l).length = l.length := by simp [settleP]
theorem Okay.settle {l : List Sec} (h : Okay l) : Okay (settleP l) := by
  intro x hx
  simp only [settleP, List.mem_map] at hx
  obtain ⟨s, hs, rfl⟩ := hx
  exact ⟨(h s hs).1, (h s hs).1⟩

theorem write_both {F : Tab} (hF : F.code = code) (hN : ∀ f vs, f ≠ 10 → F.nat f vs = none) (d : Dk) (hd : d.Ok) (i : Int) (b : List UInt8) : ∃ (d' : Dk) (e : Int), d'.Ok ∧ RunF F 27 [d.v, .one (intC i), .one (bytesS b)] [d'.v, .one (intC e)] ∧ RunF F 28 [d.v, .one (intC i), .one (bytesS b)] [d'.v, .one (intC e)] := by
  obtain ⟨l, de, ar, le⟩ := d
  obtain ⟨hO, h1, hn, l0, l1, ha, hg⟩ := hd
  simp only at hO h1 hn l0 l1 ha hg
  cases de with
  | true => exact ⟨⟨l, true, ar, le⟩, 51, ⟨hO, h1, hn, l0, l1, ha, hg⟩, write_dead hF hN l ar le i b, wr_dead hF hN l hO h1 hn ar le i b⟩
  | false =>
    cases hb : (decide (i < 0) || decide (i ≥ (l.length : Int)) || ((b.length : Int) != 128)) with
    | true => exact ⟨⟨l, false, ar, le⟩, 52, ⟨hO, h1, hn, l0, l1, ha, hg⟩, write_bad hF hN l ar le i b hb, wr_bad hF hN l hO h1 hn ar le i b hb⟩
    | false =>
      have hb' := hb
      simp only [Bool.or_eq_false_iff, decide_eq_false_iff_not, bne_eq_false_iff_eq] at hb'
      obtain ⟨⟨b1, b2⟩, b3⟩ := hb'
      obtain ⟨k, rfl⟩ : ∃ k : Nat, i = (k : Int) := ⟨i.toNat, by omega⟩
      have hk : k < l.length := by omega
      have hb128 : b.length = 128 := by omega
      have ok' : ∀ ar' le', 0 ≤ le' → le' < 1000000 → (ar' = false → le' = 0) → Dk.Ok ⟨l.set k ⟨(secAt l k).sure, b, true⟩, false, ar', le'⟩ := fun ar' le' x1 x2 x3 =>
        ⟨Okay.set hO k _ ⟨hb128, (hO _ (secAt_mem l k hk)).2⟩, by simp; exact h1, by simp; exact hn, x1, x2, x3, any_set hg k _ (by simp [badS, hb128, (hO _ (secAt_mem l k hk)).2])⟩
      cases har : ar with
      | false =>
        subst har
        exact ⟨⟨l.set k ⟨(secAt l k).sure, b, true⟩, false, false, le⟩, 0, ok' _ _ l0 l1 ha, write_ok hF hN l false le le k b hk hn hb128 (use_off hF hN l false le), wr_ok0 hF hN l hO h1 hn le k b hk hb128⟩
      | true =>
        subst har
        by_cases hz : le = 0
        · subst hz
          exact ⟨⟨l, true, true, 0⟩, 51, ⟨hO, h1, hn, l0, l1, ha, hg⟩, write_off hF hN l true 0 k b hb 0 (use_out hF hN l false), wr_off hF hN l hO h1 hn k b hb⟩
        · have hz : 0 < le := by omega
          exact ⟨⟨l.set k ⟨(secAt l k).sure, b, true⟩, false, true, le - 1⟩, 0, ok' _ _ (by omega) (by omega) (by simp), write_ok hF hN l true le (le - 1) k b hk hn hb128 (use_on hF hN l false le hz l1), wr_ok1 hF hN l hO h1 hn le hz l1 k b hk hb128⟩

theorem flush_both {F : Tab} (hF : F.code = code) (hN : ∀ f vs, f ≠ 10 → F.nat f vs = none) (d : Dk) (hd : d.Ok) : ∃ (d' : Dk) (e : Int), d'.Ok ∧ RunF F 22 [d.v] [d'.v, .one (intC e)] ∧ RunF F 24 [d.v] [d'.v, .one (intC e)] := by
  obtain ⟨l, de, ar, le⟩ := d
  obtain ⟨hO, h1, hn, l0, l1, ha, hg⟩ := hd
  simp only at hO h1 hn l0 l1 ha hg
  cases de with
  | true => exact ⟨⟨l, true, ar, le⟩, 51, ⟨hO, h1, hn, l0, l1, ha, hg⟩, fl_dead hF hN l ar le, fr_dead hF hN l hO h1 hn ar le⟩
  | false =>
    have ok' : ∀ ar' le', 0 ≤ le' → le' < 1000000 → (ar' = false → le' = 0) → Dk.Ok ⟨settleP l, false, ar', le'⟩ := fun ar' le' x1 x2 x3 =>
      ⟨Okay.settle hO, by rw [settleP_len]; exact h1, by rw [settleP_len]; exact hn, x1, x2, x3, good_settle hO⟩
    cases har : ar with
    | false =>
      subst har
      exact ⟨⟨settleP l, false, false, le⟩, 0, ok' _ _ l0 l1 ha, fl_ok hF hN l hO h1 hn false le le (use_off hF hN l false le), fr_ok0 hF hN l hO h1 hn le⟩
    | true =>
      subst har
      by_cases hz : le = 0
      · subst hz
        exact ⟨⟨l, true, true, 0⟩, 51, ⟨hO, h1, hn, l0, l1, ha, hg⟩, fl_off hF hN l true 0 0 (use_out hF hN l false), fr_off hF hN l hO h1 hn⟩
      · have hz : 0 < le := by omega
        exact ⟨⟨settleP l, false, true, le - 1⟩, 0, ok' _ _ (by omega) (by omega) (by simp), fl_ok hF hN l hO h1 hn true le (le - 1) (use_on hF hN l false le hz l1), fr_ok1 hF hN l hO h1 hn le hz l1⟩

theorem cut_both {F : Tab} (hF : F.code = code) (hN : ∀ f vs, f ≠ 10 → F.nat f vs = none) (d : Dk) (hd : d.Ok) (n : Int) (hn20 : n ≤ 20) : ∃ (d' : Dk), d'.Ok ∧ RunF F 17 [d.v, .one (intC n)] [d'.v] ∧ RunF F 25 [d.v, .one (intC n)] [d'.v] := by
  obtain ⟨l, de, ar, le⟩ := d
  obtain ⟨hO, h1, hn, l0, l1, ha, hg⟩ := hd
  simp only at hO h1 hn l0 l1 ha hg
  refine ⟨⟨l, de, true, cutL n⟩, ⟨hO, h1, hn, ?_, ?_, by simp, hg⟩, cut17 hF hN l de ar le n, cut25 hF hN l hO h1 hn de ar le n⟩ <;> · simp only [cutL]; split <;> omega

theorem crash_both {F : Tab} (hF : F.code = code) (hN : ∀ f vs, f ≠ 10 → F.nat f vs = none) (d : Dk) (hd : d.Ok) (K T : Nat) (hK : K < 18446744073709551616) (hT : T < 18446744073709551616) : ∃ (d' : Dk), d'.Ok ∧ RunF F 19 [d.v, .one (.lit (.int .u64 (K : Int))), .one (.lit (.int .u64 (T : Int)))] [d'.v] ∧ RunF F 26 [d.v, .one (.lit (.int .u64 (K : Int))), .one (.lit (.int .u64 (T : Int)))] [d'.v] := by
  obtain ⟨l, de, ar, le⟩ := d
  obtain ⟨hO, h1, hn, l0, l1, ha, hg⟩ := hd
  simp only at hO h1 hn l0 l1 ha hg
  refine ⟨⟨crash T K 0 l, false, false, 0⟩, ⟨Okay.crash hO, by rw [crash_len]; exact h1, by rw [crash_len]; exact hn, by simp, by simp, fun _ => rfl, good_crash T K hO⟩, crash19 hF hN l hO h1 hn de ar le T K hT hK, crash26 hF hN l hO h1 hn de ar le T K hT hK⟩

theorem read_both {F : Tab} (hF : F.code = code) (hN : ∀ f vs, f ≠ 10 → F.nat f vs = none) (d : Dk) (hd : d.Ok) (i : Int) : ∃ (b : List UInt8) (e : Int), RunF F 29 [d.v, .one (intC i)] [.one (bytesS b), .one (intC e)] ∧ RunF F 30 [d.v, .one (intC i)] [.one (bytesS b), .one (intC e)] := by
  obtain ⟨l, de, ar, le⟩ := d
  obtain ⟨hO, h1, hn, l0, l1, ha, hg⟩ := hd
  simp only at hO h1 hn l0 l1 ha hg
  cases de with
  | true => exact ⟨[], 51, read29_dead hF hN l ar le i, read30_dead hF hN l ar le i⟩
  | false =>
    cases hb : (decide (i < 0) || decide (i ≥ (l.length : Int))) with
    | true => exact ⟨[], 52, read29_bad hF hN l ar le i hb, read30_bad hF hN l ar le i hb⟩
    | false =>
      simp only [Bool.or_eq_false_iff, decide_eq_false_iff_not] at hb
      obtain ⟨k, rfl⟩ : ∃ k : Nat, i = (k : Int) := ⟨i.toNat, by omega⟩
      have hk : k < l.length := by omega
      exact ⟨(secAt l k).data, 0, read29_ok hF hN l hO ar le k hk, read30_ok hF hN l hO ar le k hk⟩

theorem u8_byte (z : Int) : ∃ b : UInt8, IntKind.wrap .u8 z = (b.toNat : Int) := by
  have h1 : 0 ≤ IntKind.wrap .u8 z ∧ IntKind.wrap .u8 z < 256 := by
    have : IntKind.wrap .u8 z = z % 256 := by
      simp [IntKind.wrap, IntKind.signed, IntKind.bits]
    omega
  refine ⟨UInt8.ofNat (IntKind.wrap .u8 z).toNat, ?_⟩
  rw [UInt8.toNat_ofNat']
  omega

structure Act where
  what : Int
  at_ : Int
  n : Int
  keep : Nat
  torn : Nat
  x : Int
  hk : keep < 18446744073709551616
  ht : torn < 18446744073709551616

def actC (a : Act) : List C := [.lit (.int .i64 a.what), .lit (.int .i64 a.at_), .lit (.int .i64 a.n), .lit (.int .u64 (a.keep : Int)), .lit (.int .u64 (a.torn : Int)), .lit (.int .u8 a.x)]
def actsC (l : List Act) : List C := l.flatMap actC
theorem actsC_cons (a : Act) (l : List Act) : actsC (a :: l) = actC a ++ actsC l := rfl
theorem actsC_len : ∀ l : List Act, (actsC l).length = l.length * 6
  | [] => rfl
  | a :: l => by rw [actsC_cons, List.length_append, actsC_len l, List.length_cons]; simp [actC]; omega
theorem actsC_drop : ∀ (k : Nat) (l : List Act), (actsC l).drop (k * 6) = actsC (l.drop k)
  | 0, l => by simp
  | k + 1, [] => by simp [actsC]
  | k + 1, a :: l => by
    rw [actsC_cons, show (k + 1) * 6 = 6 + k * 6 by omega, ← List.drop_drop, List.drop_succ_cons, ← actsC_drop k l]
    rfl
theorem actsC_at (k : Nat) (l : List Act) (h : k < l.length) : ∃ a : Act, (actsC l).drop (k * 6) = .lit (.int .i64 a.what) :: .lit (.int .i64 a.at_) :: .lit (.int .i64 a.n) :: .lit (.int .u64 (a.keep : Int)) :: .lit (.int .u64 (a.torn : Int)) :: .lit (.int .u8 a.x) :: actsC (l.drop (k + 1)) :=
  ⟨l[k], by rw [actsC_drop, List.drop_eq_getElem_cons h]; rfl⟩

/-- the reference's disk: plain, or the first one, whose sectors are an array of this call -/
def BoxQ (h : Heap) (N p q : Nat) (d : Dk) (X : D) : Prop := getH h q = .box [X, .c (.lit (.bool d.de)), .c (.lit (.bool d.ar)), .c (.lit (.int .i64 d.le))] ∧ (X = .c (secsS d.l) ∨ ∃ rid, X = .arr rid 0 d.l.length ∧ rid < N ∧ rid ≠ p ∧ rid ≠ q ∧ getH h rid = .arr (secsC d.l) 3 (d.l.length * 3) 32)

theorem BoxQ.frz {h : Heap} {N p q : Nat} {d : Dk} {X : D} (hb : BoxQ h N p q d X) : Ez.frz h X = some (secsS d.l, []) := by
  rcases hb.2 with rfl | ⟨rid, rfl, _, _, _, hr⟩
  · rfl
  · have hl := secsC_len d.l
    simp only [Ez.frz, hr, frz1, Nat.zero_add, hl, Nat.le_refl, if_true, List.drop_zero]
    rw [List.take_of_length_le (by omega), secsS]

theorem BoxQ.mono {h h' : Heap} {N N' p q : Nat} {d : Dk} {X : D} (hb : BoxQ h N p q d X) (hN : N ≤ N') (hq : q < N) (hpq : p ≠ q) (hf : ∀ x, x < N → x ≠ p → getH h' x = getH h x) : BoxQ h' N' p q d X := by
  refine ⟨by rw [hf q hq (Ne.symm hpq)]; exact hb.1, ?_⟩
  rcases hb.2 with rfl | ⟨rid, rfl, h1, h2, h3, hr⟩
  · exact .inl rfl
  · exact .inr ⟨rid, rfl, by omega, h2, h3, by rw [hf rid h1 h2]; exact hr⟩

theorem BoxQ.cell {h : Heap} {N p q : Nat} {d : Dk} {X : D} (hb : BoxQ h N p q d X) : isCell X = true := by
  rcases hb.2 with rfl | ⟨rid, rfl, _⟩ <;> rfl

theorem BoxQ.arg {h : Heap} {N p q : Nat} {d : Dk} {X : D} (hb : BoxQ h N p q d X) {h' : Heap} (hh : Ez.frz h' X = some (secsS d.l, [])) : frzV h' (.agg [X, .c (.lit (.bool d.de)), .c (.lit (.bool d.ar)), .c (.lit (.int .i64 d.le))]) = some (d.v, []) := frz_disk hh _ _ _

end Go.Proofs.Ytfphnpelampoeaa.Rw

