/-
  New disks of the program.
-/
import Derived.Test.YtfphnpelampoeaaRw24M
set_option linter.unusedVariables false
set_option linter.unusedSimpArgs false
namespace Go.Proofs.Ytfphnpelampoeaa.Rw
open Go Go.Ez

def noB : Sec := ⟨[], [], false⟩
def nwK (k n : Nat) : List Sec := List.replicate k zeroSec ++ List.replicate (n - k) noB
theorem nwK_len (k n : Nat) (h : k ≤ n) : (nwK k n).length = n := by simp [nwK]; omega
theorem nwK_zero (n : Nat) : secsC (nwK 0 n) = zeros [.slice none 0 0, .slice none 0 0, .bool false] n := by
  simp only [nwK, Nat.sub_zero, List.replicate_zero, List.nil_append]
  induction n with
  | zero => rfl
  | succ n ih => rw [List.replicate_succ, secsC_cons, ih]; simp [zeros, List.replicate_succ, secC, noB, bytesS, bytesC, litC, boolC]
theorem nwK_set (k n : Nat) (h : k < n) : (nwK k n).set k zeroSec = nwK (k + 1) n := by
  simp only [nwK]
  rw [List.set_append_right _ _ (by simp), List.length_replicate, Nat.sub_self, show n - k = (n - (k + 1)) + 1 by omega, List.replicate_succ, List.set_cons_zero, List.replicate_succ', List.append_assoc]
  rfl
theorem nwK_all (n : Nat) : nwK n n = newSecs n := by simp [nwK, newSecs]
theorem zeroB_len : zeroB.length = 128 := by simp [zeroB]
theorem secsC_putS (k : Nat) (l : List Sec) (h : k < l.length) (s : Sec) : (secsC l).take (k * 3) ++ secC s ++ (secsC l).drop (k * 3 + 3) = secsC (l.set k s) := by
  rw [show k * 3 + 3 = (k + 1) * 3 by omega, secsC_take, secsC_drop, List.set_eq_take_append_cons_drop, if_pos h, secsC_append, secsC_cons, List.append_assoc]

theorem n11_round (F : Tab) {Q : Ex → St → Prop} {e : Env} {h : Heap} {N k n p aid : Nat} {d1 d2 d3 D2 : D} {l : List Sec} (hl : l.length = n) (e2 : getE e 2 = D2) (e4 : getE e 4 = .loc p 0) (e14 : getE e 14 = .c (.lit (.int .i64 (n : Int)))) (e15 : getE e 15 = .c (.lit (.int .i64 (k : Int)))) (hp : getH h p = .box [.arr aid 0 n, d1, d2, d3]) (ha : getH h aid = .arr (secsC l) 3 0 32) (np : p < N) (na : aid < N) (hpa : p ≠ aid) (hk : k < n) (hn : n ≤ 256)
    (hQ : ∀ s : St, getE s.env 2 = D2 → getE s.env 4 = .loc p 0 → getE s.env 14 = .c (.lit (.int .i64 (n : Int))) → getE s.env 15 = .c (.lit (.int .i64 ((k + 1 : Nat) : Int))) → N ≤ s.nx → getH s.heap aid = .arr (secsC (l.set k zeroSec)) 3 0 32 → (∀ x, x < N → x ≠ aid → getH s.heap x = getH h x) → Q .normal s) : WP F B11_0 ⟨e, h, N⟩ Q := by
  have hlt : decide ((k : Int) < (n : Int)) = true := by simpa using hk
  have hlt' : ((k : Int) < (n : Int)) = True := by simpa using hk
  have hw : IntKind.wrap .i64 ((k : Int) + 1) = ((k + 1 : Nat) : Int) := by rw [Go.Proofs.Ytfphnpelampoeaa.wrap_i64 _ (by omega)]; rfl
  have q1 : ∀ c, (N + c = p) = False := fun c => by simp; omega
  have q2 : ∀ c, (N + c = aid) = False := fun c => by simp; omega
  have q3 : ∀ c, (p = N + c) = False := fun c => by simp; omega
  have q4 : ∀ c, (aid = N + c) = False := fun c => by simp; omega
  have q5 : (aid = p) = False := by simp; omega
  have q6 : (p = aid) = False := by simp; omega
  have room : (128 * 1 ≤ roomMax) = True := by simp [roomMax]
  have room1 : (128 ≤ roomMax) = True := by simp [roomMax]
  have pos : ((0 : Nat) < 1) = True := by simp
  have hz : zeros [.int .u8 0] 128 = bytesC zeroB := zeros_bytes 128
  have hzl : (bytesC zeroB).length = 128 := by rw [bytesC_len]; exact zeroB_len
  have tz : List.take 128 (bytesC zeroB) = bytesC zeroB := List.take_of_length_le (by omega)
  have f2 : (k * 3 + 3 ≤ l.length * 3) = True := by simp; omega
  have hcl := secsC_len l
  have p128 : (128 ≤ 0) = False := by simp
  have hput : (secsC l).take (k * 3) ++ [.slice (bytesC zeroB) 128, .slice (bytesC zeroB) 128, .lit (.bool false)] ++ (secsC l).drop (k * 3 + 3) = secsC (l.set k zeroSec) := by
    rw [← secsC_putS k l (by omega)]; simp [secC, zeroSec, bytesS, boolC, zeroB_len]
  rw [List.append_assoc] at hput
  simp only [List.cons_append, List.nil_append] at hput
  unfold B11_0
  refine wp_seq (wp_sq ?_)
  iterate 1 (refine sq_cons rfl ?_; simp only [ZS, Ez.lenD, Ez.appR, Ez.appD, Ez.srcOf, Ez.cpyD, Ez.frzV, Ez.frz, Ez.frz1, Ez.splice, if_true, if_false, Ez.intBin, Nat.reduceEqDiff, reduceIte, Nat.reduceAdd, Nat.reduceMul, Nat.reduceLeDiff, reduceCtorEq, Int.reduceLE, Int.reduceToNat, Nat.reduceSub, Bool.not_true, Bool.not_false, e14, e15, hlt])
  refine sq_nil (wp_seq (wp_condT rfl (wp_skip ?_)))
  refine wp_seq (wp_block (wp_seq (wp_sq ?_)))
  iterate 2 (refine sq_cons rfl ?_; simp only [ZS, Ez.lenD, Ez.appR, Ez.appD, Ez.srcOf, Ez.cpyD, Ez.frzV, Ez.frz, Ez.frz1, Ez.splice, if_true, if_false, Ez.intBin, Nat.reduceEqDiff, reduceIte, Nat.reduceAdd, Nat.reduceMul, Nat.reduceLeDiff, reduceCtorEq, Int.reduceLE, Int.reduceToNat, Nat.reduceSub, Bool.not_true, Bool.not_false, e15])
  refine sq_nil (wp_dr ?_)
  iterate 8 (refine dr_cons rfl ?_; simp only [ZS, Ez.lenD, Ez.appR, Ez.appD, Ez.srcOf, Ez.cpyD, Ez.frzV, Ez.frz, Ez.frz1, Ez.splice, if_true, if_false, Ez.intBin, Nat.reduceEqDiff, reduceIte, Nat.reduceAdd, Nat.reduceMul, Nat.reduceLeDiff, reduceCtorEq, Int.reduceLE, Int.reduceToNat, Nat.reduceSub, Bool.not_true, Bool.not_false, e4, hp, ha, hlt', q1, q2, q3, q4, q5, q6, room, room1, pos, hz, hzl, tz, f2, hcl, p128, hput, Ez.frzL])
  refine dr_nil ⟨?_, ?_⟩
  · simp [drawOk, drawFrom, okRow, clash, meets, touches, frzIds, ids1, opX, tmpsX, Nat.testBit, evX, getE_cons, e4, hp, ha, q1, q2, q3, q4, q5, q6, getH_cons]
  refine wp_sq ?_
  iterate 2 (refine sq_cons rfl ?_; simp only [ZS, Ez.lenD, Ez.appR, Ez.appD, Ez.srcOf, Ez.cpyD, Ez.frzV, Ez.frz, Ez.frz1, Ez.splice, if_true, if_false, Ez.intBin, Nat.reduceEqDiff, reduceIte, Nat.reduceAdd, Nat.reduceMul, Nat.reduceLeDiff, reduceCtorEq, Int.reduceLE, Int.reduceToNat, Nat.reduceSub, Bool.not_true, Bool.not_false, e15, hw])
  refine sq_nil (hQ _ ?_ ?_ ?_ ?_ ?_ ?_ ?_)
  · simp only [getE_cons, Nat.reduceEqDiff, if_false, if_true, e2]
  · simp only [getE_cons, Nat.reduceEqDiff, if_false, if_true, e4]
  · simp only [getE_cons, Nat.reduceEqDiff, if_false, if_true, e14]
  · simp only [getE_cons, Nat.reduceEqDiff, if_false, if_true]
  · simp only; omega
  · simp only [getH_cons, if_true, List.append_assoc, List.cons_append, List.nil_append, hput]
  · intro x hx hxa
    have qx : ∀ c, (N + c = x) = False := fun c => by simp; omega
    simp only [getH_cons, qx, if_false, show (aid = x) = False by simp; omega]

theorem n11_out (F : Tab) {Q : Ex → St → Prop} {e : Env} {h : Heap} {N n : Nat} (e14 : getE e 14 = .c (.lit (.int .i64 (n : Int)))) (e15 : getE e 15 = .c (.lit (.int .i64 (n : Int)))) (hQ : ∀ s : St, s.heap = h → getE s.env 2 = getE e 2 → getE s.env 4 = getE e 4 → Q (.exit 0) s) : WP F B11_0 ⟨e, h, N⟩ Q := by
  have hlt : decide ((n : Int) < (n : Int)) = false := by simp
  unfold B11_0
  refine wp_seq (wp_sq ?_)
  iterate 1 (refine sq_cons rfl ?_; simp only [ZS, Ez.lenD, Ez.appR, Ez.appD, Ez.srcOf, Ez.cpyD, Ez.frzV, Ez.frz, Ez.frz1, Ez.splice, if_true, if_false, Ez.intBin, Nat.reduceEqDiff, reduceIte, Nat.reduceAdd, Nat.reduceMul, Nat.reduceLeDiff, reduceCtorEq, Int.reduceLE, Int.reduceToNat, Nat.reduceSub, Bool.not_true, Bool.not_false, e14, e15, hlt])
  refine sq_nil (wp_seq (wp_condF rfl (wp_exit (hQ _ rfl ?_ ?_)))) <;> simp only [getE_cons, Nat.reduceEqDiff, if_false, if_true]

theorem n11_loop (F : Tab) (n : Nat) (hn : n ≤ 256) (p aid : Nat) (d1 d2 d3 D2 : D) (hpa : p ≠ aid) (h0 : Heap) (B : Nat) {Q : Ex → St → Prop} (hQ : ∀ s : St, getE s.env 2 = D2 → getE s.env 4 = .loc p 0 → getH s.heap aid = .arr (secsC (newSecs n)) 3 0 32 → (∀ x, x < B → x ≠ aid → getH s.heap x = getH h0 x) → Q (.exit 0) s) (hp0 : getH h0 p = .box [.arr aid 0 n, d1, d2, d3]) (pB : p < B) (aB : aid < B) :
    ∀ (m k N : Nat) (e : Env) (h : Heap), k + m = n → B ≤ N → getE e 2 = D2 → getE e 4 = .loc p 0 → getE e 14 = .c (.lit (.int .i64 (n : Int))) → getE e 15 = .c (.lit (.int .i64 (k : Int))) → getH h aid = .arr (secsC (nwK k n)) 3 0 32 → (∀ x, x < B → x ≠ aid → getH h x = getH h0 x) → WP F (.loop B11_0) ⟨e, h, N⟩ Q
  | 0, k, N, e, h, hk, hB, e2, e4, e14, e15, ha, hf => by
    have hkl : k = n := by omega
    subst hkl
    rw [nwK_all] at ha
    exact wp_loop (n11_out F e14 e15 fun s g1 g2 g3 => hQ s (by rw [g2]; exact e2) (by rw [g3]; exact e4) (by rw [g1]; exact ha) (by rw [g1]; exact hf))
  | m + 1, k, N, e, h, hk, hB, e2, e4, e14, e15, ha, hf => by
    refine wp_loop (n11_round F (nwK_len k n (by omega)) e2 e4 e14 e15 (by rw [hf p pB hpa]; exact hp0) ha (by omega) (by omega) hpa (by omega) hn ?_)
    intro s g2 g4 g14 g15 gN ga gf
    obtain ⟨se, sh, sn⟩ := s
    simp only at gN ga gf
    rw [nwK_set k n (by omega)] at ga
    exact n11_loop F n hn p aid d1 d2 d3 D2 hpa h0 B hQ hp0 pB aB m (k + 1) sn se sh (by omega) (by omega) g2 g4 g14 g15 ga fun x hx hxa => by rw [← hf x hx hxa]; exact gf x (by omega) hxa

def newN (n : Int) : Nat := (if (256 : Int) < (if (1 : Int) > n then 1 else n) then 256 else (if (1 : Int) > n then 1 else n)).toNat

theorem new11 {F : Tab} (hF : F.code = code) (hN : ∀ f vs, f ≠ 10 → F.nat f vs = none) (n : Nat) (z : Int) (hz : (if (256 : Int) < (if (1 : Int) > z then 1 else z) then 256 else (if (1 : Int) > z then 1 else z)) = (n : Int)) (h1 : 1 ≤ n) (hn : n ≤ 256) : RunF F 11 [.one (intC z)] [dskV (newSecs n) false false 0] := by
  have r1 : (n * 56 ≤ roomMax) = True := by simp [roomMax]; omega
  have r2 : (n ≤ roomMax) = True := by simp [roomMax]; omega
  have nz := nwK_zero n
  refine RunF.diskD (I := I11) (t := 2) (by rw [hF]; rfl) (hN 11 _ (by omega)) rfl rfl rfl ?_
  unfold I11
  simp only [bindArgs, boolC, intC, V.toD, List.map_cons, List.map_nil]
  refine wp_seq (wp_sq ?_)
  iterate 1 (refine sq_cons rfl ?_; simp only [ZS, Ez.lenD, Ez.appR, Ez.appD, Ez.srcOf, Ez.cpyD, Ez.frzV, Ez.frz, Ez.frz1, Ez.splice, if_true, if_false, Ez.intBin, Nat.reduceEqDiff, reduceIte, Nat.reduceAdd, Nat.reduceMul, Nat.reduceLeDiff, reduceCtorEq, Int.reduceLE, Int.reduceToNat, Nat.reduceSub, Bool.not_true, Bool.not_false])
  refine sq_nil (wp_seq (wp_sq ?_))
  iterate 4 (refine sq_cons rfl ?_; simp only [ZS, Ez.lenD, Ez.appR, Ez.appD, Ez.srcOf, Ez.cpyD, Ez.frzV, Ez.frz, Ez.frz1, Ez.splice, if_true, if_false, Ez.intBin, Nat.reduceEqDiff, reduceIte, Nat.reduceAdd, Nat.reduceMul, Nat.reduceLeDiff, reduceCtorEq, Int.reduceLE, Int.reduceToNat, Nat.reduceSub, Bool.not_true, Bool.not_false, hz])
  refine sq_nil (wp_seq (wp_sq ?_))
  iterate 5 (refine sq_cons rfl ?_; simp only [ZS, Ez.lenD, Ez.appR, Ez.appD, Ez.srcOf, Ez.cpyD, Ez.frzV, Ez.frz, Ez.frz1, Ez.splice, if_true, if_false, Ez.intBin, Nat.reduceEqDiff, reduceIte, Nat.reduceAdd, Nat.reduceMul, Nat.reduceLeDiff, reduceCtorEq, Int.reduceLE, Int.reduceToNat, Nat.reduceSub, Bool.not_true, Bool.not_false, r1, r2, Int.le_refl])
  refine sq_nil (wp_seq (wp_seq (wp_sq ?_)))
  iterate 4 (refine sq_cons rfl ?_; simp only [ZS, Ez.lenD, Ez.appR, Ez.appD, Ez.srcOf, Ez.cpyD, Ez.frzV, Ez.frz, Ez.frz1, Ez.splice, if_true, if_false, Ez.intBin, Nat.reduceEqDiff, reduceIte, Nat.reduceAdd, Nat.reduceMul, Nat.reduceLeDiff, reduceCtorEq, Int.reduceLE, Int.reduceToNat, Nat.reduceSub, Bool.not_true, Bool.not_false])
  refine sq_nil (wp_block (n11_loop F n hn 8 6 (.c (.lit (.bool false))) (.c (.lit (.bool false))) (.c (.lit (.int .i64 0))) (.loc 0 0) (by omega) _ 14 ?_ ?_ (by omega) (by omega) n 0 _ _ _ (by omega) (by omega) (by simp only [getE_cons, Nat.reduceEqDiff, if_false, if_true]) (by simp only [getE_cons, Nat.reduceEqDiff, if_false, if_true]) (by simp only [getE_cons, Nat.reduceEqDiff, if_false, if_true]) (by simp only [getE_cons, Nat.reduceEqDiff, if_false, if_true]; rfl) ?_ (fun _ _ _ => rfl)))
  · intro s g2 g4 ga gf
    obtain ⟨se, sh, sn⟩ := s
    simp only at g2 g4 ga gf
    simp only [if_true]
    have c0 : getH sh 0 = .box [.full [] 0, .c (.lit (.bool false)), .c (.lit (.bool false)), .c (.lit (.int .i64 0))] := by rw [gf 0 (by omega) (by omega)]; rfl
    have c8 : getH sh 8 = .box [.arr 6 0 n, .c (.lit (.bool false)), .c (.lit (.bool false)), .c (.lit (.int .i64 0))] := by rw [gf 8 (by omega) (by omega)]; rfl
    refine wp_seq (wp_sq ?_)
    iterate 2 (refine sq_cons rfl ?_; simp only [ZS, Ez.lenD, Ez.appR, Ez.appD, Ez.srcOf, Ez.cpyD, Ez.frzV, Ez.frz, Ez.frz1, Ez.splice, if_true, if_false, Ez.intBin, Nat.reduceEqDiff, reduceIte, Nat.reduceAdd, Nat.reduceMul, Nat.reduceLeDiff, reduceCtorEq, Int.reduceLE, Int.reduceToNat, Nat.reduceSub, Bool.not_true, Bool.not_false, g2, g4, c0, c8])
    refine sq_nil (wp_ret ⟨rfl, 0, ?_, ?_⟩)
    · simp only [getE_cons, Nat.reduceEqDiff, if_false, if_true, g2]
    · refine BoxD.arr (rid := 6) (fz := 0) (l := newSecs n) ?_ ?_
      · simp only [getH_cons, if_true, newSecs_len]; rfl
      · simp only [getH_cons, Nat.reduceEqDiff, if_false]; exact ga
  · simp only [getH_cons, Nat.reduceEqDiff, if_true, if_false]
  · simp only [getH_cons, Nat.reduceEqDiff, if_true, if_false, nz]

end Go.Proofs.Ytfphnpelampoeaa.Rw

