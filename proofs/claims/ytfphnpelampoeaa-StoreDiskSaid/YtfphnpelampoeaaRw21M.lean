/-
  A crash, by the program.
-/
import Derived.Test.YtfphnpelampoeaaRw20M
set_option linter.unusedVariables false
set_option linter.unusedSimpArgs false
namespace Go.Proofs.Ytfphnpelampoeaa.Rw
open Go Go.Ez

def newD (T K j : Nat) (s : Sec) : Sec := ⟨s.sure, crashD T K j s, s.fresh⟩
/-- a disk's sectors after a crd; j fresh ones came before -/
def crd (T K : Nat) : Nat → List Sec → List Sec
  | _, [] => []
  | j, s :: l => newD T K j s :: crd T K (if s.fresh then j + 1 else j) l
theorem crd_len (T K : Nat) : ∀ (l : List Sec) (j : Nat), (crd T K j l).length = l.length
  | [], _ => rfl
  | s :: l, j => by simp [crd, crd_len T K l]
theorem crd_snoc (T K : Nat) (s : Sec) : ∀ (l : List Sec) (j : Nat), crd T K j (l ++ [s]) = crd T K j l ++ [newD T K (j + cnt l) s]
  | [], j => by simp [crd, cnt]
  | t :: l, j => by
    have e : (if t.fresh then j + 1 else j) + cnt l = j + ((if t.fresh then 1 else 0) + cnt l) := by split <;> omega
    simp only [List.cons_append, crd, crd_snoc T K s l, cnt, e]
def cdK (T K k : Nat) (l : List Sec) : List Sec := crd T K 0 (l.take k) ++ l.drop k
theorem cdK_len (T K k : Nat) (l : List Sec) : (cdK T K k l).length = l.length := by simp [cdK, crd_len]; omega
theorem cdK_at (T K k : Nat) (l : List Sec) (h : k < l.length) : secAt (cdK T K k l) k = secAt l k := by
  unfold secAt cdK
  rw [List.getD_eq_getElem?_getD, List.getElem?_append_right (by simp [crd_len]; omega), List.getD_eq_getElem?_getD]
  simp [crd_len, Nat.min_eq_left (Nat.le_of_lt h)]
theorem cdK_succ (T K k : Nat) (l : List Sec) (h : k < l.length) : (cdK T K k l).set k (newD T K (cnt (l.take k)) (secAt l k)) = cdK T K (k + 1) l := by
  have hl : (crd T K 0 (l.take k)).length = k := by simp [crd_len]; omega
  unfold cdK
  rw [take_succ_at l k h, List.set_append, if_neg (by omega), hl, Nat.sub_self, drop_getD noSec k l h, crd_snoc, Nat.zero_add]
  simp only [List.set_cons_zero, List.append_assoc, List.cons_append, List.nil_append]
theorem cdK_all (T K : Nat) (l : List Sec) : cdK T K l.length l = crd T K 0 l := by simp [cdK]
theorem Okay.crd {T K : Nat} : ∀ {l : List Sec} {j : Nat}, Okay l → Okay (crd T K j l)
  | [], _, _ => by intro s hs; cases hs
  | s :: l, j, h => by
    intro t ht
    simp only [Rw.crd, List.mem_cons] at ht
    rcases ht with rfl | ht
    · have := crashD_len T K j s (h s (by simp)); exact ⟨this, (h s (by simp)).2⟩
    · exact Okay.crd (fun u hu => h u (by simp [hu])) t ht
theorem Okay.cdK {l : List Sec} (h : Okay l) (T K k : Nat) : Okay (cdK T K k l) := by
  intro s hs
  rw [Rw.cdK, List.mem_append] at hs
  rcases hs with hs | hs
  · exact Okay.crd (fun u hu => h u (List.mem_of_mem_take hu)) s hs
  · exact h s (List.mem_of_mem_drop hs)

theorem settle_crd (T K : Nat) : ∀ (l : List Sec) (j : Nat), settleP (crd T K j l) = crash T K j l
  | [], _ => rfl
  | s :: l, j => by
    have := settle_crd T K l (if s.fresh then j + 1 else j)
    simp only [settleP] at this
    simp only [crd, crash, settleP, List.map_cons, this]
    rfl

theorem s19i_round (F : Tab) {Q : Ex → St → Prop} {e : Env} {h : Heap} {N bid i : Nat} {D1 D2 D3 D6 D7 D8 D9 D18 D19 : D} {da cur : List UInt8} (hd : da.length = 128) (hc : cur.length = 128) (hi : i < 128) (e1 : getE e 1 = D1) (e2 : getE e 2 = D2) (e3 : getE e 3 = D3) (e6 : getE e 6 = D6) (e7 : getE e 7 = D7) (e8 : getE e 8 = D8) (e9 : getE e 9 = D9) (e18 : getE e 18 = D18) (e19 : getE e 19 = D19) (e11 : getE e 11 = .arr bid 0 128) (e47 : getE e 47 = .c (.slice (bytesC da) 128)) (e48 : getE e 48 = .c (.lit (.int .i64 ((128 : Nat) : Int)))) (e49 : getE e 49 = .c (.lit (.int .i64 (i : Int)))) (hb : getH h bid = .arr (bytesC cur) 1 0 5)
    (hQ : ∀ s : St, N ≤ s.nx → getE s.env 1 = D1 → getE s.env 2 = D2 → getE s.env 3 = D3 → getE s.env 6 = D6 → getE s.env 7 = D7 → getE s.env 8 = D8 → getE s.env 9 = D9 → getE s.env 18 = D18 → getE s.env 19 = D19 → getE s.env 11 = .arr bid 0 128 → getE s.env 47 = .c (.slice (bytesC da) 128) → getE s.env 48 = .c (.lit (.int .i64 ((128 : Nat) : Int))) → getE s.env 49 = .c (.lit (.int .i64 ((i + 1 : Nat) : Int))) → getH s.heap bid = .arr (bytesC (cur.set i (~~~ byteAt da i))) 1 0 5 → (∀ x, x ≠ bid → getH s.heap x = getH h x) → Q .normal s) : WP F B19_0 ⟨e, h, N⟩ Q := by
  have hlt : decide ((i : Int) < ((128 : Nat) : Int)) = true := by simp; omega
  have hlt' : ((i : Int) < ((128 : Nat) : Int)) = True := by simp; omega
  have g1 := drop_bytes da i (by omega)
  have hnx := not_u8v (byteAt da i)
  have hsp := splice_bytes cur i (by omega) (~~~ byteAt da i)
  have hl : (bytesC cur).length = 128 := by rw [bytesC_len]; exact hc
  have f1 : (i + 1 ≤ 128) = True := by simp; omega
  have hw : IntKind.wrap .i64 ((i : Int) + 1) = ((i + 1 : Nat) : Int) := by rw [Go.Proofs.Ytfphnpelampoeaa.wrap_i64 _ (by omega)]; rfl
  unfold B19_0
  refine wp_seq (wp_sq ?_)
  iterate 1 (refine sq_cons rfl ?_; simp only [ZS, Ez.lenD, Ez.appR, Ez.appD, Ez.srcOf, Ez.cpyD, Ez.frzV, Ez.frz, Ez.frz1, Ez.splice, if_true, if_false, Ez.intBin, Nat.reduceEqDiff, reduceIte, Nat.reduceAdd, Nat.reduceMul, Nat.reduceLeDiff, reduceCtorEq, Int.reduceLE, Int.reduceToNat, Nat.reduceSub, Bool.not_true, Bool.not_false, e48, e49, hlt])
  refine sq_nil (wp_seq (wp_condT rfl (wp_skip ?_)))
  refine wp_seq (wp_block (wp_seq (wp_sq ?_)))
  iterate 5 (refine sq_cons rfl ?_; simp only [ZS, Ez.lenD, Ez.appR, Ez.appD, Ez.srcOf, Ez.cpyD, Ez.frzV, Ez.frz, Ez.frz1, if_true, if_false, Ez.intBin, Nat.reduceEqDiff, reduceIte, Nat.reduceAdd, Nat.reduceMul, Nat.reduceLeDiff, reduceCtorEq, Int.reduceLE, Int.reduceToNat, Nat.reduceSub, Bool.not_true, Bool.not_false, e47, e49, hlt', g1])
  refine sq_nil (wp_sq ?_)
  iterate 6 (refine sq_cons rfl ?_; simp only [ZS, Ez.lenD, Ez.appR, Ez.appD, Ez.srcOf, Ez.cpyD, Ez.frzV, Ez.frz, Ez.frz1, if_true, if_false, Ez.intBin, Nat.reduceEqDiff, reduceIte, Nat.reduceAdd, Nat.reduceMul, Nat.reduceLeDiff, reduceCtorEq, Int.reduceLE, Int.reduceToNat, Nat.reduceSub, Bool.not_true, Bool.not_false, e11, hb, hlt', hnx, hsp, hl, f1])
  refine sq_nil (wp_sq ?_)
  iterate 2 (refine sq_cons rfl ?_; simp only [ZS, Ez.lenD, Ez.appR, Ez.appD, Ez.srcOf, Ez.cpyD, Ez.frzV, Ez.frz, Ez.frz1, Ez.splice, if_true, if_false, Ez.intBin, Nat.reduceEqDiff, reduceIte, Nat.reduceAdd, Nat.reduceMul, Nat.reduceLeDiff, reduceCtorEq, Int.reduceLE, Int.reduceToNat, Nat.reduceSub, Bool.not_true, Bool.not_false, e49, hw])
  refine sq_nil (hQ _ ?_ ?_ ?_ ?_ ?_ ?_ ?_ ?_ ?_ ?_ ?_ ?_ ?_ ?_ ?_ ?_)
  · simp only; omega
  · simp only [getE_cons, Nat.reduceEqDiff, if_false, if_true, e1]
  · simp only [getE_cons, Nat.reduceEqDiff, if_false, if_true, e2]
  · simp only [getE_cons, Nat.reduceEqDiff, if_false, if_true, e3]
  · simp only [getE_cons, Nat.reduceEqDiff, if_false, if_true, e6]
  · simp only [getE_cons, Nat.reduceEqDiff, if_false, if_true, e7]
  · simp only [getE_cons, Nat.reduceEqDiff, if_false, if_true, e8]
  · simp only [getE_cons, Nat.reduceEqDiff, if_false, if_true, e9]
  · simp only [getE_cons, Nat.reduceEqDiff, if_false, if_true, e18]
  · simp only [getE_cons, Nat.reduceEqDiff, if_false, if_true, e19]
  · simp only [getE_cons, Nat.reduceEqDiff, if_false, if_true, e11]
  · simp only [getE_cons, Nat.reduceEqDiff, if_false, if_true, e47]
  · simp only [getE_cons, Nat.reduceEqDiff, if_false, if_true, e48]
  · simp only [getE_cons, Nat.reduceEqDiff, if_false, if_true]
  · simp only [getH_cons, if_true]
  · intro x hx
    simp only [getH_cons, show (bid = x) = False by simp; omega, if_false]

theorem s19i_out (F : Tab) {Q : Ex → St → Prop} {e : Env} {h : Heap} {N : Nat} (e48 : getE e 48 = .c (.lit (.int .i64 ((128 : Nat) : Int)))) (e49 : getE e 49 = .c (.lit (.int .i64 ((128 : Nat) : Int))))
    (hQ : ∀ s : St, s.heap = h → N ≤ s.nx → (∀ t, t < 50 → getE s.env t = getE e t) → Q (.exit 3) s) : WP F B19_0 ⟨e, h, N⟩ Q := by
  have hlt : decide (((128 : Nat) : Int) < ((128 : Nat) : Int)) = false := by simp
  unfold B19_0
  refine wp_seq (wp_sq ?_)
  iterate 1 (refine sq_cons rfl ?_; simp only [ZS, Ez.lenD, Ez.appR, Ez.appD, Ez.srcOf, Ez.cpyD, Ez.frzV, Ez.frz, Ez.frz1, Ez.splice, if_true, if_false, Ez.intBin, Nat.reduceEqDiff, reduceIte, Nat.reduceAdd, Nat.reduceMul, Nat.reduceLeDiff, reduceCtorEq, Int.reduceLE, Int.reduceToNat, Nat.reduceSub, Bool.not_true, Bool.not_false, e48, e49, hlt])
  refine sq_nil (wp_seq (wp_condF rfl (wp_exit (hQ _ rfl ?_ ?_))))
  · simp only; omega
  · intro t ht
    simp only [getE_cons, show (50 = t) = False by simp; omega, if_false]

/-- complements so far, the rest as it was made -/
def cmpZ (i : Nat) (da z : List UInt8) : List UInt8 := complB (da.take i) ++ z.drop i
theorem cmpZ_len (i : Nat) (da z : List UInt8) (h : da.length = z.length) : (cmpZ i da z).length = z.length := by simp [cmpZ, complB]; omega
theorem cmpZ_succ (i : Nat) (da z : List UInt8) (h : da.length = z.length) (hi : i < z.length) : (cmpZ i da z).set i (~~~ byteAt da i) = cmpZ (i + 1) da z := by
  have hl : (complB (da.take i)).length = i := by simp [complB]; omega
  have t1 : da.take (i + 1) = da.take i ++ [byteAt da i] := by
    unfold byteAt
    rw [List.take_add_one, List.getD_eq_getElem?_getD, List.getElem?_eq_getElem (by omega)]; rfl
  unfold cmpZ
  rw [t1, List.set_append, if_neg (by omega), hl, Nat.sub_self, drop_getD 0 i z hi]
  simp only [List.set_cons_zero, complB, List.map_append, List.map_cons, List.map_nil, List.append_assoc, List.cons_append, List.nil_append]

theorem s19i_loop (F : Tab) {Q : Ex → St → Prop} {bid : Nat} {D1 D2 D3 D6 D7 D8 D9 D18 D19 : D} {da z : List UInt8} (hd : da.length = 128) (hz : z.length = 128) (h0 : Heap) (N0 : Nat)
    (hQ : ∀ s : St, N0 ≤ s.nx → getE s.env 1 = D1 → getE s.env 2 = D2 → getE s.env 3 = D3 → getE s.env 6 = D6 → getE s.env 7 = D7 → getE s.env 8 = D8 → getE s.env 9 = D9 → getE s.env 18 = D18 → getE s.env 19 = D19 → getE s.env 11 = .arr bid 0 128 → getH s.heap bid = .arr (bytesC (complB da)) 1 0 5 → (∀ x, x ≠ bid → getH s.heap x = getH h0 x) → Q (.exit 3) s) :
    ∀ (m i N : Nat) (e : Env) (h : Heap), i + m = 128 → N0 ≤ N → getE e 1 = D1 → getE e 2 = D2 → getE e 3 = D3 → getE e 6 = D6 → getE e 7 = D7 → getE e 8 = D8 → getE e 9 = D9 → getE e 18 = D18 → getE e 19 = D19 → getE e 11 = .arr bid 0 128 → getE e 47 = .c (.slice (bytesC da) 128) → getE e 48 = .c (.lit (.int .i64 ((128 : Nat) : Int))) → getE e 49 = .c (.lit (.int .i64 (i : Int))) → getH h bid = .arr (bytesC (cmpZ i da z)) 1 0 5 → (∀ x, x ≠ bid → getH h x = getH h0 x) → WP F (.loop B19_0) ⟨e, h, N⟩ Q
  | 0, i, N, e, h, hi, hN, e1, e2, e3, e6, e7, e8, e9, e18, e19, e11, e47, e48, e49, hb, hf => by
    have : i = 128 := by omega
    subst this
    have hall : cmpZ 128 da z = complB da := by rw [cmpZ, List.take_of_length_le (by omega), List.drop_eq_nil_of_le (by omega), List.append_nil]
    refine wp_loop (s19i_out F e48 e49 fun s g1 g2 g3 => hQ s (by omega) (by rw [g3 1 (by omega)]; exact e1) (by rw [g3 2 (by omega)]; exact e2) (by rw [g3 3 (by omega)]; exact e3) (by rw [g3 6 (by omega)]; exact e6) (by rw [g3 7 (by omega)]; exact e7) (by rw [g3 8 (by omega)]; exact e8) (by rw [g3 9 (by omega)]; exact e9) (by rw [g3 18 (by omega)]; exact e18) (by rw [g3 19 (by omega)]; exact e19) (by rw [g3 11 (by omega)]; exact e11) (by rw [g1, hb, hall]) (by rw [g1]; exact hf))
  | m + 1, i, N, e, h, hi, hN, e1, e2, e3, e6, e7, e8, e9, e18, e19, e11, e47, e48, e49, hb, hf => by
    refine wp_loop (s19i_round F (cur := cmpZ i da z) hd (by rw [cmpZ_len i da z (by omega)]; exact hz) (by omega) e1 e2 e3 e6 e7 e8 e9 e18 e19 e11 e47 e48 e49 hb ?_)
    intro s g0 g_1 g_2 g_3 g_6 g_7 g_8 g_9 g_18 g_19 g11 g47 g48 g49 gb gf
    obtain ⟨se, sh, sn⟩ := s
    simp only at g0 g_1 g_2 g_3 g_6 g_7 g_8 g_9 g_18 g_19 g11 g47 g48 g49 gb gf
    rw [cmpZ_succ i da z (by omega) (by omega)] at gb
    exact s19i_loop F hd hz h0 N0 hQ m (i + 1) sn se sh (by omega) (by omega) g_1 g_2 g_3 g_6 g_7 g_8 g_9 g_18 g_19 g11 g47 g48 g49 gb fun x hx => by rw [gf x hx]; exact hf x hx

end Go.Proofs.Ytfphnpelampoeaa.Rw

