/-
  Bits; the complement of a sector in its place.
-/
import Derived.Test.YtfphnpelampoeaaRw17M
set_option linter.unusedVariables false
set_option linter.unusedSimpArgs false
namespace Go.Proofs.Ytfphnpelampoeaa.Rw
open Go Go.Ez

theorem wrap_u64 (n : Nat) (h : n < 18446744073709551616) : IntKind.wrap .u64 (n : Int) = (n : Int) := by
  unfold IntKind.wrap
  simp [IntKind.signed, IntKind.bits]
  omega

theorem shr_u64 (T s : Nat) (hs : s < 64) : shiftBin .shr .u64 (T : Int) (s : Int) = some (.int .u64 ((T / 2 ^ s : Nat) : Int)) := by
  unfold shiftBin
  rw [if_neg (by omega)]
  simp only [Int.toNat_natCast]
  have hm : min s IntKind.u64.bits = s := by simp [IntKind.bits]; omega
  rw [hm, Int.ofNat_fdiv, Int.natCast_pow]
  rfl

theorem shl_u64 (s : Nat) (hs : s < 64) : shiftBin .shl .u64 1 (s : Int) = some (.int .u64 ((2 ^ s : Nat) : Int)) := by
  unfold shiftBin
  rw [if_neg (by omega)]
  simp only [Int.toNat_natCast]
  have hm : min s IntKind.u64.bits = s := by simp [IntKind.bits]; omega
  have h2 : 2 ^ s < 18446744073709551616 := Nat.pow_lt_pow_right (a := 2) (by omega) hs
  rw [hm, Int.one_mul, ← wrap_u64 (2 ^ s) h2, Int.natCast_pow]
  rfl

theorem and_u64 (X Y : Nat) (hX : X < 18446744073709551616) (hY : Y < 18446744073709551616) : intBin .and .u64 (X : Int) (Y : Int) = some (.int .u64 ((X &&& Y : Nat) : Int)) := by
  unfold intBin
  have h1 : (BitVec.ofInt IntKind.u64.bits (X : Int) &&& BitVec.ofInt IntKind.u64.bits (Y : Int)).toNat = X &&& Y := by
    show (BitVec.ofInt 64 (X : Int) &&& BitVec.ofInt 64 (Y : Int)).toNat = X &&& Y
    rw [BitVec.ofInt_natCast, BitVec.ofInt_natCast, BitVec.toNat_and, BitVec.toNat_ofNat, BitVec.toNat_ofNat, Nat.mod_eq_of_lt hX, Nat.mod_eq_of_lt hY]
  simp only [h1]
  rw [wrap_u64 _ (Nat.lt_of_le_of_lt Nat.and_le_left hX)]

theorem not_u8 : ∀ x : UInt8, IntKind.wrap .u8 (BitVec.toNat (BitVec.ofInt 8 255 ^^^ BitVec.ofInt 8 (x.toNat : Int)) : Int) = ((~~~ x).toNat : Int) := by
  intro x
  cases x with
  | ofBitVec v => revert v; decide +kernel

theorem not_u8v (x : UInt8) : unV .xor (.int .u8 (x.toNat : Int)) = some (.int .u8 ((~~~ x).toNat : Int)) := by
  rw [← not_u8 x]
  rfl

theorem splice_bytes (l : List UInt8) (j : Nat) (h : j < l.length) (b : UInt8) : splice (bytesC l) j [C.lit (.int .u8 (b.toNat : Int))] = bytesC (l.set j b) := by
  rw [← bytesC_set l j h b]
  simp [splice, byteC]

theorem s26i_round (F : Tab) {Q : Ex → St → Prop} {e : Env} {h : Heap} {N sb b i : Nat} {A Fc D1 D2 D6 D7 D8 D9 : D} {cur : List UInt8} (hc : cur.length = 128) (hi : i < 128) (e1 : getE e 1 = D1) (e2 : getE e 2 = D2) (e6 : getE e 6 = D6) (e7 : getE e 7 = D7) (e8 : getE e 8 = D8) (e9 : getE e 9 = D9) (e10 : getE e 10 = .loc sb 0) (e11 : getE e 11 = .c (.lit (.int .i64 (i : Int))))
    (hs : getH h sb = .box [A, .arr b 0 128, Fc]) (hb : getH h b = .arr (bytesC cur) 1 0 5) (hsb : sb ≠ b)
    (hQ : ∀ s : St, N ≤ s.nx → getE s.env 1 = D1 → getE s.env 2 = D2 → getE s.env 6 = D6 → getE s.env 7 = D7 → getE s.env 8 = D8 → getE s.env 9 = D9 → getE s.env 10 = .loc sb 0 → getE s.env 11 = .c (.lit (.int .i64 ((i + 1 : Nat) : Int))) → getH s.heap b = .arr (bytesC (cur.set i (~~~ byteAt cur i))) 1 0 5 → (∀ x, x ≠ b → getH s.heap x = getH h x) → Q .normal s) : WP F B26_0 ⟨e, h, N⟩ Q := by
  have hlt : decide ((i : Int) < ((128 : Nat) : Int)) = true := by simp; omega
  have hlt' : ((i : Int) < ((128 : Nat) : Int)) = True := by simp; omega
  have g1 : (bytesC cur)[i]? = some (.lit (.int .u8 ((byteAt cur i).toNat : Int))) := by
    have := drop_bytes cur i (by omega)
    have h0 : ((bytesC cur).drop i)[0]? = (bytesC cur)[i]? := by rw [List.getElem?_drop]; rfl
    rw [← h0, this]; rfl
  have hnx := not_u8v (byteAt cur i)
  have hsp := splice_bytes cur i (by omega) (~~~ byteAt cur i)
  have hl : (bytesC cur).length = 128 := by rw [bytesC_len]; exact hc
  have f1 : (i + 1 ≤ 128) = True := by simp; omega
  have x1 : (sb = b) = False := by simpa using hsb
  have x2 : (b = sb) = False := by simpa using fun e : b = sb => hsb e.symm
  have hw : IntKind.wrap .i64 ((i : Int) + 1) = ((i + 1 : Nat) : Int) := by rw [Go.Proofs.Ytfphnpelampoeaa.wrap_i64 _ (by omega)]; rfl
  unfold B26_0
  refine wp_seq (wp_seq (wp_sq ?_))
  iterate 5 (refine sq_cons rfl ?_; simp only [ZS, Ez.lenD, Ez.appR, Ez.appD, Ez.srcOf, Ez.cpyD, Ez.frzV, Ez.frz, Ez.frz1, Ez.splice, if_true, if_false, Ez.intBin, Nat.reduceEqDiff, reduceIte, Nat.reduceAdd, Nat.reduceMul, Nat.reduceLeDiff, reduceCtorEq, Int.reduceLE, Int.reduceToNat, Nat.reduceSub, Bool.not_true, Bool.not_false, e10, e11, hs, hlt])
  refine sq_nil (wp_condT rfl (wp_skip ?_))
  refine wp_seq (wp_block (wp_dr ?_))
  iterate 11 (refine dr_cons rfl ?_; simp only [ZS, Ez.lenD, Ez.appR, Ez.appD, Ez.srcOf, Ez.cpyD, Ez.frzV, Ez.frz, Ez.frz1, if_true, if_false, Ez.intBin, Nat.reduceEqDiff, reduceIte, Nat.reduceAdd, Nat.reduceMul, Nat.reduceLeDiff, reduceCtorEq, Int.reduceLE, Int.reduceToNat, Nat.reduceSub, Bool.not_true, Bool.not_false, e10, e11, hs, hb, hlt', g1, hnx, hsp, hl, f1, x1, x2])
  refine dr_nil ⟨?_, ?_⟩
  · simp [drawOk, drawFrom, okRow, clash, meets, touches, frzIds, ids1, opX, tmpsX, Nat.testBit, evX, getE_cons, e10, e11, hs, hb, x1, x2, getH_cons]
  refine wp_sq ?_
  iterate 3 (refine sq_cons rfl ?_; simp only [ZS, Ez.lenD, Ez.appR, Ez.appD, Ez.srcOf, Ez.cpyD, Ez.frzV, Ez.frz, Ez.frz1, Ez.splice, if_true, if_false, Ez.intBin, Nat.reduceEqDiff, reduceIte, Nat.reduceAdd, Nat.reduceMul, Nat.reduceLeDiff, reduceCtorEq, Int.reduceLE, Int.reduceToNat, Nat.reduceSub, Bool.not_true, Bool.not_false, e11, hw])
  refine sq_nil (hQ _ ?_ ?_ ?_ ?_ ?_ ?_ ?_ ?_ ?_ ?_ ?_)
  · simp only; omega
  · simp only [getE_cons, Nat.reduceEqDiff, if_false, if_true, e1]
  · simp only [getE_cons, Nat.reduceEqDiff, if_false, if_true, e2]
  · simp only [getE_cons, Nat.reduceEqDiff, if_false, if_true, e6]
  · simp only [getE_cons, Nat.reduceEqDiff, if_false, if_true, e7]
  · simp only [getE_cons, Nat.reduceEqDiff, if_false, if_true, e8]
  · simp only [getE_cons, Nat.reduceEqDiff, if_false, if_true, e9]
  · simp only [getE_cons, Nat.reduceEqDiff, if_false, if_true, e10]
  · simp only [getE_cons, Nat.reduceEqDiff, if_false, if_true]
  · simp only [getH_cons, if_true]
  · intro x hx
    simp only [getH_cons, show (b = x) = False by simp; omega, if_false]

theorem s26i_out (F : Tab) {Q : Ex → St → Prop} {e : Env} {h : Heap} {N sb b : Nat} {A Fc : D} (e10 : getE e 10 = .loc sb 0) (e11 : getE e 11 = .c (.lit (.int .i64 ((128 : Nat) : Int)))) (hs : getH h sb = .box [A, .arr b 0 128, Fc])
    (hQ : ∀ s : St, s.heap = h → N ≤ s.nx → (∀ t, t < 11 → getE s.env t = getE e t) → Q (.exit 3) s) : WP F B26_0 ⟨e, h, N⟩ Q := by
  have hlt : decide (((128 : Nat) : Int) < ((128 : Nat) : Int)) = false := by simp
  unfold B26_0
  refine wp_seq (wp_seq (wp_sq ?_))
  iterate 5 (refine sq_cons rfl ?_; simp only [ZS, Ez.lenD, Ez.appR, Ez.appD, Ez.srcOf, Ez.cpyD, Ez.frzV, Ez.frz, Ez.frz1, Ez.splice, if_true, if_false, Ez.intBin, Nat.reduceEqDiff, reduceIte, Nat.reduceAdd, Nat.reduceMul, Nat.reduceLeDiff, reduceCtorEq, Int.reduceLE, Int.reduceToNat, Nat.reduceSub, Bool.not_true, Bool.not_false, e10, e11, hs, hlt])
  refine sq_nil (wp_condF rfl (wp_exit (hQ _ rfl ?_ ?_)))
  · simp only; omega
  · intro t ht
    simp only [getE_cons, show (39 = t) = False by simp; omega, show (38 = t) = False by simp; omega, show (37 = t) = False by simp; omega, show (36 = t) = False by simp; omega, show (35 = t) = False by simp; omega, if_false]

def complB (b : List UInt8) : List UInt8 := b.map fun x => ~~~ x
def cplK (k : Nat) (b : List UInt8) : List UInt8 := complB (b.take k) ++ b.drop k
theorem cplK_len (k : Nat) (b : List UInt8) : (cplK k b).length = b.length := by simp [cplK, complB]; omega
theorem cplK_at (k : Nat) (b : List UInt8) (h : k < b.length) : byteAt (cplK k b) k = byteAt b k := by
  unfold byteAt cplK
  rw [List.getD_eq_getElem?_getD, List.getElem?_append_right (by simp [complB]; omega), List.getD_eq_getElem?_getD]
  simp [complB, Nat.min_eq_left (Nat.le_of_lt h)]
theorem cplK_succ (k : Nat) (b : List UInt8) (h : k < b.length) : (cplK k b).set k (~~~ byteAt b k) = cplK (k + 1) b := by
  have hl : (complB (b.take k)).length = k := by simp [complB]; omega
  have t1 : b.take (k + 1) = b.take k ++ [byteAt b k] := by
    unfold byteAt
    rw [List.take_add_one, List.getD_eq_getElem?_getD, List.getElem?_eq_getElem h]; rfl
  unfold cplK
  rw [t1, List.set_append, if_neg (by omega), hl, Nat.sub_self, drop_getD 0 k b h]
  simp only [List.set_cons_zero, complB, List.map_append, List.map_cons, List.map_nil, List.append_assoc, List.cons_append, List.nil_append]

theorem s26i_loop (F : Tab) {Q : Ex → St → Prop} {sb b : Nat} {A Fc D1 D2 D6 D7 D8 D9 : D} {da : List UInt8} (hc : da.length = 128) (hsb : sb ≠ b) (h0 : Heap) (N0 : Nat)
    (hQ : ∀ s : St, N0 ≤ s.nx → getE s.env 1 = D1 → getE s.env 2 = D2 → getE s.env 6 = D6 → getE s.env 7 = D7 → getE s.env 8 = D8 → getE s.env 9 = D9 → getE s.env 10 = .loc sb 0 → getH s.heap b = .arr (bytesC (complB da)) 1 0 5 → (∀ x, x ≠ b → getH s.heap x = getH h0 x) → Q (.exit 3) s) :
    ∀ (m i N : Nat) (e : Env) (h : Heap), i + m = 128 → N0 ≤ N → getE e 1 = D1 → getE e 2 = D2 → getE e 6 = D6 → getE e 7 = D7 → getE e 8 = D8 → getE e 9 = D9 → getE e 10 = .loc sb 0 → getE e 11 = .c (.lit (.int .i64 (i : Int))) → getH h sb = .box [A, .arr b 0 128, Fc] → getH h b = .arr (bytesC (cplK i da)) 1 0 5 → (∀ x, x ≠ b → getH h x = getH h0 x) → WP F (.loop B26_0) ⟨e, h, N⟩ Q
  | 0, i, N, e, h, hi, hN, e1, e2, e6, e7, e8, e9, e10, e11, hs, hb, hf => by
    have : i = 128 := by omega
    subst this
    have hall : cplK 128 da = complB da := by rw [← hc]; simp [cplK]
    refine wp_loop (s26i_out F e10 e11 hs fun s g1 g2 g3 => hQ s (by omega) (by rw [g3 1 (by omega)]; exact e1) (by rw [g3 2 (by omega)]; exact e2) (by rw [g3 6 (by omega)]; exact e6) (by rw [g3 7 (by omega)]; exact e7) (by rw [g3 8 (by omega)]; exact e8) (by rw [g3 9 (by omega)]; exact e9) (by rw [g3 10 (by omega)]; exact e10) (by rw [g1, hb, hall]) (by rw [g1]; exact hf))
  | m + 1, i, N, e, h, hi, hN, e1, e2, e6, e7, e8, e9, e10, e11, hs, hb, hf => by
    refine wp_loop (s26i_round F (cur := cplK i da) (by rw [cplK_len]; exact hc) (by omega) e1 e2 e6 e7 e8 e9 e10 e11 hs hb hsb ?_)
    intro s g0 g1 g2 g6 g7 g8 g9 g10 g11 gb gf
    obtain ⟨se, sh, sn⟩ := s
    simp only at g0 g1 g2 g6 g7 g8 g9 g10 g11 gb gf
    rw [cplK_at i da (by omega), cplK_succ i da (by omega)] at gb
    exact s26i_loop F hc hsb h0 N0 hQ m (i + 1) sn se sh (by omega) (by omega) g1 g2 g6 g7 g8 g9 g10 g11 (by rw [gf sb hsb]; exact hs) gb fun x hx => by rw [gf x hx]; exact hf x hx

end Go.Proofs.Ytfphnpelampoeaa.Rw

