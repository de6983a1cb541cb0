/-
  What number and Crash compute; the loops of record, same and New; equality of bytes.
-/
import Derived.Test.YtfphnpelampoeaaH4
namespace Go.Proofs.Ytfphnpelampoeaa
open Go Go.Ev

/-- four bytes, the least first -/
def numOf (b : List UInt8) : Nat := (byteAt b 0).toNat + 256 * (byteAt b 1).toNat + 65536 * (byteAt b 2).toNat + 16777216 * (byteAt b 3).toNat

theorem wrap_u32 (n : Nat) (h : n < 4294967296) : IntKind.wrap .u32 (n : Int) = (n : Int) := by
  unfold IntKind.wrap
  simp [IntKind.signed, IntKind.bits]
  omega

theorem or_u32 (a b : Nat) (ha : a < 4294967296) (hb : b < 4294967296) : IntKind.wrap .u32 ((BitVec.toNat (BitVec.ofInt 32 (a : Int) ||| BitVec.ofInt 32 (b : Int)) : Nat) : Int) = ((a ||| b : Nat) : Int) := by
  have e : BitVec.toNat (BitVec.ofInt 32 (a : Int) ||| BitVec.ofInt 32 (b : Int)) = a ||| b := by
    rw [BitVec.toNat_or, BitVec.ofInt_natCast, BitVec.ofInt_natCast, BitVec.toNat_ofNat, BitVec.toNat_ofNat, Nat.mod_eq_of_lt (by simpa using ha), Nat.mod_eq_of_lt (by simpa using hb)]
  rw [e, wrap_u32 _ (Nat.or_lt_two_pow (n := 32) ha hb)]

theorem or_add (i a b : Nat) (h : b < 2 ^ i) : b ||| 2 ^ i * a = b + 2 ^ i * a := by
  rw [Nat.or_comm, ← Nat.two_pow_add_eq_or_of_lt h, Nat.add_comm]

theorem number_spec (b : List UInt8) (h : 4 ≤ b.length) : RunF F 42 [.one (bytesS b)] [.one (.lit (.int .u32 (numOf b : Int)))] := by
  have h := fn_gives (f := 42) rfl rfl (numb_0 b h)
  unfold numOf
  have l0 := u8_lt (byteAt b 0)
  have l1 := u8_lt (byteAt b 1)
  have l2 := u8_lt (byteAt b 2)
  have l3 := u8_lt (byteAt b 3)
  revert l0 l1 l2 l3 h
  generalize (byteAt b 0).toNat = x0
  generalize (byteAt b 1).toNat = x1
  generalize (byteAt b 2).toNat = x2
  generalize (byteAt b 3).toNat = x3
  intro h l0 l1 l2 l3
  have m1 : ((x1 : Int) * 256) = ((256 * x1 : Nat) : Int) := by omega
  have m2 : ((x2 : Int) * 65536) = ((65536 * x2 : Nat) : Int) := by omega
  have m3 : ((x3 : Int) * 16777216) = ((16777216 * x3 : Nat) : Int) := by omega
  have o1 : x0 ||| 256 * x1 = x0 + 256 * x1 := or_add 8 x1 x0 (by omega)
  have o2 : (x0 + 256 * x1) ||| 65536 * x2 = x0 + 256 * x1 + 65536 * x2 := or_add 16 x2 _ (by omega)
  have o3 : (x0 + 256 * x1 + 65536 * x2) ||| 16777216 * x3 = x0 + 256 * x1 + 65536 * x2 + 16777216 * x3 := or_add 24 x3 _ (by omega)
  rw [wrap_u32 x0 (by omega), wrap_u32 x1 (by omega), wrap_u32 x2 (by omega), wrap_u32 x3 (by omega), m1, m2, m3, wrap_u32 (256 * x1) (by omega), wrap_u32 (65536 * x2) (by omega), wrap_u32 (16777216 * x3) (by omega),
    or_u32 _ _ (by omega) (by omega), o1, or_u32 _ _ (by omega) (by omega), o2, or_u32 _ _ (by omega) (by omega), o3] at h
  exact h

theorem settle_map (l : List Sec) : settleP l = (l.map Sec.data).map clean := by simp [settleP]

/-- after a crash: the disk's sectors are clean, and hold what a crash can leave -/
theorem crash_spec (kp tn : Int) (l : List Sec) (de ar : Bool) (le : Int) (h1 : 0 < l.length) (h2 : l.length ≤ 256) (hd : Okay l) :
    ∃ bs, RunF F 19 [dskV l de ar le, .one (.lit (.int .u64 kp)), .one (.lit (.int .u64 tn))] [dskV (bs.map clean) false false 0] ∧ Crashed l bs ∧ ∀ b ∈ bs, b.length = 128 := by
  obtain ⟨l', j, hL, hc, hl⟩ := crash_loop kp tn l de ar le l.length 0 0 l (by omega) (by omega) h2 hd
  rw [List.take_zero, List.nil_append] at hL
  rw [List.drop_zero] at hc
  have he : l'.length = l.length := by have := hc.len; simpa using this
  refine ⟨l'.map Sec.data, ?_, hc, ?_⟩
  · rw [← settle_map]
    exact fn_gives (f := 19) rfl rfl (crashF_0 kp tn l l' [] de ar le j h1 h2 he hl hL)
  · intro b hb
    obtain ⟨s, hs, rfl⟩ := List.mem_map.1 hb
    exact hl s hs

theorem wrap_u8_ex (x : Int) : ∃ b : UInt8, IntKind.wrap .u8 x = (b.toNat : Int) := by
  have h : IntKind.wrap .u8 x = x % 256 := by
    unfold IntKind.wrap
    simp [IntKind.signed, IntKind.bits]
  refine ⟨UInt8.ofNat (x % 256).toNat, ?_⟩
  rw [h, UInt8.toNat_ofNat']
  omega

def S15x (i n : Int) (b : List UInt8) : St := ⟨[(0, iD i), (1, .c (.lit (.int .u16 n))), (5, .arr 0 0 b.length), (6, iD b.length), (14, bD (decide ((b.length : Int) < b.length)))], [(0, .arr (bytesC b) 1 0 5)], 5, false⟩

theorem rec_loop (i n : Int) : ∀ (m k : Nat) (b : List UInt8), k + m = b.length → b.length ≤ 900 → ∃ b', b'.length = b.length ∧ LoopF F [0, 1, 5, 6] B15_0 (S15 i n b k) (.exit 0) (S15x i n b')
  | 0, k, b, hk, hb => by
    have e : k = b.length := by omega
    subst e
    exact ⟨b, rfl, LoopF.out (rec_r_1 i n b b.length hb (Nat.le_refl _)) (by simp)⟩
  | m + 1, k, b, hk, hb => by
    have h := rec_r_0 i n b k hb (by omega)
    rw [wrap_i64 _ (by omega)] at h
    generalize hx : IntKind.wrap IntKind.u8 _ = x at h
    obtain ⟨y, rfl⟩ : ∃ y : UInt8, x = (y.toNat : Int) := by rw [← hx]; exact wrap_u8_ex _
    have e : (bytesC b).take k ++ C.lit (.int .u8 (y.toNat : Int)) :: (bytesC b).drop (k + 1) = bytesC (b.set k y) := bytesC_set k b (by omega) y
    rw [e] at h
    obtain ⟨b', h1, h2⟩ := rec_loop i n m (k + 1) (b.set k y) (by simp; omega) (by simpa using hb)
    refine ⟨b', by simpa using h1, LoopF.round h ?_⟩
    simp only [S15, List.length_set] at h2
    exact h2

theorem toList_loop (b : ByteArray) : ∀ (n i : Nat) (r : List UInt8), b.size - i = n → ByteArray.toList.loop b i r = r.reverse ++ b.data.toList.drop i
  | 0, i, r, h => by
    rw [ByteArray.toList.loop, if_neg (by omega), List.drop_of_length_le (by simp only [Array.length_toList]; simp only [ByteArray.size] at h; omega), List.append_nil]
  | n + 1, i, r, h => by
    have hi : i < b.size := by omega
    rw [ByteArray.toList.loop, if_pos hi, toList_loop b n (i + 1) _ (by omega)]
    have hi' : i < b.data.toList.length := by simp only [Array.length_toList]; exact hi
    rw [List.drop_eq_getElem_cons hi', List.reverse_cons, List.append_assoc]
    congr 2
    simp only [ByteArray.get!, Array.getElem_toList]
    rw [getElem!_pos b.data i hi]
    rfl

theorem toList_mk (l : List UInt8) : (ByteArray.mk l.toArray).toList = l := by
  unfold ByteArray.toList
  rw [toList_loop (ByteArray.mk l.toArray) l.length 0 [] (by simp [ByteArray.size])]
  simp

theorem bytes_same (a b : List UInt8) : RunF F 31 [.one (bytesS a), .one (bytesS b)] [.one (boolC (a == b))] := by
  have h := fn_gives (f := 31) rfl rfl (store_same_0 a b)
  rw [toList_mk, toList_mk] at h
  exact h

def S20x (a b : List ByteArray) : St := ⟨[(0, .c (.slice (strsC a) a.length)), (1, .c (.slice (strsC b) b.length)), (5, iD a.length), (14, bD (decide ((a.length : Int) < a.length)))], [], 4, false⟩

theorem same_loop (a : List ByteArray) (hl : a.length < 100000) : ∀ (m k : Nat), k + m = a.length → LoopF F [0, 1, 5] B20_0 (S20 a a k) (.exit 0) (S20x a a)
  | 0, k, hk => by
    have e : k = a.length := by omega
    subst e
    exact LoopF.out (same_r_2 a a a.length rfl hl (Nat.le_refl _)) (by simp)
  | m + 1, k, hk => LoopF.round (same_r_1 a a k rfl hl (by omega) rfl) (same_loop a hl m (k + 1) (by omega))

/-- a sector of zeros -/
def zeroB : List UInt8 := List.replicate 128 0
def zeroSec : Sec := clean zeroB
def newSecs (n : Nat) : List Sec := List.replicate n zeroSec

theorem zeroSec_cells : secC zeroSec = [C.slice (List.take 128 (zeros [Value.int IntKind.u8 0] 128)) 128, C.slice (List.take 128 (zeros [Value.int IntKind.u8 0] 128)) 128, C.lit (Value.bool false)] := by
  rw [zeros_bytes, bytesC_take]
  rfl

theorem new_loop (n : Nat) (hn : n ≤ 256) : ∀ (j k : Nat) (cs : List C), n = k + j → cs.length = n * 3 →
    LoopF F [2, 4, 14, 15] B11_0 (S11 n k cs) (.exit 0) ⟨(S11 n n (cs.take (k * 3) ++ secsC (newSecs j))).env ++ [(16, bD (decide ((n : Int) < n)))], (S11 n n (cs.take (k * 3) ++ secsC (newSecs j))).heap, 4, false⟩
  | 0, k, cs, hk, hl => by
    obtain rfl : n = k := by omega
    have e : cs.take (n * 3) ++ secsC (newSecs 0) = cs := by
      rw [List.take_of_length_le (by omega)]
      simp [newSecs, secsC]
    rw [e]
    exact LoopF.out (new_o_0 n cs) (by simp)
  | j + 1, k, cs, hk, hl => by
    refine LoopF.round (new_r_0 n k cs (by omega) hn hl) ?_
    have e0 : ∀ t : List C, C.slice (List.take 128 (zeros [Value.int IntKind.u8 0] 128)) 128 :: C.slice (List.take 128 (zeros [Value.int IntKind.u8 0] 128)) 128 :: C.lit (Value.bool false) :: t = secC zeroSec ++ t := by
      intro t; rw [zeroSec_cells]; rfl
    rw [e0]
    have ih := new_loop n hn j (k + 1) (cs.take (k * 3) ++ (secC zeroSec ++ cs.drop (k * 3 + 3))) (by omega) (by
      simp only [List.length_append, List.length_take, List.length_drop, secC_len]; omega)
    have e : (cs.take (k * 3) ++ (secC zeroSec ++ cs.drop (k * 3 + 3))).take ((k + 1) * 3) = cs.take (k * 3) ++ secC zeroSec := by
      rw [← List.append_assoc, List.take_append_of_le_length (by simp only [List.length_append, List.length_take, secC_len]; omega), List.take_of_length_le (by simp only [List.length_append, List.length_take, secC_len]; omega)]
    have e2 : cs.take (k * 3) ++ secC zeroSec ++ secsC (newSecs j) = cs.take (k * 3) ++ secsC (newSecs (j + 1)) := by
      rw [List.append_assoc]
      congr 1
    rw [e, e2] at ih
    exact ih

/-- how many sectors a disk has -/
def clamp (m : Int) : Nat := (min (max m 1) 256).toNat

theorem clamp_eq (m : Int) : (Int.toNat (if (256 : Int) < if (1 : Int) > m then (1 : Int) else m then (256 : Int) else if (1 : Int) > m then (1 : Int) else m)) = clamp m := by
  unfold clamp
  split <;> split <;> omega

end Go.Proofs.Ytfphnpelampoeaa
