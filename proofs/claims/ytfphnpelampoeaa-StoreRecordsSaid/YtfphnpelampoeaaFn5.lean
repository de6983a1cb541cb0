/-
  What New, Valid, header, record and same compute.
-/
import Derived.Test.YtfphnpelampoeaaH5
namespace Go.Proofs.Ytfphnpelampoeaa
open Go Go.Ev

theorem newSecs_len (n : Nat) : (newSecs n).length = n := by simp [newSecs]

theorem new_spec (m : Int) : RunF F 11 [.one (intC m)] [dskV (newSecs (clamp m)) false false 0] := by
  have hc : 1 ≤ clamp m ∧ clamp m ≤ 256 := by unfold clamp; omega
  have hl : (secsC (newSecs (clamp m))).length = clamp m * 3 := by rw [secsC_len, newSecs_len]
  have hz : ∀ n, (zeros [Value.slice none 0 0, Value.slice none 0 0, Value.bool false] n).length = n * 3 := by
    intro n
    induction n with
    | zero => rfl
    | succ n ih => rw [zeros, List.length_append, ih]; simp; omega
  have h := new_0 m (clamp m) (secsC (newSecs (clamp m))) (by omega) hl (by
    rw [clamp_eq]
    exact new_loop (clamp m) hc.2 (clamp m) 0 (zeros [Value.slice none 0 0, Value.slice none 0 0, Value.bool false] (clamp m)) (by omega) (hz _))
  have h2 := fn_gives (f := 11) rfl rfl h
  rw [List.take_of_length_le (by omega), slice_secs _ _ (newSecs_len _)] at h2
  exact h2

theorem clean_ok (b : List UInt8) (h : b.length = 128) : SecOK (clean b) := ⟨h, h, fun _ => rfl⟩

theorem valid_loop (l : List Sec) (hn : l.length ≤ 256) (hs : ∀ s, s ∈ l → SecOK s) : ∀ (j k : Nat), l.length = k + j →
    LoopF F [31, 32, 33] B12_0 (S12 l k) (.exit 0) ⟨(S12 l l.length).env ++ [(34, bD (decide ((l.length : Int) < l.length)))], [], 1, false⟩
  | 0, k, hk => by
    obtain rfl : l.length = k := by omega
    exact LoopF.out (valid_o_0 l) (by simp)
  | j + 1, k, hk => by
    have hk' : k < l.length := by omega
    have ok := hs _ (secAt_mem l k hk')
    have ih := valid_loop l hn hs j (k + 1) (by omega)
    cases hf : (secAt l k).fresh with
    | false => exact LoopF.round (valid_r_0 l k hk' hn ok.data ok.sure hf (ok.same hf)) ih
    | true => exact LoopF.round (valid_f_0 l k hk' hn ok.data ok.sure hf) ih

theorem num4_of (n : Nat) (h : n < 4294967296) (t : List UInt8) : numOf (num4 n ++ t) = n := by
  simp [numOf, num4, byteAt, UInt8.toNat_ofNat']
  omega

theorem firstSec_1 (i : Nat) (r : List UInt8) : (firstSec i r).tail = num4 i ++ (num4 r.length ++ num4 (4294967295 - r.length) ++ [0, 0, 0] ++ padTo 112 r) := by simp [firstSec]
theorem firstSec_5 (i : Nat) (r : List UInt8) : (firstSec i r).drop 5 = num4 r.length ++ (num4 (4294967295 - r.length) ++ [0, 0, 0] ++ padTo 112 r) := by simp [firstSec, num4]
theorem firstSec_9 (i : Nat) (r : List UInt8) : (firstSec i r).drop 9 = num4 (4294967295 - r.length) ++ ([0, 0, 0] ++ padTo 112 r) := by simp [firstSec, num4]
theorem firstSec_16 (i : Nat) (r : List UInt8) : (firstSec i r).drop 16 = padTo 112 r := by simp [firstSec, num4]

theorem not_u32 (n : Nat) (h : n < 4294967296) : BitVec.toNat (BitVec.ofNat 32 4294967295 ^^^ BitVec.ofNat 32 n) = 4294967295 - n := by
  have e : BitVec.ofNat 32 4294967295 = BitVec.allOnes 32 := rfl
  rw [e, BitVec.allOnes_xor, BitVec.toNat_not, BitVec.toNat_ofNat, Nat.mod_eq_of_lt (by simpa using h)]

theorem not_u32' (n : Nat) (h : n < 4294967296) : IntKind.wrap .u32 ((BitVec.toNat (BitVec.ofInt 32 4294967295 ^^^ BitVec.ofInt 32 (n : Int)) : Nat) : Int) = ((4294967295 - n : Nat) : Int) := by
  have e : BitVec.ofInt 32 4294967295 = BitVec.ofNat 32 4294967295 := rfl
  rw [e, BitVec.ofInt_natCast, not_u32 n h, wrap_u32 _ (by omega)]

theorem not_u32n (n : Nat) (h : n < 4294967296) : IntKind.wrap .u32 ((4294967295 ^^^ n % 4294967296 : Nat) : Int) = ((4294967295 - n : Nat) : Int) := by
  have e : (4294967295 ^^^ n % 4294967296 : Nat) = BitVec.toNat (BitVec.ofNat 32 4294967295 ^^^ BitVec.ofNat 32 n) := by rw [BitVec.toNat_xor, BitVec.toNat_ofNat, BitVec.toNat_ofNat]
  rw [e, not_u32 n h, wrap_u32 _ (by omega)]

/-- the header of a record is read -/
theorem header_yes (l : List Sec) (de ar : Bool) (le : Int) (k idx : Nat) (r : List UInt8) (hk : k < l.length) (hb : (secAt l k).data = firstSec idx r) (hi : idx < 100000) (hr : r.length ≤ 4000) :
    RunF F 40 [dskV l de ar le, .one (intC k), .one (intC idx)] [.one (intC (r.length : Int)), .one (boolC true)] := by
  have n1 : numOf (firstSec idx r).tail = idx := by rw [firstSec_1, num4_of _ (by omega)]
  have n1' : numOf ((firstSec idx r).drop 1) = idx := by rw [List.drop_one]; exact n1
  have n5 : numOf ((firstSec idx r).drop 5) = r.length := by rw [firstSec_5, num4_of _ (by omega)]
  have n9 : numOf ((firstSec idx r).drop 9) = 4294967295 - r.length := by rw [firstSec_9, num4_of _ (by omega)]
  have h := header_2 l de ar le k idx (firstSec idx r) hk hb (firstSec_len idx r) hi
  rw [hb] at h
  rw [n1, n1', n5, n9] at h
  have h := h rfl rfl (by omega) (by rw [not_u32n _ (by omega)]) (by rw [wrap_u32 _ (by omega)]; simp)
  rw [wrap_i64 _ (by omega)] at h
  exact fn_gives (f := 40) rfl rfl h

/-- no header is read -/
theorem header_no (l : List Sec) (de ar : Bool) (le : Int) (k idx : Nat) (hk : k < l.length) (hl : (secAt l k).data.length = 128) (hb : byteAt (secAt l k).data 0 ≠ 72) (hi : idx < 100000) :
    RunF F 40 [dskV l de ar le, .one (intC k), .one (intC idx)] [.one (intC 0), .one (boolC false)] := by
  refine fn_gives (f := 40) rfl rfl (header_4 l de ar le k idx _ hk rfl hl hi ?_)
  intro h
  apply hb
  have : (byteAt (secAt l k).data 0).toNat = (72 : UInt8).toNat := by
    have e : (72 : UInt8).toNat = 72 := rfl
    omega
  exact UInt8.toNat.inj this

theorem leftB_no {b : List UInt8} (h : LeftB b) : byteAt b 0 ≠ 72 := by
  intro e
  have e : b.getD 0 0 = 72 := e
  rcases h.2 with h1 | h1 | h1 | h1
  · rw [e] at h1; exact absurd h1 (by decide)
  · rw [e] at h1; exact absurd h1 (by decide)
  · rw [e] at h1; exact absurd h1 (by decide)
  · have := h1 _ (byteAt_mem b 0 (by have := h.1; omega))
    unfold byteAt at this
    rw [e] at this
    exact absurd this (by decide)

/-- a record is some string of the length asked for -/
theorem record_spec (i n : Int) (hn : 0 ≤ n ∧ n < 65536) : ∃ r : List UInt8, r.length < 900 ∧ RunF F 15 [.one (intC i), .one (.lit (.int .u16 n))] [.one (strC ⟨r.toArray⟩)] := by
  have hw : IntKind.wrap .i64 n = n := wrap_i64 n (by omega)
  have hm : Int.tmod n 900 = n % 900 := Int.tmod_eq_emod_of_nonneg hn.1
  generalize hN : (Int.tmod n 900).toNat = N
  have hN9 : N < 900 := by omega
  obtain ⟨b, hb, hL⟩ := rec_loop i n N 0 (List.replicate N 0) (by simp) (by simp; omega)
  have hbl : b.length = N := by simpa using hb
  refine ⟨b, by omega, ?_⟩
  refine fn_gives (f := 15) rfl rfl (recF_0 i n [] b hn (by omega) ?_ (by rw [hw]; omega) ?_)
  · rw [hw, hN, zeros_bytes]
    simp only [S15, List.length_replicate] at hL
    exact hL
  · rw [List.drop_zero, Nat.mul_one, bytesC_take, List.take_length, bytesOf_bytesC]

theorem strsS_pos (l : List ByteArray) (h : 0 < l.length) : strsS l = .slice (strsC l) l.length := by
  unfold strsS
  rw [if_neg (by intro e; subst e; simp at h)]

theorem same_eq (a : List ByteArray) (hl : a.length < 100000) : RunF F 20 [.one (strsS a), .one (strsS a)] [.one (boolC true)] := by
  rcases Nat.eq_zero_or_pos a.length with h | h
  · have : a = [] := List.eq_nil_of_length_eq_zero h
    subst this
    exact RunF.of (n := 100) (by kernel_rfl)
  · rw [strsS_pos a h]
    exact fn_gives (f := 20) rfl rfl (sameF_0 a h hl (same_loop a hl a.length 0 (by omega)))

theorem same_ne (a b : List ByteArray) (h : a.length ≠ b.length) : RunF F 20 [.one (strsS a), .one (strsS b)] [.one (boolC false)] := by
  rcases Nat.eq_zero_or_pos a.length with ha | ha
  · have : a = [] := List.eq_nil_of_length_eq_zero ha
    subst this
    rw [strsS_pos b (by simp at h; exact Nat.pos_of_ne_zero (fun e => h e.symm))]
    exact fn_gives (f := 20) rfl rfl (sameL_0 b.length (strsC b) (by simp at h; exact Nat.pos_of_ne_zero (fun e => h e.symm)))
  · rcases Nat.eq_zero_or_pos b.length with hb | hb
    · have : b = [] := List.eq_nil_of_length_eq_zero hb
      subst this
      rw [strsS_pos a ha]
      exact fn_gives (f := 20) rfl rfl (sameR_0 a.length (strsC a) ha)
    · rw [strsS_pos a ha, strsS_pos b hb]
      exact fn_gives (f := 20) rfl rfl (sameN_0 nilC nilC a.length b.length (strsC a) (strsC b) h)

end Go.Proofs.Ytfphnpelampoeaa
