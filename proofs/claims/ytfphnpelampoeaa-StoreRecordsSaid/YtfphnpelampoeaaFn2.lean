/-
  What settle and Write compute; the loops of leftover and Crash.
-/
import Derived.Test.YtfphnpelampoeaaH2
namespace Go.Proofs.Ytfphnpelampoeaa
open Go Go.Ev

theorem settle_spec (l : List Sec) (h1 : 0 < l.length) (h2 : l.length ≤ 256) (hd : ∀ s ∈ l, s.data.length = 128) : RunF F 36 [.one (secsS l)] [.one (secsS (settleP l))] :=
  fn_gives (f := 36) rfl rfl (settle_0 l h1 h2 hd)

theorem write_ok (l : List Sec) (p p' : Option Nat) (i : Nat) (b : List UInt8) (hp : okP p) (hs : spend p = some p') (hl : l.length ≤ 256) (hi : i < l.length) (hb : b.length = 128) :
    RunF F 27 [dskV l false (pArm p) (pLeft p), .one (intC i), .one (bytesS b)] [dskV (l.set i ⟨(secAt l i).sure, b, true⟩) false (pArm p') (pLeft p'), .one (intC 0)] :=
  fn_gives (f := 27) rfl rfl (write_0 l p p' i b hp hs hl hi hb)

theorem write_dead (l : List Sec) (p : Option Nat) (i : Nat) (b : List UInt8) (hs : spend p = none) (hl : l.length ≤ 256) (hi : i < l.length) (hb : b.length = 128) :
    RunF F 27 [dskV l false (pArm p) (pLeft p), .one (intC i), .one (bytesS b)] [dskV l true (pArm p) (pLeft p), .one (intC 51)] :=
  fn_gives (f := 27) rfl rfl (write_out_0 l p i b hs hl hi hb)

theorem byteAt_mem (l : List UInt8) (k : Nat) (h : k < l.length) : byteAt l k ∈ l := by
  simp [byteAt, List.getD_eq_getElem?_getD, h]

def S41x (b : List UInt8) : St := ⟨[(12, .c (bytesS b)), (13, iD b.length), (14, iD b.length), (15, bD (decide ((b.length : Int) < b.length)))], [], 1, false⟩

theorem left_loop : ∀ (m k : Nat) (b : List UInt8), k + m = b.length → b.length = 128 → (∀ x ∈ b, x = 0) → LoopF F [12, 13, 14] B41_0 (S41 b k) (.exit 1) (S41x b)
  | 0, k, b, hk, hb, hz => by
    have e : k = b.length := by omega
    subst e
    exact LoopF.out (left_r_2 b b.length hb (Nat.le_refl _)) (by simp)
  | m + 1, k, b, hk, hb, hz =>
    LoopF.round (left_r_1 b k hb (by omega) (by rw [hz _ (byteAt_mem b k (by omega))]; rfl)) (left_loop m (k + 1) b (by omega) hb hz)

theorem not_u8 : ∀ x : UInt8, IntKind.wrap .u8 (BitVec.toNat (BitVec.ofInt 8 255 ^^^ BitVec.ofInt 8 (x.toNat : Int)) : Int) = ((~~~ x).toNat : Int) := by
  intro x
  cases x with
  | ofBitVec v => revert v; decide +kernel

def S19ix (kp tn : Int) (l l0 : List Sec) (de ar : Bool) (le : Int) (j k : Nat) (d b : List UInt8) : St := ⟨[(1, .c (.lit (.int .u64 kp))), (2, .c (.lit (.int .u64 tn))), (3, .loc 0 0), (6, .loc 1 0), (7, .arr 2 0 l.length), (8, iD j), (9, iD k), (11, .arr 3 0 d.length), (18, iD l.length), (19, iD k), (47, .c (bytesS d)), (48, iD d.length), (49, iD d.length), (50, bD (decide ((d.length : Int) < d.length)))],
  [(0, .box [.c (.slice (secsC l0) l0.length), bD de, bD ar, iD le]), (1, .box [.c nilC, bD false, bD false, iD 0]), (2, .arr (secsC l) 3 0 32), (3, .arr (bytesC b) 1 0 5)], 5, false⟩

theorem crash_inner (kp tn : Int) (l l0 : List Sec) (de ar : Bool) (le : Int) (j k : Nat) (d : List UInt8) (hd : d.length = 128) : ∀ (m i : Nat) (b : List UInt8), i + m = d.length → b.length = 128 →
    LoopF F [1, 2, 3, 6, 7, 8, 9, 11, 18, 19, 47, 48, 49] B19_0 (S19i kp tn l l0 de ar le j k d b i) (.exit 3) (S19ix kp tn l l0 de ar le j k d (b.take i ++ complB (d.drop i)))
  | 0, i, b, hi, hb => by
    have e : i = d.length := by omega
    subst e
    have h := crash_i_1 kp tn l l0 de ar le j k d b d.length hd hb (Nat.le_refl _)
    rw [List.take_of_length_le (by omega), List.drop_length]
    simp only [complB, List.map_nil, List.append_nil]
    exact LoopF.out h (by simp)
  | m + 1, i, b, hi, hb => by
    have h := crash_i_0 kp tn l l0 de ar le j k d b i hd hb (by omega)
    rw [not_u8] at h
    have e : (bytesC b).take i ++ C.lit (.int .u8 ((~~~ byteAt d i).toNat : Int)) :: (bytesC b).drop (i + 1) = bytesC (b.set i (~~~ byteAt d i)) := bytesC_set i b (by omega) _
    rw [e] at h
    have ih := crash_inner kp tn l l0 de ar le j k d hd m (i + 1) (b.set i (~~~ byteAt d i)) (by omega) (by simpa using hb)
    rw [take_set_succ _ _ _ (by omega), List.append_assoc] at ih
    have e2 : [~~~ byteAt d i] ++ complB (d.drop (i + 1)) = complB (d.drop i) := by
      rw [drop_getD 0 i d (by omega)]
      rfl
    rw [e2] at ih
    exact LoopF.round h ih

def S19z (kp tn : Int) (l l0 : List Sec) (de ar : Bool) (le : Int) (j k : Nat) (d : List UInt8) : St := ⟨[(1, .c (.lit (.int .u64 kp))), (2, .c (.lit (.int .u64 tn))), (3, .loc 0 0), (6, .loc 1 0), (7, .arr 2 0 l.length), (8, iD j), (9, iD k), (11, .arr 3 0 d.length), (18, iD l.length), (19, iD k), (47, .c (bytesS d)), (48, iD d.length), (49, iD 0)],
  [(0, .box [.c (.slice (secsC l0) l0.length), bD de, bD ar, iD le]), (1, .box [.c nilC, bD false, bD false, iD 0]), (2, .arr (secsC l) 3 0 32), (3, .arr (zeros [.int .u8 0] d.length) 1 0 5)], 4, false⟩

theorem crash_inner0 (kp tn : Int) (l l0 : List Sec) (de ar : Bool) (le : Int) (j k : Nat) (d : List UInt8) (hd : d.length = 128) :
    LoopF F [1, 2, 3, 6, 7, 8, 9, 11, 18, 19, 47, 48, 49] B19_0 (S19z kp tn l l0 de ar le j k d) (.exit 3) (S19ix kp tn l l0 de ar le j k d (complB d)) := by
  have h := crash_inner kp tn l l0 de ar le j k d hd d.length 0 (List.replicate d.length 0) (by omega) (by simpa using hd)
  simp only [List.take_zero, List.drop_zero, List.nil_append] at h
  have e : S19z kp tn l l0 de ar le j k d = S19i kp tn l l0 de ar le j k d (List.replicate d.length 0) 0 := by simp only [S19z, S19i, zeros_bytes]; rfl
  rw [e]
  exact h

theorem complB_len (l : List UInt8) : (complB l).length = l.length := by simp [complB]

end Go.Proofs.Ytfphnpelampoeaa
