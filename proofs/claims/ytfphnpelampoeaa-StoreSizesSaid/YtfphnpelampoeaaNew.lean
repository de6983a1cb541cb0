/-
  A new disk, and that it is valid.
-/
import Derived.Test.YtfphnpelampoeaaGen1
import Derived.IntWalk
namespace Go.Proofs.Ytfphnpelampoeaa
open Go Go.Ev Go.IntWalk

theorem i64w (n : Int) (h1 : -9223372036854775808 ≤ n) (h2 : n ≤ 9223372036854775807) : IntKind.i64.wrap n = n := i64_in n ⟨h1, h2⟩

theorem secC_length (s : Sec) : (secC s).length = 3 := rfl
theorem secsC_length : ∀ l : List Sec, (secsC l).length = l.length * 3
  | [] => rfl
  | s :: l => by
    have h := secsC_length l
    unfold secsC at h ⊢
    simp only [List.flatMap_cons, List.length_append, secC_length, List.length_cons, h]
    omega
theorem bytesC_length (l : List Int) : (bytesC l).length = l.length := by simp [bytesC]

theorem secsC_cons (s : Sec) (l : List Sec) : secsC (s :: l) = secC s ++ secsC l := by simp [secsC]
theorem secsC_append (a b : List Sec) : secsC (a ++ b) = secsC a ++ secsC b := by simp [secsC]
theorem secsC_drop (l : List Sec) (k : Nat) : (secsC l).drop (k * 3) = secsC (l.drop k) := by
  induction l generalizing k with
  | nil => simp [secsC]
  | cons s l ih =>
    cases k with
    | zero => simp
    | succ k =>
      rw [secsC_cons, List.drop_append, secC_length]
      have e : (k + 1) * 3 - 3 = k * 3 := by omega
      rw [e, ih, List.drop_of_length_le (by rw [secC_length]; omega)]
      rfl
theorem secsC_take (l : List Sec) (k : Nat) : (secsC l).take (k * 3) = secsC (l.take k) := by
  induction l generalizing k with
  | nil => simp [secsC]
  | cons s l ih =>
    cases k with
    | zero => simp [secsC]
    | succ k =>
      rw [secsC_cons, List.take_append, secC_length]
      have e : (k + 1) * 3 - 3 = k * 3 := by omega
      rw [e, ih, List.take_of_length_le (by rw [secC_length]; omega), List.take_succ_cons, secsC_cons]
/-- the cells of the k-th sector -/
theorem secsC_at (l : List Sec) (k : Nat) (s : Sec) (h : l[k]? = some s) : ((secsC l).drop (k * 3)).take 3 = secC s := by
  rw [secsC_drop]
  have hk : k < l.length := by
    rcases Nat.lt_or_ge k l.length with h' | h'
    · exact h'
    · rw [List.getElem?_eq_none h'] at h; cases h
  rw [List.drop_eq_getElem_cons hk, secsC_cons, List.take_append_of_le_length (by rw [secC_length]; omega)]
  have : l[k] = s := by
    rw [List.getElem?_eq_getElem hk] at h
    exact Option.some.inj h
  rw [this]
  rfl
/-- another sector -/
theorem secsC_set (l : List Sec) (k : Nat) (s : Sec) (h : k < l.length) : (secsC l).take (k * 3) ++ secC s ++ (secsC l).drop (k * 3 + 3) = secsC (l.set k s) := by
  have e : k * 3 + 3 = (k + 1) * 3 := by omega
  rw [secsC_take, e, secsC_drop, List.set_eq_take_append_cons_drop, if_pos h, secsC_append, secsC_cons, List.append_assoc]

/-- a sector of zeros -/
def zeroSec : Sec := ⟨List.replicate 128 0, List.replicate 128 0, false⟩
def newSecs (n : Nat) : List Sec := List.replicate n zeroSec

theorem zeroSec_cells : secC zeroSec = [C.slice (List.take 128 (List.drop 0 (zeros [Value.int IntKind.u8 0] 128))) 128, C.slice (List.take 128 (List.drop 0 (zeros [Value.int IntKind.u8 0] 128))) 128, C.lit (Value.bool false)] := by kernel_rfl

theorem new_loop (n : Nat) (hn : n ≤ 256) : ∀ (j k : Nat) (cs : List C), n = k + j → cs.length = n * 3 →
    LoopF F [2, 4, 14, 15] B11_0 (S11 n k cs) (.exit 0) ⟨(S11 n n (cs.take (k * 3) ++ secsC (newSecs j))).env ++ [(16, bD (decide ((n : Int) < n)))], (S11 n n (cs.take (k * 3) ++ secsC (newSecs j))).heap, 4, false⟩
  | 0, k, cs, hk, hl => by
    obtain rfl : n = k := by omega
    have e : cs.take (n * 3) ++ secsC (newSecs 0) = cs := by
      rw [List.take_of_length_le (by omega)]
      simp [newSecs, secsC]
    rw [e]
    exact LoopF.out (new_out n cs) (by simp)
  | j + 1, k, cs, hk, hl => by
    refine LoopF.round (new_round n k cs (by omega) hl) ?_
    rw [i64w _ (by omega) (by omega), ← zeroSec_cells]
    have ih := new_loop n hn j (k + 1) (cs.take (k * 3) ++ secC zeroSec ++ cs.drop (k * 3 + 3)) (by omega) (by
      simp only [List.length_append, List.length_take, List.length_drop, secC_length]; omega)
    have e : (cs.take (k * 3) ++ secC zeroSec ++ cs.drop (k * 3 + 3)).take ((k + 1) * 3) = cs.take (k * 3) ++ secC zeroSec := by
      rw [List.take_append_of_le_length (by simp only [List.length_append, List.length_take, secC_length]; omega), List.take_of_length_le (by simp only [List.length_append, List.length_take, secC_length]; omega)]
    have e2 : cs.take (k * 3) ++ secC zeroSec ++ secsC (newSecs j) = cs.take (k * 3) ++ secsC (newSecs (j + 1)) := by
      rw [List.append_assoc]
      congr 1
    rw [e, e2] at ih
    simpa [S11, iD, bD, intC, boolC, nilC] using ih

/-- how many sectors a disk has -/
def clamp (m : Int) : Nat := (min (max m 1) 256).toNat

theorem clamp_eq (m : Int) : (Int.toNat (if (256 : Int) < if (1 : Int) > m then (1 : Int) else m then (256 : Int) else if (1 : Int) > m then (1 : Int) else m)) = clamp m := by
  unfold clamp
  split <;> split <;> omega

theorem new_spec (m : Int) : RunF F 11 [.one (intC m)] [dskV (secsC (newSecs (clamp m))) (clamp m) false false 0] := by
  have hc : 1 ≤ clamp m ∧ clamp m ≤ 256 := by unfold clamp; omega
  have hl : (secsC (newSecs (clamp m))).length = clamp m * 3 := by rw [secsC_length]; simp [newSecs]
  have h := new_fn m (clamp m) (secsC (newSecs (clamp m))) (by omega) hl (by
    rw [clamp_eq]
    have := new_loop (clamp m) hc.2 (clamp m) 0 (zeros [Value.slice none 0 0, Value.slice none 0 0, Value.bool false] (clamp m)) (by omega) (by
      generalize clamp m = n
      induction n with
      | zero => rfl
      | succ n ih => rw [zeros, List.length_append, ih]; simp; omega)
    simpa [S11, iD, bD, intC, boolC, nilC] using this)
  have h2 := fn_gives (f := 11) rfl rfl h
  rw [List.drop_zero, List.take_of_length_le (by omega)] at h2
  exact h2

end Go.Proofs.Ytfphnpelampoeaa
