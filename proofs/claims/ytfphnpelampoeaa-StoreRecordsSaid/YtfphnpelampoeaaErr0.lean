/-
  The functions at new disks.
-/
import Derived.Test.YtfphnpelampoeaaHold
import Derived.Test.YtfphnpelampoeaaAwk
namespace Go.Proofs.Ytfphnpelampoeaa
open Go Go.Ev

theorem holds_new (n : Nat) (h4 : 4 ≤ n) (hm : n ≤ 256) : Holds (newSecs n) [] 0 := by
  rw [newSecs_clean]
  exact (laid_new n).holds (by simpa using h4) (by simpa using hm)

def smallN (n : Int) : Nat := 1 + (n % 3).toNat
theorem smallN_lt (n : Int) : (newSecs (smallN n)).length < 4 := by rw [newSecs_len]; unfold smallN; omega

theorem new_at (m : Int) (n : Nat) (h : m = n) (h1 : 1 ≤ n) (h2 : n ≤ 256) : RunF F 11 [.one (intC m)] [dskV (newSecs n) false false 0] := by
  have := new_spec m
  have e : clamp m = n := by unfold clamp; omega
  rw [e] at this
  exact this

theorem new_small (n : Int) (hn : 0 ≤ n ∧ n < 256) : RunF F 11 [.one (intC (IntKind.wrap IntKind.i64 ((1 : Int) + IntKind.wrap IntKind.i64 (Int.tmod n (3 : Int)))))] [dskV (newSecs (smallN n)) false false 0] := by
  have e : Int.tmod n 3 = n % 3 := Int.tmod_eq_emod_of_nonneg hn.1
  refine new_at _ _ ?_ (by unfold smallN; omega) (by unfold smallN; omega)
  rw [e, wrap_i64 (n % 3) (by omega), wrap_i64 _ (by omega)]
  unfold smallN
  omega

theorem new_four (n : Int) (hn : 0 ≤ n ∧ n < 250) : RunF F 11 [.one (intC (IntKind.wrap IntKind.i64 ((4 : Int) + IntKind.wrap IntKind.i64 n)))] [dskV (newSecs (4 + n.toNat)) false false 0] := by
  refine new_at _ _ ?_ (by omega) (by omega)
  rw [wrap_i64 n (by omega), wrap_i64 _ (by omega)]
  omega

theorem new_more (n : Int) (hn : 0 ≤ n ∧ n < 256) : ∃ k, 4 ≤ k ∧ k ≤ 256 ∧ RunF F 11 [.one (intC (IntKind.wrap IntKind.i64 ((4 : Int) + IntKind.wrap IntKind.i64 n)))] [dskV (newSecs k) false false 0] := by
  rw [wrap_i64 n (by omega), wrap_i64 _ (by omega)]
  exact ⟨clamp (4 + n), by unfold clamp; omega, by unfold clamp; omega, new_spec _⟩

theorem new_100 : RunF F 11 [.one (intC 100)] [dskV (newSecs 100) false false 0] := new_at 100 100 rfl (by omega) (by omega)
theorem new_50 : RunF F 11 [.one (intC 50)] [dskV (newSecs 50) false false 0] := new_at 50 50 rfl (by omega) (by omega)
theorem new_150 : RunF F 11 [.one (intC 150)] [dskV (newSecs 150) false false 0] := new_at 150 150 rfl (by omega) (by omega)
theorem new_200 : RunF F 11 [.one (intC 200)] [dskV (newSecs 200) false false 0] := new_at 200 200 rfl (by omega) (by omega)

theorem cut_0s (l : List Sec) (de ar : Bool) (le : Int) : RunF F 17 [dskV l de ar le, .one (intC 0)] [dskV l de (pArm (some 0)) (pLeft (some 0))] := cut_spec l de ar le 0
theorem flush_cut (l : List Sec) : RunF F 22 [dskV l false (pArm (some 0)) (pLeft (some 0))] [dskV l true (pArm (some 0)) (pLeft (some 0)), .one (intC 51)] := flush_dead l (some 0) rfl

theorem open_new (k : Nat) (h4 : 4 ≤ k) (hm : k ≤ 256) : RunF F 18 [dskV (newSecs k) false false 0] [.one nilC, .one (intC 0)] := open_spec (newSecs k) none (holds_new k h4 hm)
theorem limit_new (r : List UInt8) (hr : 4000 < r.length) : RunF F 16 [dskV (newSecs 100) false false 0, .one (strC (str r))] [dskV (newSecs 100) false false 0, .one (intC 2)] := append_limit (newSecs 100) none (holds_new 100 (by omega) (by omega)) r hr
theorem big_new (r : List UInt8) (hr : r.length = 4000) : ∃ l', RunF F 16 [dskV (newSecs 100) false false 0, .one (strC (str r))] [dskV l' false false 0, .one (intC 0)] := by
  have hn : nData 4000 = 31 := rfl
  obtain ⟨l', p', dead, h1, _, _, h2, _⟩ := append_laid (laid_new 100) (by simp) (by simp) none (by unfold okP; simp) r (by omega) (by rw [hr, hn]; simp)
  obtain ⟨rfl, rfl⟩ := h2 rfl
  rw [← newSecs_clean] at h1
  exact ⟨l', h1⟩

def oneByte : List UInt8 := [120]
theorem str_one : strC (str oneByte) = C.lit (.string ⟨#[120]⟩) := rfl
theorem app_small_x (n : Int) : RunF F 16 [dskV (newSecs (smallN n)) false false 0, .one (C.lit (.string ⟨#[120]⟩))] [dskV (newSecs (smallN n)) false false 0, .one (intC 54)] := append_small _ _ _ (smallN_lt n) _
theorem open_small_x (n : Int) : RunF F 18 [dskV (newSecs (smallN n)) false false 0] [.one nilC, .one (intC 54)] := open_small _ _ _ (smallN_lt n)
theorem room_small_x (n : Int) : RunF F 21 [dskV (newSecs (smallN n)) false false 0] [.one (intC 0)] := room_small _ _ _ (smallN_lt n)

def zs (n : Nat) : List UInt8 := List.replicate n 0
theorem zs_len (n : Nat) : (zs n).length = n := by simp [zs]
theorem zeros_zs (n : Nat) : zeros [.int .u8 0] n = bytesC (zs n) := zeros_bytes n
theorem zs_drop (n : Nat) : (zs (n + 1)).drop 1 = zs n := by simp [zs]
theorem zs_drop' : (zs 4001).drop 1 = zs 4000 := zs_drop 4000
theorem zs_take (n : Nat) (m : Nat) (h : n ≤ m) : (zs n).take m = zs n := List.take_of_length_le (by rw [zs_len]; exact h)

end Go.Proofs.Ytfphnpelampoeaa
