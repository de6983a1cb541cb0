/-
  The loop of Append.
-/
import Derived.Test.YtfphnpelampoeaaH11
namespace Go.Proofs.Ytfphnpelampoeaa
open Go Go.Ev

theorem dataSec_eq (r : List UInt8) : List.take 128 (List.take 1 ((68 : UInt8) :: List.replicate 127 (0 : UInt8)) ++ (List.take (min r.length 127) r ++ List.drop (1 + min (min r.length 127) r.length) ((68 : UInt8) :: List.replicate 127 (0 : UInt8)))) = dataSec r := by
  rw [List.take_of_length_le (by simp; omega)]
  unfold dataSec padTo
  have e1 : List.take (min r.length 127) r = r.take 127 := by rw [Nat.min_comm, ← List.take_take, List.take_length]
  have e2 : 1 + min (min r.length 127) r.length = (min 127 r.length) + 1 := by omega
  rw [e1, e2, List.drop_succ_cons, List.drop_replicate]
  have e3 : 127 - min 127 r.length = 127 - r.length := by omega
  rw [e3]
  rfl

theorem drop_min (r : List UInt8) (n : Nat) : r.drop (min r.length n) = r.drop n := by
  rcases Nat.le_total r.length n with h | h
  · rw [Nat.min_eq_left h, List.drop_length, List.drop_of_length_le h]
  · rw [Nat.min_eq_right h]

def bxE (l : List Sec) (p : Option Nat) : Ev.Obj := .box [.c (secsS l), bD true, bD (pArm p), iD (pLeft p)]
def S16x (l : List Sec) (p : Option Nat) (at_ k : Nat) (first : List UInt8) (r : List UInt8) : St := ⟨[(2, .loc 0 0), (4, .loc 1 0), (7, iD at_), (9, iD k), (10, .arr 2 0 128), (11, .c (strC (str r))), (12, iD k), (69, bD (decide ((k : Int) < k)))], [(0, bxD l p), (1, nilBox), (2, .arr (bytesC first) 1 0 5)], 6, false⟩
def S16e (l : List Sec) (p : Option Nat) (h : Heap) (nx : Nat) : St := ⟨[(4, .loc 1 0), (5, iD 51)], (1, bxE l p) :: h, nx, false⟩

theorem app_loop (at_ k : Nat) (first : List UInt8) : ∀ (m i : Nat) (l : List Sec) (p : Option Nat) (r : List UInt8), i + m = k → l.length ≤ 256 → at_ + k ≤ l.length → okP p → r.length ≤ 4000 →
    ∃ l' p' dead, runOps (writesFrom (at_ + i) (dataSecs m r)) l p = (l', p', dead) ∧ okP p' ∧ l'.length = l.length ∧
      (dead = false → ∃ r', LoopF F [2, 4, 7, 9, 10, 11, 12] B16_0 (S16 l p at_ k first r i) (.exit 0) (S16x l' p' at_ k first r')) ∧
      (dead = true → ∃ h nx, LoopF F [2, 4, 7, 9, 10, 11, 12] B16_0 (S16 l p at_ k first r i) .ret (S16e l' p' h nx))
  | 0, i, l, p, r, hk, hl, ha, hp, hr => by
    have e : i = k := by omega
    subst e
    exact ⟨l, p, false, rfl, hp, rfl, fun _ => ⟨r, LoopF.out (app_o_0 l p at_ i first r) (by simp)⟩, fun h => by cases h⟩
  | m + 1, i, l, p, r, hk, hl, ha, hp, hr => by
    simp only [dataSecs, writesFrom, runOps]
    cases hs : spend p with
    | none => exact ⟨l, p, true, rfl, hp, rfl, fun h => (by cases h), fun _ => ⟨_, _, LoopF.out (app_d_0 l p at_ k first r i hs hl (by omega) (by omega) hr) (by simp)⟩⟩
    | some p1 =>
      have h := app_r_0 l p p1 at_ k first r i hp hs hl (by omega) (by omega) hr
      rw [dataSec_eq, drop_min] at h
      have e : (DOp.write (at_ + i) (dataSec r)).apply l = l.set (at_ + i) ⟨(secAt l (at_ + i)).sure, dataSec r, true⟩ := rfl
      simp only
      rw [e]
      obtain ⟨l', p', dead, h1, h2, h3, h4, h5⟩ := app_loop at_ k first m (i + 1) (l.set (at_ + i) ⟨(secAt l (at_ + i)).sure, dataSec r, true⟩) p1 (r.drop 127) (by omega) (by simpa using hl) (by simpa using ha) (spend_ok hp hs) (by simp; omega)
      refine ⟨l', p', dead, h1, h2, by simpa using h3, fun hd => ?_, fun hd => ?_⟩
      · obtain ⟨r', h6⟩ := h4 hd
        exact ⟨r', LoopF.round h h6⟩
      · obtain ⟨hh, nx, h6⟩ := h5 hd
        exact ⟨hh, nx, LoopF.round h h6⟩

end Go.Proofs.Ytfphnpelampoeaa
