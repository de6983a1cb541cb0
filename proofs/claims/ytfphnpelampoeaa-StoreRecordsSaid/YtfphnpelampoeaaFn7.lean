/-
  The loop of scan.
-/
import Derived.Test.YtfphnpelampoeaaH8
namespace Go.Proofs.Ytfphnpelampoeaa
open Go Go.Ev

def str (r : List UInt8) : ByteArray := ⟨r.toArray⟩
def strs (rs : List (List UInt8)) : List ByteArray := rs.map str

/-- records lie from a sector on, up to another -/
inductive Recs (l : List Sec) : Nat → Nat → List (List UInt8) → Nat → Prop where
  | nil (q i : Nat) : Recs l q i [] q
  | cons {q i e : Nat} {r : List UInt8} {rs : List (List UInt8)} (h1 : q < l.length) (h2 : (secAt l q).data = firstSec i r) (h3 : r.length ≤ 4000) (h4 : DataAt l (q + 1) (nData r.length))
      (h5 : ((firstSec i r).drop 16 ++ tailsB l (q + 1) (nData r.length)).take r.length = r) (h6 : 1 + nData r.length ≤ l.length - q) (h : Recs l (q + (1 + nData r.length)) (i + 1) rs e) : Recs l q i (r :: rs) e

theorem Recs.le {l : List Sec} {q i e : Nat} {rs : List (List UInt8)} (h : Recs l q i rs e) : q ≤ e := by
  induction h with
  | nil => exact Nat.le_refl _
  | cons _ _ _ _ _ _ _ ih => omega

theorem Recs.end_le {l : List Sec} {q i e : Nat} {rs : List (List UInt8)} (h : Recs l q i rs e) (hq : q ≤ l.length) : e ≤ l.length := by
  induction h with
  | nil => exact hq
  | cons h1 _ _ _ _ h6 _ ih => exact ih (by omega)

theorem Recs.count {l : List Sec} {q i e : Nat} {rs : List (List UInt8)} (h : Recs l q i rs e) : q + rs.length ≤ e := by
  induction h with
  | nil => simp
  | cons _ _ _ _ _ _ _ ih => simp at ih ⊢; omega

def S33e (l : List Sec) (p : Option Nat) (rs : List ByteArray) (N at_ : Nat) : Ex × St :=
  if at_ = l.length then (.exit 0, ⟨[(1, .loc 0 0), (5, .arr 1 0 N), (6, iD l.length), (28, bD (decide ((l.length : Int) < l.length)))], [(0, bxD l p), (1, .arr (strsC rs) 1 0 9)], 7, false⟩)
  else (.ret, ⟨[(2, .arr 1 0 N), (3, iD at_), (4, iD 0)], [(0, bxD l p), (1, .arr (strsC rs) 1 0 9)], 32, false⟩)

theorem nData_bound (n : Nat) : n ≤ 112 + 127 * nData n := by unfold nData; omega

theorem str_take (l : List UInt8) (n : Nat) (r : List UInt8) (h : l.take n = r) : C.lit (Value.string (ByteArray.mk (List.toArray (List.take (n - 0) l)))) = strC (str r) := by rw [Nat.sub_zero, h]; rfl

/-- where the scan ends: the end of the disk, or a sector that can follow the last record -/
def EndAt (l : List Sec) (e : Nat) : Prop := e = l.length ∨ (e < l.length ∧ LeftB (secAt l e).data)

theorem scan_loop_b (l : List Sec) (p : Option Nat) (hn : l.length ≤ 256) (hs : ∀ s ∈ l, s.data.length = 128) {e : Nat} (he : EndAt l e) {q i : Nat} {rs : List (List UInt8)} (h : Recs l q i rs e) :
    ∀ (rs1 : List (List UInt8)), rs1.length = i → 0 < i → i + rs.length ≤ 300 →
    LoopF F [1, 5, 6] B33_1 (S33b l p (strs rs1) i q) (S33e l p (strs (rs1 ++ rs)) (i + rs.length) e).1 (S33e l p (strs (rs1 ++ rs)) (i + rs.length) e).2 := by
  induction h with
  | nil q i =>
    intro rs1 hi h0 hb
    rw [List.append_nil, List.length_nil, Nat.add_zero]
    rcases he with he | ⟨he, hL⟩
    · subst he
      simp only [S33e, if_true]
      exact LoopF.out (scanbe_0 l p (strs rs1) i) (by simp)
    · simp only [S33e, if_neg (Nat.ne_of_lt he)]
      exact LoopF.out (scanbx_0 l p (strs rs1) i q hn he (header_no l false (pArm p) (pLeft p) q i he (hs _ (secAt_mem l q he)) (leftB_no hL) (by simp at hb; omega)) (leftover_spec _ hL)) (by simp)
  | @cons q i e r rs h1 h2 h3 h4 h5 h6 h ih =>
    intro rs1 hi h0 hb
    simp only [List.length_cons] at hb
    have hr := scanb_0 l p (strs rs1) i q r.length (nData r.length) (by simp [strs, hi]) h0 (by omega) hn h1 h6 h3 (hs _ (secAt_mem l q h1)) (nData_bound _) h4 (tailsB_len h4)
      (header_yes l false (pArm p) (pLeft p) q i r h1 h2 (by omega) h3) (sectors_spec r.length h3)
    refine LoopF.round hr ?_
    have := ih he (rs1 ++ [r]) (by simp [hi]) (by omega) (by omega)
    rw [h2, str_take _ _ _ h5, List.take_of_length_le (by simp [strsC, strs, hi]), List.take_of_length_le (by simp)]
    have e1 : strsC (strs rs1) ++ [strC (str r)] = strsC (strs (rs1 ++ [r])) := by simp [strsC, strs]
    have e2 : rs1 ++ [r] ++ rs = rs1 ++ r :: rs := by simp
    have e3 : i + 1 + rs.length = i + (r :: rs).length := by simp; omega
    rw [e1]
    rw [e2, e3] at this
    exact this

def S33ra (l : List Sec) (p : Option Nat) : St := ⟨[(2, .c nilC), (3, iD 0), (4, iD 0)], [(0, bxD l p)], 31, false⟩

theorem scan_loop_nil (l : List Sec) (p : Option Nat) (hn : l.length ≤ 256) (h0 : 0 < l.length) (hs : ∀ s ∈ l, s.data.length = 128) (hL : LeftB (secAt l 0).data) : LoopF F [1, 5, 6] B33_1 (S33a l p 0) .ret (S33ra l p) :=
  LoopF.out (scanax_0 l p 0 hn h0 (header_no l false (pArm p) (pLeft p) 0 0 h0 (hs _ (secAt_mem l 0 h0)) (leftB_no hL) (by omega)) (leftover_spec _ hL)) (by simp)

theorem scan_loop_cons (l : List Sec) (p : Option Nat) (hn : l.length ≤ 256) (hs : ∀ s ∈ l, s.data.length = 128) {e : Nat} (he : EndAt l e) {r : List UInt8} {rs : List (List UInt8)} (h : Recs l 0 0 (r :: rs) e) (hb : (r :: rs).length ≤ 300) :
    LoopF F [1, 5, 6] B33_1 (S33a l p 0) (S33e l p (strs (r :: rs)) (r :: rs).length e).1 (S33e l p (strs (r :: rs)) (r :: rs).length e).2 := by
  cases h with
  | cons h1 h2 h3 h4 h5 h6 h =>
    have hr := scana_0 l p 0 r.length (nData r.length) hn h1 h6 h3 (hs _ (secAt_mem l 0 h1)) (nData_bound _) h4 (tailsB_len h4)
      (header_yes l false (pArm p) (pLeft p) 0 0 r h1 h2 (by omega) h3) (sectors_spec r.length h3)
    refine LoopF.round hr ?_
    have := scan_loop_b l p hn hs he h [r] rfl (by omega) (by simp at hb; omega)
    rw [h2, str_take _ _ _ h5, List.take_of_length_le (by simp)]
    have e3 : 0 + 1 + rs.length = (r :: rs).length := by simp; omega
    rw [e3] at this
    exact this

end Go.Proofs.Ytfphnpelampoeaa
