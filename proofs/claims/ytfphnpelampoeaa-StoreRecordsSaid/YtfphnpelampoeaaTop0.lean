/-
  Slices of numbers that come in, and what the laws' loops need of the store.
-/
import Derived.Test.YtfphnpelampoeaaErr0
namespace Go.Proofs.Ytfphnpelampoeaa
open Go Go.Ev

def u16C (n : Int) : C := .lit (.int .u16 n)
def u16sC (z : List Int) : List C := z.map u16C
def u8C (n : Int) : C := .lit (.int .u8 n)
def u8sC (z : List Int) : List C := z.map u8C
def numAt (z : List Int) (k : Nat) : Int := z.getD k 0

theorem u16sC_get (k : Nat) (z : List Int) (h : k < z.length) : (u16sC z)[k]? = some (C.lit (.int .u16 (numAt z k))) := by
  simp [u16sC, u16C, numAt, List.getD, List.getElem?_eq_getElem h]
theorem u8sC_get (k : Nat) (z : List Int) (h : k < z.length) : (u8sC z)[k]? = some (C.lit (.int .u8 (numAt z k))) := by
  simp [u8sC, u8C, numAt, List.getD, List.getElem?_eq_getElem h]
theorem u16sC_len (z : List Int) : (u16sC z).length = z.length := by simp [u16sC]
theorem u8sC_len (z : List Int) : (u8sC z).length = z.length := by simp [u8sC]
theorem numAt_mem (z : List Int) (k : Nat) (h : k < z.length) : numAt z k ∈ z := by
  simp [numAt, List.getD_eq_getElem?_getD, h]

theorem take_strs (l : List ByteArray) (n : Nat) (h : l.length ≤ n) : (strsC l).take n = strsC l := List.take_of_length_le (by rw [strsC_len]; exact h)
theorem strsC_app1 (l : List ByteArray) (s : ByteArray) : strsC l ++ [C.lit (.string s)] = strsC (l ++ [s]) := by simp [strsC, strC]
theorem strsC_one (s : ByteArray) : [C.lit (.string s)] = strsC [s] := rfl

theorem nData_900 (n : Nat) (h : n < 900) : nData n ≤ 7 := by unfold nData; omega

theorem same_t (a b : List ByteArray) (h : a = b) (h0 : 0 < a.length) (hl : a.length < 100000) : RunF F 20 [.one (.slice (strsC a) a.length), .one (.slice (strsC b) b.length)] [.one (boolC true)] := by
  subst h
  have := same_eq a hl
  rw [strsS_pos a h0] at this
  exact this
theorem same_f (a b : List ByteArray) (h : a.length ≠ b.length) (h0 : 0 < a.length) (h1 : 0 < b.length) : RunF F 20 [.one (.slice (strsC a) a.length), .one (.slice (strsC b) b.length)] [.one (boolC false)] := by
  have := same_ne a b h
  rw [strsS_pos a h0, strsS_pos b h1] at this
  exact this
theorem same_fn (a : List ByteArray) (h0 : 0 < a.length) : RunF F 20 [.one (.slice (strsC a) a.length), .one nilC] [.one (boolC false)] := by
  have := same_ne a [] (by simp only [List.length_nil]; omega)
  rw [strsS_pos a h0] at this
  exact this
theorem same_nf (a : List ByteArray) (h0 : 0 < a.length) : RunF F 20 [.one nilC, .one (.slice (strsC a) a.length)] [.one (boolC false)] := by
  have := same_ne [] a (by simp only [List.length_nil]; omega)
  rw [strsS_pos a h0] at this
  exact this
theorem same_nn : RunF F 20 [.one nilC, .one nilC] [.one (boolC true)] := same_eq [] (by simp)

theorem strs_app (rs : List (List UInt8)) (r : List UInt8) : strs (rs ++ [r]) = strs rs ++ [str r] := by simp [strs]

/-- one append without a cut -/
theorem append_plain {L rs tail : List (List UInt8)} (h : Laid L rs tail) (h4 : 4 ≤ L.length) (hm : L.length ≤ 256) (r : List UInt8) (hr : r.length ≤ 4000) (hk : 1 + nData r.length ≤ tail.length) :
    ∃ L' tail', RunF F 16 [dskV (L.map clean) false false 0, .one (strC (str r))] [dskV (L'.map clean) false false 0, .one (intC 0)] ∧ Laid L' (rs ++ [r]) tail' ∧ L'.length = L.length ∧ tail'.length + (1 + nData r.length) = tail.length := by
  obtain ⟨l', p', dead, h1, _, hl, h2, h3, _⟩ := append_laid h h4 hm none (by unfold okP; simp) r hr hk
  obtain ⟨rfl, rfl⟩ := h2 rfl
  obtain ⟨tail', rfl, hL, ht⟩ := h3 rfl
  exact ⟨_, tail', h1, hL, by simpa using hl, ht⟩

theorem open_laid {L rs tail : List (List UInt8)} (h : Laid L rs tail) (h4 : 4 ≤ L.length) (hm : L.length ≤ 256) (hp : 0 < rs.length) : RunF F 18 [dskV (L.map clean) false false 0] [.one (.slice (strsC (strs rs)) (strs rs).length), .one (intC 0)] := by
  have := open_spec (L.map clean) none (h.holds h4 hm)
  rw [strsS_pos _ (by rw [strs_len]; exact hp)] at this
  exact this
theorem open_laid0 {L tail : List (List UInt8)} (h : Laid L [] tail) (h4 : 4 ≤ L.length) (hm : L.length ≤ 256) : RunF F 18 [dskV (L.map clean) false false 0] [.one nilC, .one (intC 0)] :=
  open_spec (L.map clean) none (h.holds h4 hm)

theorem okay_clean {L rs tail : List (List UInt8)} (h : Laid L rs tail) : Okay (L.map clean) := by
  intro s hs
  obtain ⟨b, hb, rfl⟩ := List.mem_map.1 hs
  exact ⟨h.len128 b hb, h.len128 b hb⟩

/-- an append with a cut, and a crash: the records before it, or these and the new one -/
theorem append_cut {L rs tail : List (List UInt8)} (h : Laid L rs tail) (h4 : 4 ≤ L.length) (hm : L.length ≤ 256) (c : Nat) (hc : c < 1000) (kp tn : Int) (r : List UInt8) (hr : r.length ≤ 4000) (hk : 1 + nData r.length ≤ tail.length) :
    ∃ l' p' dead L' rs' tail', RunF F 16 [dskV (L.map clean) false (pArm (some c)) (pLeft (some c)), .one (strC (str r))] [dskV l' dead (pArm p') (pLeft p'), .one (intC (if dead then 51 else 0))] ∧
      RunF F 19 [dskV l' dead (pArm p') (pLeft p'), .one (.lit (.int .u64 kp)), .one (.lit (.int .u64 tn))] [dskV (L'.map clean) false false 0] ∧ Laid L' rs' tail' ∧ L'.length = L.length ∧
      ((dead = true ∧ rs' = rs ∧ tail'.length = tail.length) ∨ (rs' = rs ++ [r] ∧ tail'.length + (1 + nData r.length) = tail.length)) := by
  obtain ⟨l', p', dead, h1, hok, hl, _, _, h3⟩ := append_laid h h4 hm (some c) (by unfold okP; simp; omega) r hr hk
  obtain ⟨bs, hb, hcr, _⟩ := crash_spec kp tn l' dead (pArm p') (pLeft p') (by omega) (by omega) hok
  obtain ⟨rs', tail', hL, hd⟩ := h3 bs hcr
  exact ⟨l', p', dead, bs, rs', tail', h1, hb, hL, by rw [hcr.len, hl], hd⟩

/-- a crash of a disk at rest changes nothing -/
theorem crash_rest {L rs tail : List (List UInt8)} (h : Laid L rs tail) (h4 : 4 ≤ L.length) (hm : L.length ≤ 256) (kp tn : Int) : RunF F 19 [dskV (L.map clean) false false 0, .one (.lit (.int .u64 kp)), .one (.lit (.int .u64 tn))] [dskV (L.map clean) false false 0] := by
  obtain ⟨bs, hb, hcr, _⟩ := crash_spec kp tn (L.map clean) false false 0 (by simp; omega) (by simpa using hm) (okay_clean h)
  rw [hcr.clean] at hb
  exact hb

theorem cut_at (l : List Sec) (m : Int) (c : Nat) (h : m = c) : RunF F 17 [dskV l false false 0, .one (intC m)] [dskV l false (pArm (some c)) (pLeft (some c))] := by subst h; exact cut_spec l false false 0 c

end Go.Proofs.Ytfphnpelampoeaa
