/-
  A disk that is laid out as records and leftovers holds these records.
-/
import Derived.Test.YtfphnpelampoeaaFn10
namespace Go.Proofs.Ytfphnpelampoeaa
open Go Go.Ev

def tailsC : Nat → List UInt8 → List UInt8
  | 0, _ => []
  | m + 1, x => padTo 127 x ++ tailsC m (x.drop 127)

theorem padTo_take (n : Nat) (x t : List UInt8) (h : x.length ≤ n) : (padTo n x ++ t).take x.length = x := by
  unfold padTo
  rw [List.take_of_length_le h, List.append_assoc, List.take_append_of_le_length (Nat.le_refl _), List.take_length]

theorem padTo_big (n : Nat) (x : List UInt8) (h : n ≤ x.length) : padTo n x = x.take n := by
  unfold padTo
  rw [Nat.sub_eq_zero_of_le h]
  simp

theorem tailsC_take : ∀ (m : Nat) (x : List UInt8), x.length ≤ 127 * m → (tailsC m x).take x.length = x
  | 0, x, h => by
    have : x = [] := List.eq_nil_of_length_eq_zero (by omega)
    subst this
    rfl
  | m + 1, x, h => by
    rw [tailsC]
    rcases Nat.le_total x.length 127 with h1 | h1
    · exact padTo_take 127 x _ h1
    · rw [padTo_big 127 x h1, List.take_append, List.length_take, Nat.min_eq_left h1, List.take_of_length_le (by rw [List.length_take]; omega)]
      have := tailsC_take m (x.drop 127) (by rw [List.length_drop]; omega)
      rw [List.length_drop] at this
      rw [this, List.take_append_drop]

theorem whole_take (r : List UInt8) : (padTo 112 r ++ tailsC (nData r.length) (r.drop 112)).take r.length = r := by
  rcases Nat.le_total r.length 112 with h1 | h1
  · exact padTo_take 112 r _ h1
  · rw [padTo_big 112 r h1, List.take_append, List.length_take, Nat.min_eq_left h1, List.take_of_length_le (by rw [List.length_take]; omega)]
    have := tailsC_take (nData r.length) (r.drop 112) (by rw [List.length_drop]; unfold nData; omega)
    rw [List.length_drop] at this
    rw [this, List.take_append_drop]

theorem secAt_clean (L : List (List UInt8)) (q : Nat) (h : q < L.length) : secAt (L.map clean) q = clean (L.getD q []) := by
  simp [secAt, List.getD_eq_getElem?_getD, h]

theorem getD_mid (pre post : List (List UInt8)) (b : List UInt8) : (pre ++ b :: post).getD pre.length [] = b := by
  simp [List.getD_eq_getElem?_getD]

theorem data_at : ∀ (m : Nat) (pre : List (List UInt8)) (x : List UInt8) (post : List (List UInt8)), DataAt ((pre ++ dataSecs m x ++ post).map clean) pre.length m ∧ tailsB ((pre ++ dataSecs m x ++ post).map clean) pre.length m = tailsC m x
  | 0, pre, x, post => ⟨fun i hi => absurd hi (Nat.not_lt_zero _), rfl⟩
  | m + 1, pre, x, post => by
    have ih := data_at m (pre ++ [dataSec x]) (x.drop 127) post
    have e : pre ++ [dataSec x] ++ dataSecs m (x.drop 127) ++ post = pre ++ dataSecs (m + 1) x ++ post := by simp [dataSecs]
    have hl : (pre ++ [dataSec x]).length = pre.length + 1 := by simp
    rw [e, hl] at ih
    have h0 : secAt ((pre ++ dataSecs (m + 1) x ++ post).map clean) pre.length = clean (dataSec x) := by
      rw [secAt_clean _ _ (by simp [dataSecs])]
      congr 1
      have : pre ++ dataSecs (m + 1) x ++ post = pre ++ dataSec x :: (dataSecs m (x.drop 127) ++ post) := by simp [dataSecs]
      rw [this, getD_mid]
    constructor
    · intro i hi
      cases i with
      | zero =>
        rw [Nat.add_zero, h0]
        exact ⟨by simp [dataSecs], dataSec_len x, rfl⟩
      | succ i =>
        have := ih.1 i (by omega)
        rw [Nat.add_assoc, Nat.add_comm 1 i] at this
        exact this
    · rw [tailsB, h0, ih.2]
      rfl

theorem recs_at : ∀ (rs : List (List UInt8)) (pre : List (List UInt8)) (i : Nat) (tail : List (List UInt8)), (∀ r ∈ rs, r.length ≤ 4000) →
    Recs ((pre ++ encFrom i rs ++ tail).map clean) pre.length i rs (pre.length + (encFrom i rs).length)
  | [], pre, i, tail, _ => by simpa [encFrom] using Recs.nil (l := (pre ++ tail).map clean) pre.length i
  | r :: rs, pre, i, tail, hr => by
    have hL : pre ++ encFrom i (r :: rs) ++ tail = pre ++ firstSec i r :: (recData r ++ encFrom (i + 1) rs ++ tail) := by simp [encFrom, recSecs]
    have h2 : (secAt ((pre ++ encFrom i (r :: rs) ++ tail).map clean) pre.length).data = firstSec i r := by
      rw [secAt_clean _ _ (by rw [hL]; simp), hL, getD_mid]
      rfl
    have hd := data_at (nData r.length) (pre ++ [firstSec i r]) (r.drop 112) (encFrom (i + 1) rs ++ tail)
    have e1 : pre ++ [firstSec i r] ++ dataSecs (nData r.length) (r.drop 112) ++ (encFrom (i + 1) rs ++ tail) = pre ++ encFrom i (r :: rs) ++ tail := by simp [encFrom, recSecs, recData]
    rw [e1] at hd
    have hl1 : (pre ++ [firstSec i r]).length = pre.length + 1 := by simp
    rw [hl1] at hd
    have hlen : (encFrom i (r :: rs)).length = 1 + nData r.length + (encFrom (i + 1) rs).length := by rw [encFrom, List.length_append, recSecs_len]
    have ih := recs_at rs (pre ++ recSecs i r) (i + 1) tail (fun x hx => hr x (List.mem_cons_of_mem _ hx))
    have e2 : pre ++ recSecs i r ++ encFrom (i + 1) rs ++ tail = pre ++ encFrom i (r :: rs) ++ tail := by simp [encFrom]
    rw [e2, List.length_append, recSecs_len] at ih
    have e3 : pre.length + (1 + nData r.length) + (encFrom (i + 1) rs).length = pre.length + (encFrom i (r :: rs)).length := by rw [hlen]; omega
    rw [e3] at ih
    refine Recs.cons ?_ h2 (hr r (List.mem_cons_self ..)) hd.1 ?_ ?_ ih
    · simp [hlen]; omega
    · rw [hd.2, firstSec_16]
      exact whole_take r
    · simp [hlen]; omega

/-- records and leftovers -/
structure Laid (L : List (List UInt8)) (rs tail : List (List UInt8)) : Prop where
  eq : L = encFrom 0 rs ++ tail
  short : ∀ r ∈ rs, r.length ≤ 4000
  left : ∀ b ∈ tail, LeftB b

theorem encFrom_len128 : ∀ (rs : List (List UInt8)) (i : Nat), ∀ b ∈ encFrom i rs, b.length = 128
  | [], _, b, h => by cases h
  | r :: rs, i, b, h => by
    rw [encFrom, List.mem_append] at h
    rcases h with h | h
    · rcases List.mem_cons.1 h with rfl | h
      · exact firstSec_len _ _
      · exact recData_len r b h
    · exact encFrom_len128 rs (i + 1) b h

theorem Laid.len128 {L rs tail : List (List UInt8)} (h : Laid L rs tail) : ∀ b ∈ L, b.length = 128 := by
  intro b hb
  rw [h.eq, List.mem_append] at hb
  rcases hb with hb | hb
  · exact encFrom_len128 rs 0 b hb
  · exact (h.left b hb).1

theorem Laid.holds {L rs tail : List (List UInt8)} (h : Laid L rs tail) (h4 : 4 ≤ L.length) (hm : L.length ≤ 256) : Holds (L.map clean) rs (encFrom 0 rs).length where
  four := by simpa using h4
  most := by simpa using hm
  secs := by
    intro s hs
    obtain ⟨b, hb, rfl⟩ := List.mem_map.1 hs
    exact clean_ok b (h.len128 b hb)
  recs := by
    have := recs_at rs [] 0 tail h.short
    rw [List.nil_append, ← h.eq, List.length_nil, Nat.zero_add] at this
    exact this
  stop := by
    cases tail with
    | nil => left; rw [h.eq]; simp
    | cons b t =>
      right
      have hb := h.left b (List.mem_cons_self ..)
      refine ⟨by rw [h.eq]; simp, ?_⟩
      rw [secAt_clean _ _ (by rw [h.eq]; simp), h.eq, getD_mid]
      exact hb

theorem zero_left : LeftB zeroB := ⟨by simp [zeroB], .inr (.inr (.inr (fun x hx => (List.mem_replicate.1 hx).2)))⟩

theorem laid_new (n : Nat) : Laid (List.replicate n zeroB) [] (List.replicate n zeroB) := ⟨by simp [encFrom], (fun _ h => by cases h), fun b hb => by rw [(List.mem_replicate.1 hb).2]; exact zero_left⟩

theorem newSecs_clean (n : Nat) : newSecs n = (List.replicate n zeroB).map clean := by simp [newSecs, zeroSec]

/-- An append on such a disk, with or without a cut, and a crash behind it. -/
theorem append_laid {L rs tail : List (List UInt8)} (h : Laid L rs tail) (h4 : 4 ≤ L.length) (hm : L.length ≤ 256) (p : Option Nat) (hp : okP p) (r : List UInt8) (hr : r.length ≤ 4000) (hk : 1 + nData r.length ≤ tail.length) :
    ∃ l' p' dead, RunF F 16 [dskV (L.map clean) false (pArm p) (pLeft p), .one (strC (str r))] [dskV l' dead (pArm p') (pLeft p'), .one (intC (if dead then 51 else 0))] ∧ Okay l' ∧ l'.length = L.length ∧
      (p = none → dead = false ∧ p' = none) ∧
      (dead = false → ∃ tail', l' = (encFrom 0 (rs ++ [r]) ++ tail').map clean ∧ Laid (encFrom 0 (rs ++ [r]) ++ tail') (rs ++ [r]) tail' ∧ tail'.length + (1 + nData r.length) = tail.length) ∧
      ∀ bs, Crashed l' bs → ∃ rs' tail', Laid bs rs' tail' ∧ ((dead = true ∧ rs' = rs ∧ tail'.length = tail.length) ∨ (rs' = rs ++ [r] ∧ tail'.length + (1 + nData r.length) = tail.length)) := by
  have hH := h.holds h4 hm
  have hlen : L.length = (encFrom 0 rs).length + tail.length := by rw [h.eq, List.length_append]
  obtain ⟨l', p', dead, h1, h2, h3, h5, h6⟩ := append_spec (L.map clean) p hH hp r hr (by simp; omega)
  have h1' := h1
  rw [h.eq] at h1
  obtain ⟨c1, c2⟩ := append_crash h.left hk h1
  have hs' : ∀ x ∈ rs ++ [r], x.length ≤ 4000 := by
    intro x hx
    rcases List.mem_append.1 hx with hx | hx
    · exact h.short x hx
    · simp at hx; subst hx; exact hr
  refine ⟨l', p', dead, h6, h3, by simpa using h5, ?_, ?_, ?_⟩
  · intro hn
    subst hn
    have : ∀ (os : List DOp) (l : List Sec), ∃ l'', runOps os l none = (l'', none, false) := by
      intro os
      induction os with
      | nil => intro l; exact ⟨l, rfl⟩
      | cons o os ih => intro l; simp only [runOps, spend]; exact ih _
    obtain ⟨l'', hl''⟩ := this (appendOps (encFrom 0 rs).length rs.length r) (L.map clean)
    rw [hl''] at h1'
    simp only [Prod.mk.injEq] at h1'
    exact ⟨h1'.2.2.symm, h1'.2.1.symm⟩
  · intro hd
    refine ⟨tail.drop (1 + nData r.length), c1 hd, ⟨rfl, hs', fun b hb => h.left b (List.mem_of_mem_drop hb)⟩, by rw [List.length_drop]; omega⟩
  · intro bs hc
    obtain ⟨tail', k1, k2⟩ := c2 bs hc
    rcases k2 with ⟨k2, k3, k4⟩ | ⟨k3, k4⟩
    · exact ⟨rs, tail', ⟨k4, h.short, k1⟩, .inl ⟨k2, rfl, k3⟩⟩
    · exact ⟨rs ++ [r], tail', ⟨k4, hs', k1⟩, .inr ⟨rfl, k3⟩⟩

end Go.Proofs.Ytfphnpelampoeaa
