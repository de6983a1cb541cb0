/-
  What leftover, sectors and Flush compute; the loop of Crash.
-/
import Derived.Test.YtfphnpelampoeaaH3
namespace Go.Proofs.Ytfphnpelampoeaa
open Go Go.Ev

theorem leftover_spec (b : List UInt8) (h : LeftB b) : RunF F 41 [.one (bytesS b)] [.one (boolC true)] := by
  obtain ⟨hl, h⟩ := h
  rcases h with h | h | h | h
  · have h : byteAt b 0 = 68 := h
    exact fn_gives (f := 41) rfl rfl (leftD_0 b hl (.inl h) (by rw [h]; rfl))
  · have h : byteAt b 0 = 183 := h
    exact fn_gives (f := 41) rfl rfl (leftD_1 b hl (.inr (.inl h)) (by rw [h]; decide) (by rw [h]; rfl))
  · have h : byteAt b 0 = 187 := h
    exact fn_gives (f := 41) rfl rfl (leftD_2 b hl (.inr (.inr h)) (by rw [h]; decide) (by rw [h]; decide) (by rw [h]; rfl))
  · exact fn_gives (f := 41) rfl rfl (left0_0 b hl (h _ (byteAt_mem b 0 (by omega))) h)

theorem sectors_spec (n : Nat) (h : n ≤ 4000) : RunF F 34 [.one (intC n)] [.one (intC ((1 + nData n : Nat) : Int))] := by
  by_cases h1 : n ≤ 112
  · have e : nData n = 0 := by unfold nData; omega
    rw [e]
    exact fn_gives (f := 34) rfl rfl (sect_0 n h (by omega))
  · have := sect_1 n h (by omega)
    have e : Int.tdiv ((n : Int) - 112 + 127 - 1) 127 = ((nData n : Nat) : Int) := by
      unfold nData
      have : ((n : Int) - 112 + 127 - 1) = ((n - 112 + 126 : Nat) : Int) := by omega
      rw [this, Int.tdiv_eq_ediv_of_nonneg (by omega)]
      rfl
    have hn : nData n ≤ 4000 := by unfold nData; omega
    rw [e, wrap_i64 ((nData n : Nat) : Int) (by omega), wrap_i64 _ (by omega)] at this
    have e2 : (1 : Int) + ((nData n : Nat) : Int) = ((1 + nData n : Nat) : Int) := by omega
    rw [e2] at this
    exact fn_gives (f := 34) rfl rfl this

theorem flush_ok (l : List Sec) (p p' : Option Nat) (hp : okP p) (hs : spend p = some p') (h1 : 0 < l.length) (h2 : l.length ≤ 256) (hd : ∀ s ∈ l, s.data.length = 128) :
    RunF F 22 [dskV l false (pArm p) (pLeft p)] [dskV (settleP l) false (pArm p') (pLeft p'), .one (intC 0)] :=
  fn_gives (f := 22) rfl rfl (flush_0 l p p' hp hs h1 h2 hd)

theorem flush_dead (l : List Sec) (p : Option Nat) (hs : spend p = none) :
    RunF F 22 [dskV l false (pArm p) (pLeft p)] [dskV l true (pArm p) (pLeft p), .one (intC 51)] :=
  fn_gives (f := 22) rfl rfl (flush_out_0 l p hs)

def S19x (kp tn : Int) (l l0 : List Sec) (de ar : Bool) (le : Int) (j : Nat) : St := ⟨[(1, .c (.lit (.int .u64 kp))), (2, .c (.lit (.int .u64 tn))), (3, .loc 0 0), (6, .loc 1 0), (7, .arr 2 0 l.length), (8, iD j), (18, iD l.length), (19, iD l.length), (20, bD (decide ((l.length : Int) < l.length)))],
  [(0, .box [.c (.slice (secsC l0) l0.length), bD de, bD ar, iD le]), (1, .box [.c nilC, bD false, bD false, iD 0]), (2, .arr (secsC l) 3 0 32)], 4, false⟩

/-- the bit of a mask is not set, as the code asks -/
def bitZ (t : Int) (j : Nat) : Prop := IntKind.wrap IntKind.u64 (↑(BitVec.toNat (BitVec.ofInt (64 : Nat) t &&& BitVec.ofInt (64 : Nat) (IntKind.wrap IntKind.u64 ((2 : Int) ^ min (Int.toNat (Int.tmod (↑j : Int) (64 : Int))) (64 : Nat))))) : Int) = (0 : Int)

def Okay (l : List Sec) : Prop := ∀ s ∈ l, s.data.length = 128 ∧ s.sure.length = 128

theorem Okay.set {l : List Sec} (h : Okay l) (k : Nat) (s : Sec) (hs : s.data.length = 128 ∧ s.sure.length = 128) : Okay (l.set k s) := by
  intro x hx
  rcases List.mem_or_eq_of_mem_set hx with h1 | rfl
  · exact h x h1
  · exact hs

theorem crash_loop (kp tn : Int) (l0 : List Sec) (de ar : Bool) (le : Int) : ∀ (m k j : Nat) (l : List Sec), k + m = l.length → j ≤ k → l.length ≤ 256 → Okay l →
    ∃ l' j', LoopF F [1, 2, 3, 6, 7, 8, 18, 19] B19_1 (S19 kp tn l l0 de ar le j k) (.exit 0) (S19x kp tn (l.take k ++ l') l0 de ar le j') ∧ Crashed (l.drop k) (l'.map Sec.data) ∧ ∀ s ∈ l', s.data.length = 128
  | 0, k, j, l, hk, hj, hl, hd => by
    have e : k = l.length := by omega
    subst e
    refine ⟨[], j, ?_, by rw [List.drop_length]; exact .nil, fun _ h => by cases h⟩
    rw [List.take_length, List.append_nil]
    exact LoopF.out (crash_r_4 kp tn l l0 de ar le j l.length (by omega) hl (fun k h => (hd _ (secAt_mem l k h)).1) (fun k h => (hd _ (secAt_mem l k h)).2) (Nat.le_refl _)) (by simp)
  | m + 1, k, j, l, hk, hj, hl, hd => by
    have d1 := fun k h => (hd _ (secAt_mem l k h)).1
    have d2 := fun k h => (hd _ (secAt_mem l k h)).2
    have hkl : k < l.length := by omega
    have hc : l.drop k = secAt l k :: l.drop (k + 1) := drop_getD noSec k l hkl
    have key : ∀ (s1 : Sec) (j1 : Nat), s1.data.length = 128 ∧ s1.sure.length = 128 → j1 ≤ k + 1 → CrashedS (secAt l k) s1.data →
        (∀ x s', LoopF F [1, 2, 3, 6, 7, 8, 18, 19] B19_1 (S19 kp tn (l.set k s1) l0 de ar le j1 (k + 1)) x s' → LoopF F [1, 2, 3, 6, 7, 8, 18, 19] B19_1 (S19 kp tn l l0 de ar le j k) x s') →
        ∃ l' j', LoopF F [1, 2, 3, 6, 7, 8, 18, 19] B19_1 (S19 kp tn l l0 de ar le j k) (.exit 0) (S19x kp tn (l.take k ++ l') l0 de ar le j') ∧ Crashed (l.drop k) (l'.map Sec.data) ∧ ∀ s ∈ l', s.data.length = 128 := by
      intro s1 j1 h1 h2 h3 h4
      obtain ⟨l', j', i1, i2, i3⟩ := crash_loop kp tn l0 de ar le m (k + 1) j1 (l.set k s1) (by simp; omega) h2 (by simpa using hl) (hd.set k s1 h1)
      refine ⟨s1 :: l', j', ?_, ?_, ?_⟩
      · have := h4 _ _ i1
        rw [take_set_succ _ _ _ hkl] at this
        simpa using this
      · rw [hc]
        rw [drop_set_succ] at i2
        exact .cons h3 i2
      · intro s hs
        rcases List.mem_cons.1 hs with rfl | hs
        · exact h1.1
        · exact i3 s hs
    have hlen : ∀ s1, (l.set k s1).length = l.length := by simp
    cases hf : (secAt l k).fresh with
    | false =>
      have hset : l.set k (secAt l k) = l := by simp [secAt, List.getD_eq_getElem?_getD, hkl]
      refine key (secAt l k) j ⟨d1 k hkl, d2 k hkl⟩ (by omega) (.inl ⟨hf, rfl⟩) fun x s' h => ?_
      rw [hset] at h
      exact LoopF.round (crash_r_0 kp tn l l0 de ar le j k (by omega) hl d1 d2 hkl hf) h
    | true =>
      by_cases c2 : bitZ tn j
      · by_cases c3 : bitZ kp j
        · refine key ⟨(secAt l k).sure, (secAt l k).sure, (secAt l k).fresh⟩ (j + 1) ⟨d2 k hkl, d2 k hkl⟩ (by omega) (.inr ⟨hf, .inr (.inl rfl)⟩) fun x s' h => ?_
          simp only [S19, hlen] at h
          exact LoopF.round (crash_r_2 kp tn l l0 de ar le j k (by omega) hl d1 d2 hkl hf c2 c3) h
        · have hset : l.set k (secAt l k) = l := by simp [secAt, List.getD_eq_getElem?_getD, hkl]
          refine key (secAt l k) (j + 1) ⟨d1 k hkl, d2 k hkl⟩ (by omega) (.inr ⟨hf, .inr (.inr rfl)⟩) fun x s' h => ?_
          rw [hset] at h
          exact LoopF.round (crash_r_3 kp tn l l0 de ar le j k (by omega) hl d1 d2 hkl hf c2 c3) h
      · refine key ⟨(secAt l k).sure, complB (secAt l k).data, (secAt l k).fresh⟩ (j + 1) ⟨by rw [complB_len]; exact d1 k hkl, d2 k hkl⟩ (by omega) (.inr ⟨hf, .inl rfl⟩) fun x s' h => ?_
        simp only [S19, hlen] at h
        exact LoopF.round (crash_r_1 kp tn l l0 de ar le j k (by omega) hl d1 d2 hkl hf c2) h

end Go.Proofs.Ytfphnpelampoeaa
