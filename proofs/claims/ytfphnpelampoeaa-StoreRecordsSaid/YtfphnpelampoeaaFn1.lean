/-
  What use, Cut and settle compute.
-/
import Derived.Test.YtfphnpelampoeaaH1
namespace Go.Proofs.Ytfphnpelampoeaa
open Go Go.Ev

def pArm (p : Option Nat) : Bool := p.isSome
def pLeft (p : Option Nat) : Int := ((p.getD 0 : Nat) : Int)
/-- the power left is a number of the machine -/
def okP (p : Option Nat) : Prop := p.getD 0 < 9223372036854775808

theorem spend_ok {p p' : Option Nat} (h : okP p) (hs : spend p = some p') : okP p' := by
  unfold okP at *
  cases p with
  | none => simp [spend] at hs; subst hs; exact h
  | some n => cases n with
    | zero => simp [spend] at hs
    | succ n => simp [spend] at hs; subst hs; simp at *; omega

theorem use_ok (l : List Sec) (de : Bool) (p p' : Option Nat) (h : okP p) (hs : spend p = some p') :
    RunF F 37 [dskV l de (pArm p) (pLeft p)] [dskV l de (pArm p') (pLeft p'), .one (boolC true)] := by
  cases p with
  | none =>
    simp [spend] at hs; subst hs
    exact fn_gives (f := 37) rfl rfl (use_0 l de (pArm none) (pLeft none) (by decide) rfl)
  | some n => cases n with
    | zero => simp [spend] at hs
    | succ n =>
      simp [spend] at hs; subst hs
      have := use_2 l de (pArm (some (n + 1))) (pLeft (some (n + 1))) (by simp [pLeft, okP] at *; omega) rfl (by simp [pLeft]; omega)
      have e : pLeft (some (n + 1)) - 1 = pLeft (some n) := by simp [pLeft]
      rw [e] at this
      exact fn_gives (f := 37) rfl rfl this

theorem use_out (l : List Sec) (de : Bool) (p : Option Nat) (hs : spend p = none) :
    RunF F 37 [dskV l de (pArm p) (pLeft p)] [dskV l true (pArm p) (pLeft p), .one (boolC false)] := by
  cases p with
  | none => simp [spend] at hs
  | some n => cases n with
    | zero => exact fn_gives (f := 37) rfl rfl (use_1 l de (pArm (some 0)) (pLeft (some 0)) (by decide) rfl rfl)
    | succ n => simp [spend] at hs

theorem cut_spec (l : List Sec) (de ar : Bool) (le : Int) (n : Nat) : RunF F 17 [dskV l de ar le, .one (intC n)] [dskV l de (pArm (some n)) (pLeft (some n))] := by
  refine fn_gives (f := 17) rfl rfl (bs := []) ?_
  have := cut_0 l de ar le n
  rw [if_neg (by omega)] at this
  exact this

def S36x (l : List Sec) : St := ⟨[(3, .arr 0 0 l.length), (8, iD l.length), (9, iD l.length), (10, bD (decide ((l.length : Int) < l.length)))], [(0, .arr (secsC l) 3 0 32)], 2, false⟩

theorem secAt_mem (l : List Sec) (k : Nat) (h : k < l.length) : secAt l k ∈ l := by
  simp [secAt, List.getD_eq_getElem?_getD, h]

theorem take_set_succ {α : Type} (x : α) : ∀ (k : Nat) (l : List α), k < l.length → (l.set k x).take (k + 1) = l.take k ++ [x]
  | 0, a :: l, _ => by simp
  | k + 1, a :: l, h => by
    rw [List.set_cons_succ, List.take_succ_cons, take_set_succ x k l (by simpa using h)]
    simp
  | _, [], h => by simp at h

theorem drop_set_succ {α : Type} (x : α) : ∀ (k : Nat) (l : List α), (l.set k x).drop (k + 1) = l.drop (k + 1)
  | 0, [] => by simp
  | 0, a :: l => by simp
  | k + 1, [] => by simp
  | k + 1, a :: l => by
    rw [List.set_cons_succ, List.drop_succ_cons, drop_set_succ x k l]
    simp

theorem settle_loop : ∀ (m k : Nat) (l : List Sec), k + m = l.length → l.length ≤ 256 → (∀ s ∈ l, s.data.length = 128) →
    LoopF F [3, 8, 9] B36_0 (S36 l k) (.exit 0) (S36x (l.take k ++ settleP (l.drop k)))
  | 0, k, l, hk, hl, hd => by
    have e : k = l.length := by omega
    subst e
    have := settle_r_1 l l.length hl (fun k h => hd _ (secAt_mem l k h)) (Nat.le_refl _)
    simp only [List.take_length, List.drop_length, settleP, List.map_nil, List.append_nil]
    exact LoopF.out this (by simp)
  | m + 1, k, l, hk, hl, hd => by
    have h := settle_r_0 l k hl (fun k h => hd _ (secAt_mem l k h)) (by omega)
    have ih := settle_loop m (k + 1) (l.set k (clean (secAt l k).data)) (by simp; omega) (by simpa using hl) (fun s hs => by
      rcases List.mem_or_eq_of_mem_set hs with h | rfl
      · exact hd s h
      · exact hd (secAt l k) (secAt_mem l k (by omega)))
    have e : (l.set k (clean (secAt l k).data)).take (k + 1) ++ settleP ((l.set k (clean (secAt l k).data)).drop (k + 1)) = l.take k ++ settleP (l.drop k) := by
      rw [take_set_succ _ _ _ (by omega), drop_set_succ, drop_getD noSec k l (by omega)]
      simp [settleP, secAt]
    rw [e] at ih
    refine LoopF.round h ?_
    have e2 : S36 (l.set k (clean (secAt l k).data)) (k + 1) = ⟨[(3, .arr 0 0 l.length), (8, iD l.length), (9, iD (k + 1 : Nat))], [(0, .arr (secsC (l.set k (clean (secAt l k).data))) 3 0 32)], 1, false⟩ := by
      simp [S36]
    rw [e2] at ih
    exact ih

end Go.Proofs.Ytfphnpelampoeaa
