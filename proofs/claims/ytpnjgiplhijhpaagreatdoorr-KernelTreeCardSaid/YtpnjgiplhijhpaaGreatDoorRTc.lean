/- The tie of the row, fact by fact: the places are apart. -/
import Derived.Test.YtpnjgiplhijhpaaGreatDoorRTa
set_option linter.all false
namespace Go.Proofs.YtpnjgiplhijhpaaGreatDoorR.own
open Go Go.Proofs.YtpnjgiplhijhpaaGreatDoorR
/-- a number for a place -/
def codeP : MemPlace → Nat
  | .cell b o => b * 1000 + o
  | .map b => b * 1000 + 999
/-- all numbers are different -/
def dB : List Nat → Nat → Bool
  | [], _ => true
  | x :: r, m => !(Nat.testBit m x) && dB r (m ||| 2 ^ x)
theorem dB_ok : ∀ (l : List Nat) (m : Nat), dB l m = true → l.Nodup ∧ ∀ x ∈ l, Nat.testBit m x = false
  | [], _, _ => ⟨List.nodup_nil, fun _ h => by cases h⟩
  | x :: r, m, h => by
    simp only [dB, Bool.and_eq_true, Bool.not_eq_true'] at h
    obtain ⟨h1, h2⟩ := dB_ok r _ h.2
    refine ⟨List.nodup_cons.2 ⟨fun hx => ?_, h1⟩, fun y hy => ?_⟩
    · have := h2 x hx
      simp [Nat.testBit_or] at this
    · rcases List.mem_cons.1 hy with rfl | hy
      · exact h.1
      · have := h2 y hy
        simp only [Nat.testBit_or, Bool.or_eq_false_iff] at this
        exact this.1
theorem nodup_of {l : List MemPlace} (h : dB (l.map codeP) 0 = true) : l.Nodup := List.Pairwise.of_map codeP (fun _ _ h e => h (congrArg codeP e)) (dB_ok _ _ h).1
theorem ti9a : ∀ os tape, (DataW.laidRun Tryz.prog (varsWorld Tryz.prog 400 (varsId Tryz.prog) os tape).memory 8 (LL.map (·.1))).map (fun x => dB (x.2.map codeP) 0) = some true := fun _ _ => by kernel_rfl
end Go.Proofs.YtpnjgiplhijhpaaGreatDoorR.own
