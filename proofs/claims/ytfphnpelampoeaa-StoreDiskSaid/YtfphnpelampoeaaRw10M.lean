/-
  StoreValid: the whole law, as the evaluator runs it.
-/
import Derived.Test.YtfphnpelampoeaaRw9M
set_option linter.unusedVariables false
set_option linter.unusedSimpArgs false
namespace Go.Proofs.Ytfphnpelampoeaa.Rw
open Go Go.Ez

theorem list_split (l : List Sec) (k : Nat) (h : k < l.length) : l = l.take k ++ secAt l k :: l.drop (k + 1) := by
  have := drop_getD noSec k l h
  rw [show secAt l k = l.getD k noSec from rfl, ← this, List.take_append_drop]

theorem Owned.split {l : List Sec} {B rid N k : Nat} {ids : List (Nat × Nat)} {h : Heap} (ho : Owned l B rid ids h N) (hk : k < l.length) :
    ∃ i1 a b i2, ids = i1 ++ (a, b) :: i2 ∧ i1.length = k ∧ Held h i1 (l.take k) ∧ getH h a = .arr (bytesC (secAt l k).sure) 1 0 5 ∧ getH h b = .arr (bytesC (secAt l k).data) 1 0 5 ∧ Held h i2 (l.drop (k + 1)) ∧
      rowD ids l = rowD i1 (l.take k) ++ .arr a 0 128 :: .arr b 0 128 :: .c (boolC (secAt l k).fresh) :: rowD i2 (l.drop (k + 1)) := by
  have hl := ho.held.len
  have hki : k < ids.length := by omega
  have e1 : ids = ids.take k ++ ids.getD k (0, 0) :: ids.drop (k + 1) := by
    have := drop_getD ((0, 0) : Nat × Nat) k ids hki
    rw [← this, List.take_append_drop]
  have e2 := list_split l k hk
  have hlen : (ids.take k).length = (l.take k).length := by simp [List.length_take]; omega
  have hh := ho.held
  rw [e1] at hh
  have hh2 : Held h (ids.take k ++ ids.getD k (0, 0) :: ids.drop (k + 1)) (l.take k ++ secAt l k :: l.drop (k + 1)) := by rw [← e2]; exact hh
  obtain ⟨k1, k2⟩ := Held.split hlen hh2
  refine ⟨ids.take k, (ids.getD k (0, 0)).1, (ids.getD k (0, 0)).2, ids.drop (k + 1), e1, by rw [List.length_take]; omega, k1, k2.1, k2.2.1, k2.2.2, ?_⟩
  have e3 : rowD ids l = rowD (ids.take k ++ ids.getD k (0, 0) :: ids.drop (k + 1)) (l.take k ++ secAt l k :: l.drop (k + 1)) := by rw [← e1, ← e2]
  rw [e3, rowD_app hlen]
  rfl

theorem Okay.new (n : Nat) : Okay (newSecs n) := by
  intro s hs
  obtain ⟨_, rfl⟩ := List.mem_replicate.1 hs
  exact ⟨by simp [zeroSec, zeroB], by simp [zeroSec, zeroB]⟩

end Go.Proofs.Ytfphnpelampoeaa.Rw

