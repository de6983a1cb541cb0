/-
  The evaluator's code is the program's: checked by the kernel, function by function.
-/
import Derived.Test.YtfphnpelampoeaaEvCodeM
import Derived.Test.YtfphnpelampoeaaEvC
import Derived.Test.YtfphnpelampoeaaChecked
import Derived.KernelRfl
set_option linter.unusedVariables false
set_option linter.unusedSimpArgs false
namespace Go.Proofs.Ytfphnpelampoeaa
open Go Go.Ev

theorem comp10 : compFn Try.prog shF [[], [1, 2], [1, 11], [0], [1, 2], [2, 3, 4], [0]] Try.f10 = some I10 := by kernel_rfl
theorem comp11 : compFn Try.prog shF [[0, 2], [2, 3], [2, 4], [2, 4, 14, 15], [2, 4, 14, 15], [2, 4, 14, 15, 16], [2, 4, 5, 14, 15], [2, 4, 14, 15], [2, 4, 14, 15], [2]] Try.f11 = some I11 := by kernel_rfl
theorem comp12 : compFn Try.prog shF [[1], [1, 29], [2], [31, 32, 33], [31, 32, 33], [31, 32, 33, 34], [4, 31, 32, 33], [31, 32, 33, 59], [2], [31, 32, 33], [2]] Try.f12 = some I12 := by kernel_rfl
theorem comp16 : compFn Try.prog shF [[1, 2, 4], [1, 2, 4, 6, 7, 8], [1, 2, 4, 6, 7, 8, 21], [4, 5], [1, 2, 4, 6, 7, 26], [4, 5], [1, 2, 4, 6, 7, 9], [1, 2, 4, 6, 7, 9, 37], [4, 5], [1, 2, 4, 6, 7, 9, 10], [1, 2, 4, 6, 7, 9, 10], [1, 2, 4, 7, 9, 10], [1, 2, 4, 7, 9, 10], [1, 2, 4, 7, 9, 10], [2, 4, 7, 9, 10, 11], [2, 4, 7, 9, 10, 11, 12], [2, 4, 7, 9, 10, 11, 12], [2, 4, 7, 9, 10, 11, 12, 69], [2, 4, 7, 9, 10, 11, 12, 13], [2, 4, 7, 9, 10, 11, 12, 13], [2, 4, 7, 9, 10, 11, 12, 13], [2, 4, 7, 8, 9, 10, 11, 12], [2, 4, 7, 8, 9, 10, 11, 12, 91], [4, 5], [2, 4, 7, 9, 10, 11, 12], [2, 4, 7, 10, 95], [2, 4, 7, 8, 10], [2, 4, 7, 8, 10, 102], [4, 5], [2, 4, 8], [2, 4, 8, 113], [4, 5], [4, 5]] Try.f16 = some I16 := by kernel_rfl
theorem comp18 : compFn Try.prog shF [[1], [4, 6], [2, 3]] Try.f18 = some I18 := by kernel_rfl
theorem comp19 : compFn Try.prog shF [[1, 2, 3, 6], [1, 2, 3, 6, 7], [1, 2, 3, 6, 7, 8], [1, 2, 3, 6, 7, 8, 18, 19], [1, 2, 3, 6, 7, 8, 18, 19], [1, 2, 3, 6, 7, 8, 18, 19, 20], [1, 2, 3, 6, 7, 8, 9, 18, 19], [1, 2, 3, 6, 7, 8, 9, 18, 19, 27], [1, 2, 3, 6, 7, 8, 9, 10, 18, 19], [1, 2, 3, 6, 7, 8, 9, 10, 18, 19, 31], [1, 2, 3, 6, 7, 8, 9, 11, 18, 19], [1, 2, 3, 6, 7, 8, 9, 11, 18, 19, 47, 48, 49], [1, 2, 3, 6, 7, 8, 9, 11, 18, 19, 47, 48, 49], [1, 2, 3, 6, 7, 8, 9, 11, 18, 19, 47, 48, 49, 50], [1, 2, 3, 6, 7, 8, 9, 11, 12, 13, 18, 19, 47, 48, 49], [1, 2, 3, 6, 7, 8, 9, 11, 18, 19, 47, 48, 49], [1, 2, 3, 6, 7, 8, 9, 11, 18, 19, 47, 48, 49], [1, 2, 3, 6, 7, 8, 18, 19], [1, 2, 3, 6, 7, 8, 9, 18, 19, 65], [1, 2, 3, 6, 7, 8, 18, 19], [1, 2, 3, 6, 7, 8, 18, 19], [1, 2, 3, 6, 7, 8, 18, 19], [3, 6], [3, 6], [6]] Try.f19 = some I19 := by kernel_rfl
theorem comp20 : compFn Try.prog shF [[0, 1], [0, 1, 10], [4], [0, 1, 5], [0, 1, 5], [0, 1, 5, 14], [0, 1, 5, 25], [4], [0, 1, 5], [4]] Try.f20 = some I20 := by kernel_rfl
theorem comp22 : compFn Try.prog shF [[1, 2], [1, 2, 6], [2, 3], [1, 2, 4], [1, 2, 14], [2, 3], [1, 2], [2, 3]] Try.f22 = some I22 := by kernel_rfl
theorem comp27 : compFn Try.prog shF [[1, 2, 3, 6], [1, 2, 3, 6, 11], [6, 7], [1, 2, 3, 6, 26], [6, 7], [1, 2, 3, 6, 8], [1, 2, 3, 6, 34], [6, 7], [1, 2, 3, 6, 9], [1, 3, 6, 9], [3, 6, 9], [3, 6], [6, 7]] Try.f27 = some I27 := by kernel_rfl
theorem comp31 : compFn Try.prog shF [[0, 1], [4]] Try.f31 = some I31 := by kernel_rfl
theorem comp33 : compFn Try.prog shF [[1], [1, 14], [2, 3, 4], [1, 23], [2, 3, 4], [1, 5], [1, 5, 6], [1, 5, 6], [1, 5, 6, 28], [1, 5, 6, 7, 8], [1, 5, 6, 7, 38], [5, 6, 46], [2, 3, 4], [2, 3, 4], [1, 5, 6, 7, 9], [1, 5, 6, 7, 9, 57], [2, 3, 4], [1, 5, 6, 7, 9, 10], [1, 5, 6, 7, 9, 10, 11], [1, 5, 6, 7, 9, 10, 11], [1, 5, 6, 7, 9, 10, 11, 68], [1, 5, 6, 7, 9, 10, 11, 12], [1, 5, 6, 7, 9, 10, 11, 12, 82], [2, 3, 4], [1, 5, 6, 7, 9, 10, 11], [1, 5, 6, 7, 9, 10, 11], [1, 5, 6, 9], [1, 5, 6], [2, 3, 4]] Try.f33 = some I33 := by kernel_rfl
theorem comp34 : compFn Try.prog shF [[0], [0, 4], [2], [2]] Try.f34 = some I34 := by kernel_rfl
theorem comp35 : compFn Try.prog shF [[0, 1, 5], [0, 1, 5], [0, 1, 5, 6], [0, 1, 4, 5], [0, 1, 5], [0, 1, 5]] Try.f35 = some I35 := by kernel_rfl
theorem comp36 : compFn Try.prog shF [[0], [3], [3, 8, 9], [3, 8, 9], [3, 8, 9, 10], [3, 4, 8, 9], [3, 4, 8, 9], [3, 8, 9], [3, 8, 9], [2]] Try.f36 = some I36 := by kernel_rfl
theorem comp37 : compFn Try.prog shF [[1, 2], [1, 2, 6], [2, 3], [1, 2, 10], [1, 2], [2, 3], [1, 2], [2, 3]] Try.f37 = some I37 := by kernel_rfl
theorem comp40 : compFn Try.prog shF [[1, 2, 3], [2, 8], [8, 27], [6, 7], [8, 9], [9, 40], [6, 7], [6, 7]] Try.f40 = some I40 := by kernel_rfl
theorem comp41 : compFn Try.prog shF [[0], [0, 7], [0, 7, 8], [0, 7, 8], [0, 8], [2], [12, 13, 14], [12, 13, 14], [12, 13, 14, 15], [4, 12, 13, 14], [12, 13, 14, 19], [2], [12, 13, 14], [2]] Try.f41 = some I41 := by kernel_rfl
theorem comp42 : compFn Try.prog shF [[0], [2]] Try.f42 = some I42 := by kernel_rfl

theorem table : Table Try.prog shF F where
  ok := by
    intro f I h
    unfold F at h
    split at h
    · simp only [Option.some.injEq] at h; subst h; exact ⟨Try.f10, _, Try.func10, comp10, by kernel_rfl⟩
    · simp only [Option.some.injEq] at h; subst h; exact ⟨Try.f11, _, Try.func11, comp11, by kernel_rfl⟩
    · simp only [Option.some.injEq] at h; subst h; exact ⟨Try.f12, _, Try.func12, comp12, by kernel_rfl⟩
    · simp only [Option.some.injEq] at h; subst h; exact ⟨Try.f16, _, Try.func16, comp16, by kernel_rfl⟩
    · simp only [Option.some.injEq] at h; subst h; exact ⟨Try.f18, _, Try.func18, comp18, by kernel_rfl⟩
    · simp only [Option.some.injEq] at h; subst h; exact ⟨Try.f19, _, Try.func19, comp19, by kernel_rfl⟩
    · simp only [Option.some.injEq] at h; subst h; exact ⟨Try.f20, _, Try.func20, comp20, by kernel_rfl⟩
    · simp only [Option.some.injEq] at h; subst h; exact ⟨Try.f22, _, Try.func22, comp22, by kernel_rfl⟩
    · simp only [Option.some.injEq] at h; subst h; exact ⟨Try.f27, _, Try.func27, comp27, by kernel_rfl⟩
    · simp only [Option.some.injEq] at h; subst h; exact ⟨Try.f31, _, Try.func31, comp31, by kernel_rfl⟩
    · simp only [Option.some.injEq] at h; subst h; exact ⟨Try.f33, _, Try.func33, comp33, by kernel_rfl⟩
    · simp only [Option.some.injEq] at h; subst h; exact ⟨Try.f34, _, Try.func34, comp34, by kernel_rfl⟩
    · simp only [Option.some.injEq] at h; subst h; exact ⟨Try.f35, _, Try.func35, comp35, by kernel_rfl⟩
    · simp only [Option.some.injEq] at h; subst h; exact ⟨Try.f36, _, Try.func36, comp36, by kernel_rfl⟩
    · simp only [Option.some.injEq] at h; subst h; exact ⟨Try.f37, _, Try.func37, comp37, by kernel_rfl⟩
    · simp only [Option.some.injEq] at h; subst h; exact ⟨Try.f40, _, Try.func40, comp40, by kernel_rfl⟩
    · simp only [Option.some.injEq] at h; subst h; exact ⟨Try.f41, _, Try.func41, comp41, by kernel_rfl⟩
    · simp only [Option.some.injEq] at h; subst h; exact ⟨Try.f42, _, Try.func42, comp42, by kernel_rfl⟩
    · cases h
  mixed := by kernel_rfl

end Go.Proofs.Ytfphnpelampoeaa

