/-
  The evaluator's code is the program's: checked by the kernel, function by function.
-/
import Derived.Test.YtfphnpelampoeaaEvCodeM
import Derived.Test.YtfphnpelampoeaaEvC
import Derived.Test.YtfphnpelampoeaaChecked
import Derived.KernelRfl
set_option linter.unusedVariables false
set_option linter.unusedSimpArgs false
namespace Go.Proofs.Ytfphnpelampoeaa
open Go Go.Ev

theorem comp2 : compFn Try.prog shF [[]] Try.f2 = some I2 := by kernel_rfl
theorem comp3 : compFn Try.prog shF [[0], [0, 7], [2], [9, 10, 11], [9, 10, 11], [9, 10, 11, 12], [4, 9, 10, 11], [4, 5, 9, 10, 11], [9, 10, 11, 28], [2], [9, 10, 11], [2]] Try.f3 = some I3 := by kernel_rfl
theorem comp4 : compFn Try.prog shF [[1, 2, 3, 4], [1, 2, 3, 4, 12], [8], [1, 2, 3, 4, 16], [8], [1, 2, 3, 21], [8], [2, 3, 9], [2, 3, 9, 10], [3, 9, 10, 34], [3, 9, 10, 34, 35], [9], [3, 9, 10, 34, 47], [9, 10], [9], [3, 9, 10, 34, 64], [9], [3, 9, 10, 34, 70], [9], [9, 10, 34, 77], [9], [9, 34, 91], [9], [9, 94], [9], [8]] Try.f4 = some I4 := by kernel_rfl
theorem comp5 : compFn Try.prog shF [[0, 1, 2, 3, 4], [0, 1, 2, 3, 4, 29], [10], [0, 1, 2, 3, 4, 32], [10], [0, 1, 2, 3, 4, 11], [0, 1, 2, 3, 4, 11, 12], [0, 1, 2, 3, 4, 11, 12, 13], [0, 1, 2, 3, 4, 11, 12, 13], [0, 1, 2, 3, 4, 11, 12, 13, 37], [0, 1, 2, 3, 4, 11, 12, 13, 14], [0, 1, 2, 3, 4, 11, 12, 13, 14, 15, 16], [0, 1, 2, 3, 4, 11, 12, 13, 14, 15, 53], [10], [0, 1, 2, 3, 4, 11, 12, 13], [0, 1, 2, 3, 4, 11, 12, 13], [1, 2, 3, 11, 12, 17], [2, 3, 12, 17, 18, 19], [2, 3, 12, 17, 18, 19, 81], [10], [2, 3, 12, 17, 18, 19, 83], [2, 3, 12, 17, 18, 19], [2, 3, 12, 17, 18, 19, 21], [2, 3, 12, 17, 18, 19, 94], [10], [12, 17, 18, 19], [12, 17, 18, 19, 22, 23], [18, 22, 125], [10], [22, 24, 25], [22, 25, 26, 27], [10]] Try.f5 = some I5 := by kernel_rfl
theorem comp6 : compFn Try.prog shF [[0, 1, 2], [0, 1, 2, 17], [6], [0, 1, 2, 20], [6], [0, 1, 2, 7], [0, 1, 2, 7, 8], [0, 1, 2, 7, 8, 9], [0, 1, 2, 7, 8, 9], [0, 1, 2, 7, 8, 9, 25], [0, 1, 2, 7, 8, 9, 10], [0, 1, 2, 7, 8, 9, 10, 11, 12], [0, 1, 2, 7, 8, 9, 10, 11, 12], [0, 1, 2, 7, 8, 9, 10, 11, 12, 13, 14], [0, 1, 2, 7, 8, 9, 11, 12, 13, 14, 15], [0, 1, 2, 7, 9, 11, 13, 88], [6], [0, 1, 2, 7, 8, 9], [0, 1, 2, 7, 8, 9], [6]] Try.f6 = some I6 := by kernel_rfl
theorem comp7 : compFn Try.prog shF [[0, 1, 2, 3], [0, 1, 2, 3, 22], [8], [0, 1, 2, 3, 25], [8], [1, 2, 3, 9], [1, 2, 3, 9, 10], [1, 2, 3, 10, 38], [8], [1, 2, 3, 10, 11], [1, 2, 3, 10, 11, 12], [1, 2, 3, 10, 11, 12], [1, 2, 3, 10, 11, 12, 42], [1, 2, 3, 10, 11, 12, 13], [1, 2, 3, 10, 11, 12, 13, 14], [1, 2, 3, 10, 11, 12, 13, 14, 15, 16], [1, 2, 3, 10, 11, 12, 13, 14, 15, 16, 79], [8], [1, 2, 3, 10, 11, 12, 13, 14, 15, 81], [1, 2, 3, 10, 11, 12, 13, 14, 15], [1, 2, 3, 10, 11, 12, 15, 93], [8], [1, 2, 3, 10, 11, 12], [1, 2, 3, 10, 11, 12, 17, 18], [1, 2, 3, 10, 11, 12, 107], [8], [1, 2, 3, 10, 11, 12, 110], [1, 2, 3, 10, 11, 12], [1, 2, 3, 10, 11, 12], [11, 19, 20], [8]] Try.f7 = some I7 := by kernel_rfl
theorem comp8 : compFn Try.prog shF [[0], [0, 24], [4], [0, 5], [0, 5, 7], [0, 5, 7, 9], [0, 5, 7, 9, 10], [0, 5, 7, 9, 10, 12], [0, 5, 7, 9, 12, 14], [0, 5, 7, 9, 12, 14, 15, 16], [0, 5, 7, 9, 12, 14, 15, 16, 18], [0, 5, 7, 9, 12, 14, 16, 18, 20], [5, 7, 9, 12, 14, 16, 18, 20, 21, 22], [4]] Try.f8 = some I8 := by kernel_rfl
theorem comp9 : compFn Try.prog shF [[0, 1], [0, 1, 21], [4], [0, 1, 24], [4], [1, 5], [1, 6, 7], [1, 6, 7, 41], [4], [1, 6, 7, 8], [1, 6, 7, 8], [1, 6, 7, 8, 45], [1, 6, 7, 8, 9], [1, 6, 7, 8, 9, 10], [1, 6, 7, 8, 9, 10, 62], [1, 6, 7, 8, 9, 10], [1, 6, 7, 8, 9, 10, 11, 12], [1, 6, 7, 8, 9, 10, 11, 12, 72], [1, 6, 7, 8, 9, 10, 11, 12, 72, 108], [1, 6, 7, 8, 10, 11], [1, 6, 7, 8, 10, 11, 12], [1, 6, 7, 8, 9, 10, 11, 12, 72, 120], [1, 6, 7, 8, 10, 11, 12, 13], [1, 6, 7, 8, 10, 11, 12, 13, 129], [1, 6, 7, 8, 10, 11, 12, 13], [1, 6, 7, 8, 10, 11, 12], [1, 6, 7, 8, 9, 10, 11, 12, 72, 136], [1, 6, 7, 8, 10, 11, 12], [1, 6, 7, 8, 9, 10, 11, 12, 150], [1, 6, 7, 8, 9, 10, 14], [1, 6, 7, 8, 9, 10, 14, 15], [1, 6, 7, 8, 9, 10, 14, 15], [1, 6, 7, 8, 9, 10, 14, 15, 77], [1, 6, 7, 8, 9, 10, 14, 15], [1, 6, 7, 8, 9, 10, 14, 15], [1, 6, 7, 8, 10, 14, 91], [1, 6, 7, 8, 10, 14], [1, 6, 7, 8, 10, 11, 14], [1, 6, 7, 8, 10, 11, 12], [1, 6, 7, 8, 10, 11, 12, 16, 17], [1, 6, 7, 8, 11, 12, 16, 17, 18, 19], [1, 6, 7, 8, 189], [4], [1, 6, 7, 8], [4]] Try.f9 = some I9 := by kernel_rfl
theorem comp10 : compFn Try.prog shF [[], [1, 2], [1, 11], [0], [1, 2], [2, 3, 4], [0]] Try.f10 = some I10 := by kernel_rfl
theorem comp11 : compFn Try.prog shF [[0, 2], [2, 3], [2, 4], [2, 4, 14, 15], [2, 4, 14, 15], [2, 4, 14, 15, 16], [2, 4, 5, 14, 15], [2, 4, 14, 15], [2, 4, 14, 15], [2]] Try.f11 = some I11 := by kernel_rfl
theorem comp12 : compFn Try.prog shF [[1], [1, 29], [2], [31, 32, 33], [31, 32, 33], [31, 32, 33, 34], [4, 31, 32, 33], [31, 32, 33, 59], [2], [31, 32, 33], [2]] Try.f12 = some I12 := by kernel_rfl
theorem comp13 : compFn Try.prog shF [[1], [1, 29], [2], [1, 3], [1, 3], [1, 3, 34], [1, 3, 4], [1, 3, 64], [2], [1, 3], [2]] Try.f13 = some I13 := by kernel_rfl
theorem comp14 : compFn Try.prog shF [[0, 2], [2, 3], [2, 3, 4], [2, 3, 4, 5], [2, 3, 4, 5], [2, 3, 4, 5, 12], [2, 3, 4, 5], [2, 3, 4, 5], [2]] Try.f14 = some I14 := by kernel_rfl
theorem comp15 : compFn Try.prog shF [[0, 1], [0, 1, 5], [0, 1, 5, 6], [0, 1, 5, 6], [0, 1, 5, 6, 14], [0, 1, 5, 6], [0, 1, 5, 6], [4]] Try.f15 = some I15 := by kernel_rfl
theorem comp16 : compFn Try.prog shF [[1, 2, 4], [1, 2, 4, 6, 7, 8], [1, 2, 4, 6, 7, 8, 21], [4, 5], [1, 2, 4, 6, 7, 26], [4, 5], [1, 2, 4, 6, 7, 9], [1, 2, 4, 6, 7, 9, 37], [4, 5], [1, 2, 4, 6, 7, 9, 10], [1, 2, 4, 6, 7, 9, 10], [1, 2, 4, 7, 9, 10], [1, 2, 4, 7, 9, 10], [1, 2, 4, 7, 9, 10], [2, 4, 7, 9, 10, 11], [2, 4, 7, 9, 10, 11, 12], [2, 4, 7, 9, 10, 11, 12], [2, 4, 7, 9, 10, 11, 12, 69], [2, 4, 7, 9, 10, 11, 12, 13], [2, 4, 7, 9, 10, 11, 12, 13], [2, 4, 7, 9, 10, 11, 12, 13], [2, 4, 7, 8, 9, 10, 11, 12], [2, 4, 7, 8, 9, 10, 11, 12, 91], [4, 5], [2, 4, 7, 9, 10, 11, 12], [2, 4, 7, 10, 95], [2, 4, 7, 8, 10], [2, 4, 7, 8, 10, 102], [4, 5], [2, 4, 8], [2, 4, 8, 113], [4, 5], [4, 5]] Try.f16 = some I16 := by kernel_rfl
theorem comp17 : compFn Try.prog shF [[1, 2, 4], [2, 4], [4]] Try.f17 = some I17 := by kernel_rfl
theorem comp18 : compFn Try.prog shF [[1], [4, 6], [2, 3]] Try.f18 = some I18 := by kernel_rfl
theorem comp19 : compFn Try.prog shF [[1, 2, 3, 6], [1, 2, 3, 6, 7], [1, 2, 3, 6, 7, 8], [1, 2, 3, 6, 7, 8, 18, 19], [1, 2, 3, 6, 7, 8, 18, 19], [1, 2, 3, 6, 7, 8, 18, 19, 20], [1, 2, 3, 6, 7, 8, 9, 18, 19], [1, 2, 3, 6, 7, 8, 9, 18, 19, 27], [1, 2, 3, 6, 7, 8, 9, 10, 18, 19], [1, 2, 3, 6, 7, 8, 9, 10, 18, 19, 31], [1, 2, 3, 6, 7, 8, 9, 11, 18, 19], [1, 2, 3, 6, 7, 8, 9, 11, 18, 19, 47, 48, 49], [1, 2, 3, 6, 7, 8, 9, 11, 18, 19, 47, 48, 49], [1, 2, 3, 6, 7, 8, 9, 11, 18, 19, 47, 48, 49, 50], [1, 2, 3, 6, 7, 8, 9, 11, 12, 13, 18, 19, 47, 48, 49], [1, 2, 3, 6, 7, 8, 9, 11, 18, 19, 47, 48, 49], [1, 2, 3, 6, 7, 8, 9, 11, 18, 19, 47, 48, 49], [1, 2, 3, 6, 7, 8, 18, 19], [1, 2, 3, 6, 7, 8, 9, 18, 19, 65], [1, 2, 3, 6, 7, 8, 18, 19], [1, 2, 3, 6, 7, 8, 18, 19], [1, 2, 3, 6, 7, 8, 18, 19], [3, 6], [3, 6], [6]] Try.f19 = some I19 := by kernel_rfl
theorem comp20 : compFn Try.prog shF [[0, 1], [0, 1, 10], [4], [0, 1, 5], [0, 1, 5], [0, 1, 5, 14], [0, 1, 5, 25], [4], [0, 1, 5], [4]] Try.f20 = some I20 := by kernel_rfl
theorem comp21 : compFn Try.prog shF [[1], [1, 4, 5], [1, 4, 13], [2], [2]] Try.f21 = some I21 := by kernel_rfl
theorem comp22 : compFn Try.prog shF [[1, 2], [1, 2, 6], [2, 3], [1, 2, 4], [1, 2, 14], [2, 3], [1, 2], [2, 3]] Try.f22 = some I22 := by kernel_rfl
theorem comp23 : compFn Try.prog shF [[2, 3], [2, 3, 35], [4], [2, 3, 5], [2, 3, 5], [2, 3, 5, 40], [2, 3, 5, 6, 7], [2, 3, 5, 73], [4], [2, 3, 5], [4]] Try.f23 = some I23 := by kernel_rfl
theorem comp24 : compFn Try.prog shF [[1, 2], [1, 2, 4], [2, 4, 13], [2, 3], [2, 4, 5], [2, 4, 5], [2, 4, 5, 19], [2, 4, 5], [2, 4, 5], [2, 3]] Try.f24 = some I24 := by kernel_rfl
theorem comp25 : compFn Try.prog shF [[1, 2, 4], [1, 4, 5], [4, 5], [4]] Try.f25 = some I25 := by kernel_rfl
theorem comp26 : compFn Try.prog shF [[1, 2, 3, 6], [1, 2, 6, 7], [1, 2, 6, 7, 8], [1, 2, 6, 7, 8, 9], [1, 2, 6, 7, 8, 9], [1, 2, 6, 7, 8, 9, 18], [1, 2, 6, 7, 8, 9, 10], [1, 2, 6, 7, 8, 9, 10, 27], [1, 2, 6, 7, 8, 9, 10, 28], [1, 2, 6, 7, 8, 9, 10, 11], [1, 2, 6, 7, 8, 9, 10, 11], [1, 2, 6, 7, 8, 9, 10, 11, 39], [1, 2, 6, 7, 8, 9, 10, 11], [1, 2, 6, 7, 8, 9, 10, 11], [1, 2, 6, 7, 8, 9, 10, 52], [1, 2, 6, 7, 8, 9, 10], [1, 2, 6, 7, 8, 9, 10], [1, 2, 6, 7, 8, 9, 10], [1, 2, 6, 7, 8, 9], [1, 2, 6, 7, 8, 9], [6, 7], [6]] Try.f26 = some I26 := by kernel_rfl
theorem comp27 : compFn Try.prog shF [[1, 2, 3, 6], [1, 2, 3, 6, 11], [6, 7], [1, 2, 3, 6, 26], [6, 7], [1, 2, 3, 6, 8], [1, 2, 3, 6, 34], [6, 7], [1, 2, 3, 6, 9], [1, 3, 6, 9], [3, 6, 9], [3, 6], [6, 7]] Try.f27 = some I27 := by kernel_rfl
theorem comp28 : compFn Try.prog shF [[1, 2, 3, 6], [1, 2, 3, 6, 8], [1, 2, 3, 6, 8, 12], [6, 7], [1, 2, 6, 8, 27], [6, 7], [1, 2, 6, 8, 30], [6, 7], [6, 8], [6, 7]] Try.f28 = some I28 := by kernel_rfl
theorem comp29 : compFn Try.prog shF [[1, 2], [1, 2, 7], [4, 5], [1, 2, 16], [4, 5], [4, 5]] Try.f29 = some I29 := by kernel_rfl
theorem comp30 : compFn Try.prog shF [[1, 2], [1, 2, 7], [4, 5], [1, 2, 16], [4, 5], [4, 5]] Try.f30 = some I30 := by kernel_rfl
theorem comp31 : compFn Try.prog shF [[0, 1], [4]] Try.f31 = some I31 := by kernel_rfl
theorem comp32 : compFn Try.prog shF [[0, 1], [0, 1, 10], [4], [0, 1, 5], [0, 1, 5], [0, 1, 5, 14], [0, 1, 5, 25], [4], [0, 1, 5], [4]] Try.f32 = some I32 := by kernel_rfl
theorem comp33 : compFn Try.prog shF [[1], [1, 14], [2, 3, 4], [1, 23], [2, 3, 4], [1, 5], [1, 5, 6], [1, 5, 6], [1, 5, 6, 28], [1, 5, 6, 7, 8], [1, 5, 6, 7, 38], [5, 6, 46], [2, 3, 4], [2, 3, 4], [1, 5, 6, 7, 9], [1, 5, 6, 7, 9, 57], [2, 3, 4], [1, 5, 6, 7, 9, 10], [1, 5, 6, 7, 9, 10, 11], [1, 5, 6, 7, 9, 10, 11], [1, 5, 6, 7, 9, 10, 11, 68], [1, 5, 6, 7, 9, 10, 11, 12], [1, 5, 6, 7, 9, 10, 11, 12, 82], [2, 3, 4], [1, 5, 6, 7, 9, 10, 11], [1, 5, 6, 7, 9, 10, 11], [1, 5, 6, 9], [1, 5, 6], [2, 3, 4]] Try.f33 = some I33 := by kernel_rfl
theorem comp34 : compFn Try.prog shF [[0], [0, 4], [2], [2]] Try.f34 = some I34 := by kernel_rfl
theorem comp35 : compFn Try.prog shF [[0, 1, 5], [0, 1, 5], [0, 1, 5, 6], [0, 1, 4, 5], [0, 1, 5], [0, 1, 5]] Try.f35 = some I35 := by kernel_rfl
theorem comp36 : compFn Try.prog shF [[0], [3], [3, 8, 9], [3, 8, 9], [3, 8, 9, 10], [3, 4, 8, 9], [3, 4, 8, 9], [3, 8, 9], [3, 8, 9], [2]] Try.f36 = some I36 := by kernel_rfl
theorem comp37 : compFn Try.prog shF [[1, 2], [1, 2, 6], [2, 3], [1, 2, 10], [1, 2], [2, 3], [1, 2], [2, 3]] Try.f37 = some I37 := by kernel_rfl
theorem comp38 : compFn Try.prog shF [[1, 2], [1, 2, 3], [1, 2, 3], [1, 2, 3, 4], [1, 2, 3, 4], [1, 2, 3, 4, 12], [1, 2, 3, 4, 5], [1, 2, 3, 4, 5], [1, 2, 3, 4], [1, 2, 3, 4], [2]] Try.f38 = some I38 := by kernel_rfl
theorem comp39 : compFn Try.prog shF [[0], [0, 13], [], [2], [0, 20], [], [2]] Try.f39 = some I39 := by kernel_rfl
theorem comp40 : compFn Try.prog shF [[1, 2, 3], [2, 8], [8, 27], [6, 7], [8, 9], [9, 40], [6, 7], [6, 7]] Try.f40 = some I40 := by kernel_rfl
theorem comp41 : compFn Try.prog shF [[0], [0, 7], [0, 7, 8], [0, 7, 8], [0, 8], [2], [12, 13, 14], [12, 13, 14], [12, 13, 14, 15], [4, 12, 13, 14], [12, 13, 14, 19], [2], [12, 13, 14], [2]] Try.f41 = some I41 := by kernel_rfl
theorem comp42 : compFn Try.prog shF [[0], [2]] Try.f42 = some I42 := by kernel_rfl

theorem table : Table Try.prog shF F where
  ok := by
    intro f I h
    unfold F at h
    split at h
    · simp only [Option.some.injEq] at h; subst h; exact ⟨Try.f2, _, Try.func2, comp2, by kernel_rfl⟩
    · simp only [Option.some.injEq] at h; subst h; exact ⟨Try.f3, _, Try.func3, comp3, by kernel_rfl⟩
    · simp only [Option.some.injEq] at h; subst h; exact ⟨Try.f4, _, Try.func4, comp4, by kernel_rfl⟩
    · simp only [Option.some.injEq] at h; subst h; exact ⟨Try.f5, _, Try.func5, comp5, by kernel_rfl⟩
    · simp only [Option.some.injEq] at h; subst h; exact ⟨Try.f6, _, Try.func6, comp6, by kernel_rfl⟩
    · simp only [Option.some.injEq] at h; subst h; exact ⟨Try.f7, _, Try.func7, comp7, by kernel_rfl⟩
    · simp only [Option.some.injEq] at h; subst h; exact ⟨Try.f8, _, Try.func8, comp8, by kernel_rfl⟩
    · simp only [Option.some.injEq] at h; subst h; exact ⟨Try.f9, _, Try.func9, comp9, by kernel_rfl⟩
    · simp only [Option.some.injEq] at h; subst h; exact ⟨Try.f10, _, Try.func10, comp10, by kernel_rfl⟩
    · simp only [Option.some.injEq] at h; subst h; exact ⟨Try.f11, _, Try.func11, comp11, by kernel_rfl⟩
    · simp only [Option.some.injEq] at h; subst h; exact ⟨Try.f12, _, Try.func12, comp12, by kernel_rfl⟩
    · simp only [Option.some.injEq] at h; subst h; exact ⟨Try.f13, _, Try.func13, comp13, by kernel_rfl⟩
    · simp only [Option.some.injEq] at h; subst h; exact ⟨Try.f14, _, Try.func14, comp14, by kernel_rfl⟩
    · simp only [Option.some.injEq] at h; subst h; exact ⟨Try.f15, _, Try.func15, comp15, by kernel_rfl⟩
    · simp only [Option.some.injEq] at h; subst h; exact ⟨Try.f16, _, Try.func16, comp16, by kernel_rfl⟩
    · simp only [Option.some.injEq] at h; subst h; exact ⟨Try.f17, _, Try.func17, comp17, by kernel_rfl⟩
    · simp only [Option.some.injEq] at h; subst h; exact ⟨Try.f18, _, Try.func18, comp18, by kernel_rfl⟩
    · simp only [Option.some.injEq] at h; subst h; exact ⟨Try.f19, _, Try.func19, comp19, by kernel_rfl⟩
    · simp only [Option.some.injEq] at h; subst h; exact ⟨Try.f20, _, Try.func20, comp20, by kernel_rfl⟩
    · simp only [Option.some.injEq] at h; subst h; exact ⟨Try.f21, _, Try.func21, comp21, by kernel_rfl⟩
    · simp only [Option.some.injEq] at h; subst h; exact ⟨Try.f22, _, Try.func22, comp22, by kernel_rfl⟩
    · simp only [Option.some.injEq] at h; subst h; exact ⟨Try.f23, _, Try.func23, comp23, by kernel_rfl⟩
    · simp only [Option.some.injEq] at h; subst h; exact ⟨Try.f24, _, Try.func24, comp24, by kernel_rfl⟩
    · simp only [Option.some.injEq] at h; subst h; exact ⟨Try.f25, _, Try.func25, comp25, by kernel_rfl⟩
    · simp only [Option.some.injEq] at h; subst h; exact ⟨Try.f26, _, Try.func26, comp26, by kernel_rfl⟩
    · simp only [Option.some.injEq] at h; subst h; exact ⟨Try.f27, _, Try.func27, comp27, by kernel_rfl⟩
    · simp only [Option.some.injEq] at h; subst h; exact ⟨Try.f28, _, Try.func28, comp28, by kernel_rfl⟩
    · simp only [Option.some.injEq] at h; subst h; exact ⟨Try.f29, _, Try.func29, comp29, by kernel_rfl⟩
    · simp only [Option.some.injEq] at h; subst h; exact ⟨Try.f30, _, Try.func30, comp30, by kernel_rfl⟩
    · simp only [Option.some.injEq] at h; subst h; exact ⟨Try.f31, _, Try.func31, comp31, by kernel_rfl⟩
    · simp only [Option.some.injEq] at h; subst h; exact ⟨Try.f32, _, Try.func32, comp32, by kernel_rfl⟩
    · simp only [Option.some.injEq] at h; subst h; exact ⟨Try.f33, _, Try.func33, comp33, by kernel_rfl⟩
    · simp only [Option.some.injEq] at h; subst h; exact ⟨Try.f34, _, Try.func34, comp34, by kernel_rfl⟩
    · simp only [Option.some.injEq] at h; subst h; exact ⟨Try.f35, _, Try.func35, comp35, by kernel_rfl⟩
    · simp only [Option.some.injEq] at h; subst h; exact ⟨Try.f36, _, Try.func36, comp36, by kernel_rfl⟩
    · simp only [Option.some.injEq] at h; subst h; exact ⟨Try.f37, _, Try.func37, comp37, by kernel_rfl⟩
    · simp only [Option.some.injEq] at h; subst h; exact ⟨Try.f38, _, Try.func38, comp38, by kernel_rfl⟩
    · simp only [Option.some.injEq] at h; subst h; exact ⟨Try.f39, _, Try.func39, comp39, by kernel_rfl⟩
    · simp only [Option.some.injEq] at h; subst h; exact ⟨Try.f40, _, Try.func40, comp40, by kernel_rfl⟩
    · simp only [Option.some.injEq] at h; subst h; exact ⟨Try.f41, _, Try.func41, comp41, by kernel_rfl⟩
    · simp only [Option.some.injEq] at h; subst h; exact ⟨Try.f42, _, Try.func42, comp42, by kernel_rfl⟩
    · cases h
  mixed := by kernel_rfl

end Go.Proofs.Ytfphnpelampoeaa

