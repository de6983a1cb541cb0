/-
  The code is the program's: checked by the kernel.
-/
import Derived.Test.YtfphnpelampoeaaEzCodeM
import Derived.Test.YtfphnpelampoeaaEzD
import Derived.Test.YtfphnpelampoeaaChecked
import Derived.KernelRfl
set_option linter.unusedVariables false
set_option linter.unusedSimpArgs false
namespace Go.Proofs.Ytfphnpelampoeaa.Rw
open Go Go.Ez

theorem comp14 : compFn Try.prog shF Try.f14 = some I14 := by kernel_rfl
theorem comp38 : compFn Try.prog shF Try.f38 = some I38 := by kernel_rfl
theorem comp26 : compFn Try.prog shF Try.f26 = some I26 := by kernel_rfl
theorem comp4 : compFn Try.prog shF Try.f4 = some I4 := by kernel_rfl
theorem comp12 : compFn Try.prog shF Try.f12 = some I12 := by kernel_rfl
theorem comp13 : compFn Try.prog shF Try.f13 = some I13 := by kernel_rfl
theorem comp31 : compFn Try.prog shF Try.f31 = some I31 := by kernel_rfl
theorem comp32 : compFn Try.prog shF Try.f32 = some I32 := by kernel_rfl
theorem comp9 : compFn Try.prog shF Try.f9 = some I9 := by kernel_rfl
theorem comp11 : compFn Try.prog shF Try.f11 = some I11 := by kernel_rfl
theorem comp17 : compFn Try.prog shF Try.f17 = some I17 := by kernel_rfl
theorem comp19 : compFn Try.prog shF Try.f19 = some I19 := by kernel_rfl
theorem comp22 : compFn Try.prog shF Try.f22 = some I22 := by kernel_rfl
theorem comp23 : compFn Try.prog shF Try.f23 = some I23 := by kernel_rfl
theorem comp24 : compFn Try.prog shF Try.f24 = some I24 := by kernel_rfl
theorem comp25 : compFn Try.prog shF Try.f25 = some I25 := by kernel_rfl
theorem comp27 : compFn Try.prog shF Try.f27 = some I27 := by kernel_rfl
theorem comp28 : compFn Try.prog shF Try.f28 = some I28 := by kernel_rfl
theorem comp29 : compFn Try.prog shF Try.f29 = some I29 := by kernel_rfl
theorem comp30 : compFn Try.prog shF Try.f30 = some I30 := by kernel_rfl
theorem comp36 : compFn Try.prog shF Try.f36 = some I36 := by kernel_rfl
theorem comp37 : compFn Try.prog shF Try.f37 = some I37 := by kernel_rfl
theorem comp39 : compFn Try.prog shF Try.f39 = some I39 := by kernel_rfl

theorem table {F : Tab} (hc : F.code = code) (hn : ∀ f vs rs, F.nat f vs = some rs → FnOK Try.prog f vs rs) : Table Try.prog shF F where
  nat := hn
  ok := by
    intro f I h
    rw [hc] at h
    unfold code at h
    split at h
    · simp only [Option.some.injEq] at h; subst h; exact ⟨Try.f14, Try.func14, comp14, by kernel_rfl⟩
    · simp only [Option.some.injEq] at h; subst h; exact ⟨Try.f38, Try.func38, comp38, by kernel_rfl⟩
    · simp only [Option.some.injEq] at h; subst h; exact ⟨Try.f26, Try.func26, comp26, by kernel_rfl⟩
    · simp only [Option.some.injEq] at h; subst h; exact ⟨Try.f4, Try.func4, comp4, by kernel_rfl⟩
    · simp only [Option.some.injEq] at h; subst h; exact ⟨Try.f12, Try.func12, comp12, by kernel_rfl⟩
    · simp only [Option.some.injEq] at h; subst h; exact ⟨Try.f13, Try.func13, comp13, by kernel_rfl⟩
    · simp only [Option.some.injEq] at h; subst h; exact ⟨Try.f31, Try.func31, comp31, by kernel_rfl⟩
    · simp only [Option.some.injEq] at h; subst h; exact ⟨Try.f32, Try.func32, comp32, by kernel_rfl⟩
    · simp only [Option.some.injEq] at h; subst h; exact ⟨Try.f9, Try.func9, comp9, by kernel_rfl⟩
    · simp only [Option.some.injEq] at h; subst h; exact ⟨Try.f11, Try.func11, comp11, by kernel_rfl⟩
    · simp only [Option.some.injEq] at h; subst h; exact ⟨Try.f17, Try.func17, comp17, by kernel_rfl⟩
    · simp only [Option.some.injEq] at h; subst h; exact ⟨Try.f19, Try.func19, comp19, by kernel_rfl⟩
    · simp only [Option.some.injEq] at h; subst h; exact ⟨Try.f22, Try.func22, comp22, by kernel_rfl⟩
    · simp only [Option.some.injEq] at h; subst h; exact ⟨Try.f23, Try.func23, comp23, by kernel_rfl⟩
    · simp only [Option.some.injEq] at h; subst h; exact ⟨Try.f24, Try.func24, comp24, by kernel_rfl⟩
    · simp only [Option.some.injEq] at h; subst h; exact ⟨Try.f25, Try.func25, comp25, by kernel_rfl⟩
    · simp only [Option.some.injEq] at h; subst h; exact ⟨Try.f27, Try.func27, comp27, by kernel_rfl⟩
    · simp only [Option.some.injEq] at h; subst h; exact ⟨Try.f28, Try.func28, comp28, by kernel_rfl⟩
    · simp only [Option.some.injEq] at h; subst h; exact ⟨Try.f29, Try.func29, comp29, by kernel_rfl⟩
    · simp only [Option.some.injEq] at h; subst h; exact ⟨Try.f30, Try.func30, comp30, by kernel_rfl⟩
    · simp only [Option.some.injEq] at h; subst h; exact ⟨Try.f36, Try.func36, comp36, by kernel_rfl⟩
    · simp only [Option.some.injEq] at h; subst h; exact ⟨Try.f37, Try.func37, comp37, by kernel_rfl⟩
    · simp only [Option.some.injEq] at h; subst h; exact ⟨Try.f39, Try.func39, comp39, by kernel_rfl⟩
    · cases h
  mixed := by kernel_rfl

end Go.Proofs.Ytfphnpelampoeaa.Rw

