/-
  The example of the chapter.
-/
import Derived.Test.YtfphnpelampoeaaWrdM
import Derived.KernelRfl
set_option linter.unusedVariables false
set_option linter.unusedSimpArgs false
namespace Go.Proofs.Ytfphnpelampoeaa
open Go Go.Ev

theorem awake_spec : RunF F 10 [] [.one (boolC true)] := RunF.of (n := 2000) (by kernel_rfl)

end Go.Proofs.Ytfphnpelampoeaa

