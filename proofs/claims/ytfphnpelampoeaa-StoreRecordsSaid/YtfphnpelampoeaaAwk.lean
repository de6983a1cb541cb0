/-
  The example of the chapter.
-/
import Derived.Test.YtfphnpelampoeaaWrd
import Derived.KernelRfl
namespace Go.Proofs.Ytfphnpelampoeaa
open Go Go.Ev

theorem awake_spec : RunF F 10 [] [.one (boolC true)] := RunF.of (n := 2000) (by kernel_rfl)

end Go.Proofs.Ytfphnpelampoeaa
