/-
  What the functions' code does, written by a tool of ours.
-/
import Derived.Test.YtfphnpelampoeaaK3
import Derived.KernelRfl
namespace Go.Proofs.Ytfphnpelampoeaa
open Go Go.Ev
set_option maxRecDepth 100000
set_option linter.unusedVariables false
set_option linter.unusedSimpArgs false

--DEFS
--END
theorem pow_l_0 (z : List Int) (h : 6 < z.length) (ct kp tn la : Int)   : Gives (fnA F I5 [V.one (C.slice (u16sC z) (List.length z)), V.one (u8C ct), V.one (C.lit (Value.int IntKind.u64 kp)), V.one (C.lit (Value.int IntKind.u64 tn)), V.one (u16C la)] [Ans.ret [V.one (boolC true)], Ans.bit false, Ans.bit true]) [V.one (C.lit (Value.bool true))] :=
  Gives.of (bs := []) [(RunF F 10 [] [V.one (C.lit (Value.bool true))]), (¬(!true) = true), (IntKind.i64 = IntKind.i64), (decide ((↑(List.length z) : Int) > (6 : Int)) = true)] (by kernel_rfl) (by refine ⟨(awake_spec), by decide, by decide, ?_, trivial⟩ <;> (first | (first | assumption | omega | (simp; done) | (simp; omega)) | fail))

end Go.Proofs.Ytfphnpelampoeaa
