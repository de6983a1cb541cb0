/- A part. -/
import Derived.Test.YtolnnaanmfnkjaaGreatDoorY45
import Derived.KernelRfl
set_option linter.all false
set_option maxHeartbeats 4000000
namespace Go.Ey.Pr
open Go Go.Ey Go.Ey.Seat Go.RowKit Go.Proofs
set_option maxRecDepth 1000000 in
theorem arA:amh (oF FX 300 9 [])=true:=by kernel_rfl
theorem asB:oq PP 9 [] [.one (cb true)]:=xok (ahE arA)
end Go.Ey.Pr
