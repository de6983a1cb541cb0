/- A part. -/
import Derived.Test.YtpnjgiplhijhpaaGreatDoorRY36
set_option linter.all false
set_option maxHeartbeats 4000000
namespace Go.Ey.Pr
open Go Go.Ey Go.Ey.Fe Go.RowKit Go.Proofs
set_option maxRecDepth 1000000
theorem y8:fH Ng [40,41,42,43]=true:=by kernel_rfl
theorem yJ:fH Ng [44,45,46,47]=true:=by kernel_rfl
def aa9:NT:=[kN 40,kN 41,kN 42,kN 43,kN 44,kN 45,kN 46,kN 47]
theorem abf:av PP aa9:=av.cons (bf (au y8 (by simp))) (av.cons (bf (au y8 (by simp))) (av.cons (bf (au y8 (by simp))) (av.cons (bf (au y8 (by simp))) (av.cons (bf (au yJ (by simp))) (av.cons (bf (au yJ (by simp))) (av.cons (bf (au yJ (by simp))) (av.cons (bf (au yJ (by simp))) (av.nil))))))))
end Go.Ey.Pr
