/- A part. -/
import Derived.Test.YtpnjgiplhijhpaaGreatDoorRY36
set_option linter.all false
set_option maxHeartbeats 4000000
namespace Go.Ey.Pr
open Go Go.Ey Go.Ey.Fe Go.RowKit Go.Proofs
set_option maxRecDepth 1000000
theorem yI:fH Ng [24,25,26,27]=true:=by kernel_rfl
theorem yM:fH Ng [28,29,30,31]=true:=by kernel_rfl
def aa7:NT:=[kN 24,kN 25,kN 26,kN 27,kN 28,kN 29,kN 30,kN 31]
theorem aaI:av PP aa7:=av.cons (bf (au yI (by simp))) (av.cons (bf (au yI (by simp))) (av.cons (bf (au yI (by simp))) (av.cons (bf (au yI (by simp))) (av.cons (bf (au yM (by simp))) (av.cons (bf (au yM (by simp))) (av.cons (bf (au yM (by simp))) (av.cons (bf (au yM (by simp))) (av.nil))))))))
end Go.Ey.Pr
