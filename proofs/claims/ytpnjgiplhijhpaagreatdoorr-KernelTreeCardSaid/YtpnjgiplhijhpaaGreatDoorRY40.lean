/- A part. -/
import Derived.Test.YtpnjgiplhijhpaaGreatDoorRY36
set_option linter.all false
set_option maxHeartbeats 4000000
namespace Go.Ey.Pr
open Go Go.Ey Go.Ey.Fe Go.RowKit Go.Proofs
set_option maxRecDepth 1000000
theorem yN:fH Ng [32,33,34,35]=true:=by kernel_rfl
theorem yS:fH Ng [36,37,38,39]=true:=by kernel_rfl
def ZT:NT:=[kN 32,kN 33,kN 34,kN 35,kN 36,kN 37,kN 38,kN 39]
theorem Y1:av PP ZT:=av.cons (bf (au yN (by simp))) (av.cons (bf (au yN (by simp))) (av.cons (bf (au yN (by simp))) (av.cons (bf (au yN (by simp))) (av.cons (bf (au yS (by simp))) (av.cons (bf (au yS (by simp))) (av.cons (bf (au yS (by simp))) (av.cons (bf (au yS (by simp))) (av.nil))))))))
end Go.Ey.Pr
