/- A part. -/
import Derived.Test.YtpnjgiplhijhpaaGreatDoorRY36
set_option linter.all false
set_option maxHeartbeats 4000000
namespace Go.Ey.Pr
open Go Go.Ey Go.Ey.Fe Go.RowKit Go.Proofs
set_option maxRecDepth 1000000
theorem zb:fH Ng [16,17,18,19]=true:=by kernel_rfl
theorem zf:fH Ng [20,21,22,23]=true:=by kernel_rfl
def Y0:NT:=[kN 16,kN 17,kN 18,kN 19,kN 20,kN 21,kN 22,kN 23]
theorem ZZ:av PP Y0:=av.cons (bf (au zb (by simp))) (av.cons (bf (au zb (by simp))) (av.cons (bf (au zb (by simp))) (av.cons (bf (au zb (by simp))) (av.cons (bf (au zf (by simp))) (av.cons (bf (au zf (by simp))) (av.cons (bf (au zf (by simp))) (av.cons (bf (au zf (by simp))) (av.nil))))))))
end Go.Ey.Pr
