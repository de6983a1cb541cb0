/- A part. -/
import Derived.Test.YtpnjgiplhijhpaaGreatDoorRY28
set_option linter.all false
set_option maxHeartbeats 4000000
namespace Go.Ey.Pr
open Go Go.Ey Go.Ey.Fe Go.RowKit Go.Proofs
set_option maxRecDepth 1000000
theorem Qv:fH rd [16,17]=true:=by kernel_rfl
theorem PV:fH rd [18,19]=true:=by kernel_rfl
theorem Qs:fH rd [20,21]=true:=by kernel_rfl
theorem Qg:fH rd [22,23]=true:=by kernel_rfl
def Vw:NT:=[dD 16,dD 17,dD 18,dD 19,dD 20,dD 21,dD 22,dD 23]
theorem WG:av PP Vw:=av.cons (aL (au Qv (by simp))) (av.cons (aL (au Qv (by simp))) (av.cons (aL (au PV (by simp))) (av.cons (aL (au PV (by simp))) (av.cons (aL (au Qs (by simp))) (av.cons (aL (au Qs (by simp))) (av.cons (aL (au Qg (by simp))) (av.cons (aL (au Qg (by simp))) (av.nil))))))))
end Go.Ey.Pr
