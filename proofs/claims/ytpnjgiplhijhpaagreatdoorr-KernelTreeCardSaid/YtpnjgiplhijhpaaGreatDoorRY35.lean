/- A part. -/
import Derived.Test.YtpnjgiplhijhpaaGreatDoorRY28
set_option linter.all false
set_option maxHeartbeats 4000000
namespace Go.Ey.Pr
open Go Go.Ey Go.Ey.Fe Go.RowKit Go.Proofs
set_option maxRecDepth 1000000
theorem RH:fH rd [40,41]=true:=by kernel_rfl
theorem Ql:fH rd [42,43]=true:=by kernel_rfl
theorem Qd:fH rd [44,45]=true:=by kernel_rfl
theorem Ot:fH rd [46,47]=true:=by kernel_rfl
def Vd:NT:=[dD 40,dD 41,dD 42,dD 43,dD 44,dD 45,dD 46,dD 47]
theorem X7:av PP Vd:=av.cons (aL (au RH (by simp))) (av.cons (aL (au RH (by simp))) (av.cons (aL (au Ql (by simp))) (av.cons (aL (au Ql (by simp))) (av.cons (aL (au Qd (by simp))) (av.cons (aL (au Qd (by simp))) (av.cons (aL (au Ot (by simp))) (av.cons (aL (au Ot (by simp))) (av.nil))))))))
end Go.Ey.Pr
