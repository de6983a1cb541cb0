/- A part. -/
import Derived.Test.YtpnjgiplhijhpaaGreatDoorRY28
set_option linter.all false
set_option maxHeartbeats 4000000
namespace Go.Ey.Pr
open Go Go.Ey Go.Ey.Fe Go.RowKit Go.Proofs
set_option maxRecDepth 1000000
theorem Vk:fH rd [0,1]=true:=by kernel_rfl
theorem U1:fH rd [2,3]=true:=by kernel_rfl
theorem Vi:fH rd [4,5]=true:=by kernel_rfl
theorem U6:fH rd [6,7]=true:=by kernel_rfl
def UX:NT:=[dD 0,dD 1,dD 2,dD 3,dD 4,dD 5,dD 6,dD 7]
theorem X4:av PP UX:=av.cons (aL (au Vk (by simp))) (av.cons (aL (au Vk (by simp))) (av.cons (aL (au U1 (by simp))) (av.cons (aL (au U1 (by simp))) (av.cons (aL (au Vi (by simp))) (av.cons (aL (au Vi (by simp))) (av.cons (aL (au U6 (by simp))) (av.cons (aL (au U6 (by simp))) (av.nil))))))))
end Go.Ey.Pr
