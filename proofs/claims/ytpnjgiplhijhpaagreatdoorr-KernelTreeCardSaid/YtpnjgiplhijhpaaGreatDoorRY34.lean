/- A part. -/
import Derived.Test.YtpnjgiplhijhpaaGreatDoorRY28
set_option linter.all false
set_option maxHeartbeats 4000000
namespace Go.Ey.Pr
open Go Go.Ey Go.Ey.Fe Go.RowKit Go.Proofs
set_option maxRecDepth 1000000
theorem Oh:fH rd [32,33]=true:=by kernel_rfl
theorem Oj:fH rd [34,35]=true:=by kernel_rfl
theorem Rs:fH rd [36,37]=true:=by kernel_rfl
theorem RJ:fH rd [38,39]=true:=by kernel_rfl
def VK:NT:=[dD 32,dD 33,dD 34,dD 35,dD 36,dD 37,dD 38,dD 39]
theorem X0:av PP VK:=av.cons (aL (au Oh (by simp))) (av.cons (aL (au Oh (by simp))) (av.cons (aL (au Oj (by simp))) (av.cons (aL (au Oj (by simp))) (av.cons (aL (au Rs (by simp))) (av.cons (aL (au Rs (by simp))) (av.cons (aL (au RJ (by simp))) (av.cons (aL (au RJ (by simp))) (av.nil))))))))
end Go.Ey.Pr
