/- A part. -/
import Derived.Test.YtpnjgiplhijhpaaGreatDoorRY28
set_option linter.all false
set_option maxHeartbeats 4000000
namespace Go.Ey.Pr
open Go Go.Ey Go.Ey.Fe Go.RowKit Go.Proofs
set_option maxRecDepth 1000000
theorem OE:fH rd [24,25]=true:=by kernel_rfl
theorem O8:fH rd [26,27]=true:=by kernel_rfl
theorem OI:fH rd [28,29]=true:=by kernel_rfl
theorem P8:fH rd [30,31]=true:=by kernel_rfl
def VN:NT:=[dD 24,dD 25,dD 26,dD 27,dD 28,dD 29,dD 30,dD 31]
theorem Xi:av PP VN:=av.cons (aL (au OE (by simp))) (av.cons (aL (au OE (by simp))) (av.cons (aL (au O8 (by simp))) (av.cons (aL (au O8 (by simp))) (av.cons (aL (au OI (by simp))) (av.cons (aL (au OI (by simp))) (av.cons (aL (au P8 (by simp))) (av.cons (aL (au P8 (by simp))) (av.nil))))))))
end Go.Ey.Pr
