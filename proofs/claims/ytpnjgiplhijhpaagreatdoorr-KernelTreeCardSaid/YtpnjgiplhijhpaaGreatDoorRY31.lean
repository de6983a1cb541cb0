/- A part. -/
import Derived.Test.YtpnjgiplhijhpaaGreatDoorRY28
set_option linter.all false
set_option maxHeartbeats 4000000
namespace Go.Ey.Pr
open Go Go.Ey Go.Ey.Fe Go.RowKit Go.Proofs
set_option maxRecDepth 1000000
theorem UZ:fH rd [8,9]=true:=by kernel_rfl
theorem O5:fH rd [10,11]=true:=by kernel_rfl
theorem Px:fH rd [12,13]=true:=by kernel_rfl
theorem Oy:fH rd [14,15]=true:=by kernel_rfl
def U8:NT:=[dD 8,dD 9,dD 10,dD 11,dD 12,dD 13,dD 14,dD 15]
theorem Xz:av PP U8:=av.cons (aL (au UZ (by simp))) (av.cons (aL (au UZ (by simp))) (av.cons (aL (au O5 (by simp))) (av.cons (aL (au O5 (by simp))) (av.cons (aL (au Px (by simp))) (av.cons (aL (au Px (by simp))) (av.cons (aL (au Oy (by simp))) (av.cons (aL (au Oy (by simp))) (av.nil))))))))
end Go.Ey.Pr
