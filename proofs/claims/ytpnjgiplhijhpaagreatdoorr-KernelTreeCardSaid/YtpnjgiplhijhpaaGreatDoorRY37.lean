/- A part. -/
import Derived.Test.YtpnjgiplhijhpaaGreatDoorRY36
set_option linter.all false
set_option maxHeartbeats 4000000
namespace Go.Ey.Pr
open Go Go.Ey Go.Ey.Fe Go.RowKit Go.Proofs
set_option maxRecDepth 1000000
theorem DF:fH Ng [0,1,2,3]=true:=by kernel_rfl
theorem En:fH Ng [4,5,6,7]=true:=by kernel_rfl
def aae:NT:=[kN 0,kN 1,kN 2,kN 3,kN 4,kN 5,kN 6,kN 7]
theorem ZY:av PP aae:=av.cons (bf (au DF (by simp))) (av.cons (bf (au DF (by simp))) (av.cons (bf (au DF (by simp))) (av.cons (bf (au DF (by simp))) (av.cons (bf (au En (by simp))) (av.cons (bf (au En (by simp))) (av.cons (bf (au En (by simp))) (av.cons (bf (au En (by simp))) (av.nil))))))))
theorem EL:fH Ng [8,9,10,11]=true:=by kernel_rfl
theorem yU:fH Ng [12,13,14,15]=true:=by kernel_rfl
def Zi:NT:=[kN 8,kN 9,kN 10,kN 11,kN 12,kN 13,kN 14,kN 15]
theorem aaf:av PP Zi:=av.cons (bf (au EL (by simp))) (av.cons (bf (au EL (by simp))) (av.cons (bf (au EL (by simp))) (av.cons (bf (au EL (by simp))) (av.cons (bf (au yU (by simp))) (av.cons (bf (au yU (by simp))) (av.cons (bf (au yU (by simp))) (av.cons (bf (au yU (by simp))) (av.nil))))))))
end Go.Ey.Pr
