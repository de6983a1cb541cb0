/- A part. -/
import Derived.Test.YtpnjgiplhijhpaaGreatDoorRY21
set_option linter.all false
namespace Go.Ey.Pr
open Go.Ey Go.Ey.Rc
theorem rd2:gq R7 4000 4000 36 0 3 9 rs1=.stop R6:=by kernel_rfl
theorem rd3:gq R7 4000 4000 36 0 3 8 R6=.stop rs3:=by kernel_rfl
end Go.Ey.Pr
