/- A part. -/
import Derived.Test.YtpnjgiplhijhpaaGreatDoorRY25
set_option linter.all false
namespace Go.Ey.Pr
open Go.Ey Go.Ey.Rc
theorem wd2:gq VH 4000 4000 11 0 3 6 ws1=.stop ws2:=by kernel_rfl
theorem wd3:gq VH 4000 4000 11 0 3 4 ws2=.stop ws3:=by kernel_rfl
theorem wd4:gq VH 4000 4000 11 0 3 3 ws3=.stop ws4:=by kernel_rfl
end Go.Ey.Pr
