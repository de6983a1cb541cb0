/- A part. -/
import Derived.Test.YtolnnaanmfnkjaaGreatDoorY24
set_option linter.all false
namespace Go.Ey.Pr
open Go.Ey Go.Ey.Rc
theorem wd1:mJ kgC 4000 4000 34 0 3 12 ws0=.stop ws1:=by kernel_rfl
theorem wd3:mJ kgC 4000 4000 34 0 3 4 ws2=.stop ws3:=by kernel_rfl
theorem wd4:mJ kgC 4000 4000 34 0 3 3 ws3=.stop ws4:=by kernel_rfl
end Go.Ey.Pr
