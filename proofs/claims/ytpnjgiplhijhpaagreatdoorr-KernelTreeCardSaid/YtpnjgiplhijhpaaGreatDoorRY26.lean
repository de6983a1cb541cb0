/- A part. -/
import Derived.Test.YtpnjgiplhijhpaaGreatDoorRY25
set_option linter.all false
namespace Go.Ey.Pr
open Go.Ey Go.Ey.Rc
theorem wd1:gq VH 4000 4000 11 0 3 12 ws0=.stop ws1:=by kernel_rfl
theorem wd5:gq VH 4000 4000 11 0 3 3 ws4=.stop ws5:=by kernel_rfl
theorem wd6:(jk VH 4000).hd 11 0 3 ws5=.ret [.c wpK] []:=by kernel_rfl
end Go.Ey.Pr
