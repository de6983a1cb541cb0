/- The tie of the row, fact by fact. -/
import Derived.Test.YtpnjgiplhijhpaaGreatDoorRTa
set_option linter.all false
namespace Go.Proofs.YtpnjgiplhijhpaaGreatDoorR.own
open Go Go.Proofs.YtpnjgiplhijhpaaGreatDoorR
theorem ti9b : ∀ os tape, (DataW.laidRun Tryz.prog (varsWorld Tryz.prog 400 (varsId Tryz.prog) os tape).memory 8 (LL.map (·.1))).map (fun x => laidRowsB Tryz.prog (varsWorld Tryz.prog 400 (varsId Tryz.prog) os tape).memory x.2) = some true := fun _ _ => by kernel_rfl
end Go.Proofs.YtpnjgiplhijhpaaGreatDoorR.own
