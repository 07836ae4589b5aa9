/- The law AggrNone, run on an argument that nobody looks at, answers true, as it is reckoned: no condition. -/
import Derived.Test.YtaeamkkbgdcheaaGreatDoorVc
import Derived.Test.YtaeamkkbgdcheaaGreatDoorProg
namespace Go.Proofs.YtaeamkkbgdcheaaGreatDoor.aggrNone
open Go.Vm
set_option maxRecDepth 1000000 in
theorem run : okTrue (xF Tryz.prog 100 (.f 3) [.agg (List.replicate 4 .undef)] []) = true := by kernel_rfl
end Go.Proofs.YtaeamkkbgdcheaaGreatDoor.aggrNone
