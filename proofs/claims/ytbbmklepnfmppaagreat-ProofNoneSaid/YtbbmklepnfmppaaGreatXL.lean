/- A run on closed arguments. -/
import Derived.Test.YtbbmklepnfmppaaGreatXK
set_option linter.unusedSimpArgs false
set_option linter.unusedVariables false
set_option maxHeartbeats 2000000
section
open Go Go.X Go.Proofs
namespace Go.X
theorem awakeP : isV (.bool true) (call (Tab Tryz.prog Z4) 600 30 [] Heap.empty) = true := by kernel_rfl
end Go.X
end
