/- A run on closed arguments. -/
import Derived.KernelRfl
import Derived.Test.YtbbmklepnfmppaaGreatDoorXE
set_option linter.unusedSimpArgs false
set_option linter.unusedVariables false
set_option maxHeartbeats 2000000
section
open Go Go.X Go.Proofs
namespace Go.X
theorem awD : isV (.bool true) (call (Tab Tryz.prog D2) 600 11 [] Heap.empty) = true := by kernel_rfl
end Go.X
end
