/- Two runs on closed arguments. -/
import Derived.KernelRfl
import Derived.Test.YtbbmklepnfmppaaXD
set_option linter.unusedSimpArgs false
set_option linter.unusedVariables false
set_option maxHeartbeats 2000000
section
open Go Go.X Go.Proofs
namespace Go.X
def isV (v : Value) : Option (Value × Heap) → Bool
  | some (x, _) => zI x v
  | none => false
end Go.X
end
section
open Go Go.X Go.Proofs
namespace Go.X
theorem getP05b : isV (.bool true) (call (Tab Try.prog tabM) 400 4 [] Heap.empty) = true := by kernel_rfl
end Go.X
end
