/- The statement is run where the bound is one or more. -/
import Derived.Test.YtbbmklepnfmppaaGreatDoorXG
set_option linter.unusedSimpArgs false
set_option linter.unusedVariables false
set_option maxHeartbeats 2000000
section
open Go Go.X Go.Proofs Go.RowKit
namespace Go.X
theorem runNil3 (a : Option Addr) (len cap k : Nat) : isV (.bool true) (call (Tab Tryz.prog D3) 600 6 [.slice a len cap, .int .i64 (Int.ofNat (k + 1))] (inHeap 1)) = true := by kernel_rfl
end Go.X
end
