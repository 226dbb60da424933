/- The statement is run where the bound is below one. -/
import Derived.Test.YtbbmklepnfmppaaGreatDoorXG
set_option linter.unusedSimpArgs false
set_option linter.unusedVariables false
set_option maxHeartbeats 2000000
section
open Go Go.X Go.Proofs Go.RowKit
namespace Go.X
theorem runNil1 (a : Option Addr) (len cap k : Nat) : isV (.bool true) (call (Tab Tryz.prog D3) 600 6 [.slice a len cap, .int .i64 (Int.negSucc k)] (inHeap 1)) = true := by kernel_rfl
theorem runNil2 (a : Option Addr) (len cap : Nat) : isV (.bool true) (call (Tab Tryz.prog D3) 600 6 [.slice a len cap, .int .i64 0] (inHeap 1)) = true := by kernel_rfl
end Go.X
end
