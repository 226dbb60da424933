/- Runs for a number below nought. -/
import Derived.KernelRfl
import Derived.Test.YtjlhabhibmgbdaaGreatDoorXJ
set_option linter.unusedSimpArgs false
set_option linter.unusedVariables false
set_option maxHeartbeats 2000000
open Nat renaming reduceLeDiff → zPT, reduceEqDiff → zPU, reduceAdd → zPV
open Int renaming reduceBEq → zPW, reduceLT → zPX, reduceLE → zPY, reduceGT → zPZ, reduceGE → zPa, reduceEq → zPb, reduceAdd → zPc, reduceSub → zPd, reduceMul → zPe
section
open Go Go.X Go.Proofs
namespace Go.X
theorem run1 (k:Nat):K.kis KP1 600 3 [.int .i64 (Int.negSucc k)] Heap.empty (.bool true)=True:=by kernel_rfl
end Go.X
end
