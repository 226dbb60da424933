/- A run on closed arguments. -/
import Derived.KernelRfl
import Derived.Test.YtjlhabhibmgbdaaGreatDoorXH
set_option linter.unusedSimpArgs false
set_option linter.unusedVariables false
set_option maxHeartbeats 2000000
open Nat renaming reduceLeDiff → zPT, reduceEqDiff → zPU, reduceAdd → zPV
open Int renaming reduceBEq → zPW, reduceLT → zPX, reduceLE → zPY, reduceGT → zPZ, reduceGE → zPa, reduceEq → zPb, reduceAdd → zPc, reduceSub → zPd, reduceMul → zPe
section
open Go Go.X Go.Proofs
namespace Go.X
theorem runP:K.kis KZ2 600 8 [] Heap.empty (.bool true)=((5000<9→False)∧(¬5000<9→True)):=by kernel_rfl
end Go.X
end
