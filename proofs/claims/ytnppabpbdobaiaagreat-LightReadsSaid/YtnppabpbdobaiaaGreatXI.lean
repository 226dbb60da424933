/- A run on closed arguments. -/
import Derived.KernelRfl
import Derived.Test.YtnppabpbdobaiaaGreatXH
set_option linter.unusedSimpArgs false
set_option linter.unusedVariables false
set_option maxHeartbeats 2000000
open Nat renaming reduceLeDiff → zdL, reduceEqDiff → zdM, reduceAdd → zdN
open Int renaming reduceBEq → zdO, reduceLT → zdP, reduceLE → zdQ, reduceGT → zdR, reduceGE → zdS, reduceEq → zdT, reduceAdd → zdU, reduceSub → zdV, reduceMul → zdW
section
open Go Go.X Go.Proofs
namespace Go.X
theorem run20:K.kis KZ2 600 37 [] Heap.empty (.bool true)=True:=by kernel_rfl
end Go.X
end
