/- A run on closed arguments. -/
import Derived.KernelRfl
import Derived.Test.YtnppabpbdobaiaaGreatXJ
set_option linter.unusedSimpArgs false
set_option linter.unusedVariables false
set_option maxHeartbeats 2000000
open Nat renaming reduceLeDiff → zeu, reduceEqDiff → zev, reduceAdd → zew
open Int renaming reduceBEq → zex, reduceLT → zey, reduceLE → zez, reduceGT → ze0, reduceGE → ze1, reduceEq → ze2, reduceAdd → ze3, reduceSub → ze4, reduceMul → ze5
section
open Go Go.X Go.Proofs
namespace Go.X
theorem run19:K.kis KZ2 600 44 [] Heap.empty (.bool true) = True:=by kernel_rfl
end Go.X
end
