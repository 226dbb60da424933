/- A run on closed arguments. -/
import Derived.KernelRfl
import Derived.Test.YtnppabpbdobaiaaGreatXH
set_option linter.unusedSimpArgs false
set_option linter.unusedVariables false
set_option maxHeartbeats 2000000
open Nat renaming reduceLeDiff → zam, reduceEqDiff → zan, reduceAdd → zao
open Int renaming reduceBEq → zap, reduceLT → zaq, reduceLE → zar, reduceGT → zas, reduceGE → zat, reduceEq → zau, reduceAdd → zav, reduceSub → zaw, reduceMul → zax
section
open Go Go.X Go.Proofs
namespace Go.X
theorem run10:K.kis KZ2 600 22 [] Heap.empty (.bool true)=True:=by kernel_rfl
end Go.X
end
