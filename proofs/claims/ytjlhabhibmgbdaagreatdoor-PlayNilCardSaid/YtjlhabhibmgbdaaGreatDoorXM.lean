/- Runs for numbers above. -/
import Derived.KernelRfl
import Derived.Test.YtjlhabhibmgbdaaGreatDoorXJ
set_option linter.unusedSimpArgs false
set_option linter.unusedVariables false
set_option maxHeartbeats 2000000
open Nat renaming reduceLeDiff → zPT, reduceEqDiff → zPU, reduceAdd → zPV
open Int renaming reduceBEq → zPW, reduceLT → zPX, reduceLE → zPY, reduceGT → zPZ, reduceGE → zPa, reduceEq → zPb, reduceAdd → zPc, reduceSub → zPd, reduceMul → zPe
section
open Go Go.X Go.Proofs
namespace Go.X
theorem run3 (k:Nat):K.kis KP1 600 3 [.int .i64 (Int.ofNat (Nat.succ k))] Heap.empty (.bool true)=((5000<Nat.succ k→(5000<Nat.succ k→True)∧(¬5000<Nat.succ k→False))∧(¬5000<Nat.succ k→(5000<Nat.succ k→False)∧(¬5000<Nat.succ k→True))):=by kernel_rfl
end Go.X
end
