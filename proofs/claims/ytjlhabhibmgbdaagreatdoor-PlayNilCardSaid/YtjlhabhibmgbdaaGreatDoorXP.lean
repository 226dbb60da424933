/- The row's tie: the names. -/
import Derived.Test.YtjlhabhibmgbdaaGreatDoorXO
set_option linter.unusedSimpArgs false
set_option linter.unusedVariables false
set_option maxHeartbeats 2000000
open Nat renaming reduceLeDiff → zPT, reduceEqDiff → zPU, reduceAdd → zPV
open Int renaming reduceBEq → zPW, reduceLT → zPX, reduceLE → zPY, reduceGT → zPZ, reduceGE → zPa, reduceEq → zPb, reduceAdd → zPc, reduceSub → zPd, reduceMul → zPe
section
namespace Go.Proofs.YtjlhabhibmgbdaaGreatDoor
open Go
theorem ty6:varsNamedLaterB Tryz.prog (varsId Tryz.prog) laidP=true:=by kernel_rfl
end Go.Proofs.YtjlhabhibmgbdaaGreatDoor
end
