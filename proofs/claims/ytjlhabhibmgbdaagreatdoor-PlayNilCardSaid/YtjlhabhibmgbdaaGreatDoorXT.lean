/- The row's tie. -/
import Derived.Test.YtjlhabhibmgbdaaGreatDoorXP
import Derived.Test.YtjlhabhibmgbdaaGreatDoorXQ
import Derived.Test.YtjlhabhibmgbdaaGreatDoorXR
import Derived.Test.YtjlhabhibmgbdaaGreatDoorXS
set_option linter.unusedSimpArgs false
set_option linter.unusedVariables false
set_option maxHeartbeats 2000000
open Nat renaming reduceLeDiff → zPT, reduceEqDiff → zPU, reduceAdd → zPV
open Int renaming reduceBEq → zPW, reduceLT → zPX, reduceLE → zPY, reduceGT → zPZ, reduceGE → zPa, reduceEq → zPb, reduceAdd → zPc, reduceSub → zPd, reduceMul → zPe
section
namespace Go.Proofs.YtjlhabhibmgbdaaGreatDoor
open Go
theorem tieP:Tryz.prog.laidByTextLater laidP [.data,.data,.data,.sentinel,.sentinel] true :=
 Program.laidByTextLater_by_run 400 8 ty1 ty2 ty3 ty4 ty5 ty6 ty7 ty8 ty9
theorem rowTieP:Rows.playNilRow.laidByTextAt .later Tryz.pinned [.data,.data,.data,.sentinel,.sentinel] true :=
 OpenClaim.laidByTextAt_later rfl rfl tieP ty0
end Go.Proofs.YtjlhabhibmgbdaaGreatDoor
end
