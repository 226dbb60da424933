/- All of it. -/
import Derived.Test.YtjlhabhibmgbdaaGreatDoorXT
import Derived.Test.YtjlhabhibmgbdaaGreatDoorXW3
import Derived.Test.YtjlhabhibmgbdaaGreatDoorXX1
import Derived.Test.YtjlhabhibmgbdaaGreatDoorXX2
import Derived.Test.YtjlhabhibmgbdaaGreatDoorXX3
set_option linter.unusedSimpArgs false
set_option linter.unusedVariables false
set_option maxHeartbeats 2000000
open Nat renaming reduceLeDiff → zPT, reduceEqDiff → zPU, reduceAdd → zPV
open Int renaming reduceBEq → zPW, reduceLT → zPX, reduceLE → zPY, reduceGT → zPZ, reduceGE → zPa, reduceEq → zPb, reduceAdd → zPc, reduceSub → zPd, reduceMul → zPe
section
namespace Go.Proofs.YtjlhabhibmgbdaaGreatDoor
end Go.Proofs.YtjlhabhibmgbdaaGreatDoor
end
