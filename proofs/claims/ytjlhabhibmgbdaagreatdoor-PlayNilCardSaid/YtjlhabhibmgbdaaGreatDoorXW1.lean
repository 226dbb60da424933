/- The facts of the row, joined. -/
import Derived.Test.YtjlhabhibmgbdaaGreatDoorXU
import Derived.Test.YtjlhabhibmgbdaaGreatDoorXV1
import Derived.Test.YtjlhabhibmgbdaaGreatDoorXV2
import Derived.Test.YtjlhabhibmgbdaaGreatDoorXV3
import Derived.Test.YtjlhabhibmgbdaaGreatDoorXV4
import Derived.Test.YtjlhabhibmgbdaaGreatDoorXV5
set_option linter.unusedSimpArgs false
set_option linter.unusedVariables false
set_option maxHeartbeats 2000000
open Nat renaming reduceLeDiff → zPT, reduceEqDiff → zPU, reduceAdd → zPV
open Int renaming reduceBEq → zPW, reduceLT → zPX, reduceLE → zPY, reduceGT → zPZ, reduceGE → zPa, reduceEq → zPb, reduceAdd → zPc, reduceSub → zPd, reduceMul → zPe
section
namespace Go.Proofs.YtjlhabhibmgbdaaGreatDoor.playNil
open Go.ChangeShapes Go.WideShapes Go.ChangeAt Go.RowKit
set_option linter.unusedVariables false
theorem closed:joinedFacts Tryz.pinned.checked.prog 3 Tryz.f3 Rows.playNilSpec Rows.playNilRow=true:=by
 unfold joinedFacts
 rw[j1,j2,j3,j4,j5,j6,j7,j8,j9]
 kernel_rfl
end Go.Proofs.YtjlhabhibmgbdaaGreatDoor.playNil
end
