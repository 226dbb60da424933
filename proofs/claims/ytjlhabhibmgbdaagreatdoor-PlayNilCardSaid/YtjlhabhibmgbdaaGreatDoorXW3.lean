/- The row. -/
import Derived.Test.YtjlhabhibmgbdaaGreatDoorXW1
import Derived.Test.YtjlhabhibmgbdaaGreatDoorXW2
set_option linter.unusedSimpArgs false
set_option linter.unusedVariables false
set_option maxHeartbeats 2000000
open Nat renaming reduceLeDiff → zPT, reduceEqDiff → zPU, reduceAdd → zPV
open Int renaming reduceBEq → zPW, reduceLT → zPX, reduceLE → zPY, reduceGT → zPZ, reduceGE → zPa, reduceEq → zPb, reduceAdd → zPc, reduceSub → zPd, reduceMul → zPe
section
namespace Go.Proofs.YtjlhabhibmgbdaaGreatDoor.playNil
open Go.ChangeShapes Go.WideShapes Go.ChangeAt Go.RowKit
theorem over:Rows.PlayNilSaid :=
 OpenClaim.holds_of_wide 3 Tryz.f3 rfl rfl rfl rfl rfl rfl rfl ⟨rfl,rfl,rfl,rfl,rfl⟩ rfl rfl rfl rfl rfl fnamed Tryz.func3 closed inst wrap
  (fun os started H enc _=>lifted os started H enc)
end Go.Proofs.YtjlhabhibmgbdaaGreatDoor.playNil
end
