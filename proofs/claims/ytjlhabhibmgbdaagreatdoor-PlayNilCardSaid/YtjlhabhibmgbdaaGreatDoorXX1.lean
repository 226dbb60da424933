/- Facts of the card. -/
import Derived.Test.YtjlhabhibmgbdaaGreatDoorCards
import Derived.JoinedOf
import Derived.RowKit
import Derived.KernelRfl
import Derived.SevenTiedAt
import Derived.WalkKit
import Derived.ChangeOld
import Derived.Handy
set_option linter.unusedSimpArgs false
set_option linter.unusedVariables false
set_option maxHeartbeats 2000000
open Nat renaming reduceLeDiff → zPT, reduceEqDiff → zPU, reduceAdd → zPV
open Int renaming reduceBEq → zPW, reduceLT → zPX, reduceLE → zPY, reduceGT → zPZ, reduceGE → zPa, reduceEq → zPb, reduceAdd → zPc, reduceSub → zPd, reduceMul → zPe
section
namespace Go.Proofs.YtjlhabhibmgbdaaGreatDoor
open Go
theorem cd1:Rows.playNilRow.wfByText (OpenSpec.ofChange Rows.playNilSpec)=true:=by kernel_rfl
theorem cd2:Tryz.pinned.checked.prog.mainIs=some (true,"6e9abf133e470fd9d42cb40febd6b72963f0fb327169c6215d3a72e47a30913e".toList):=by kernel_rfl
theorem cd3:Tryz.prog.funcNamed "muniment/munimentlaw25.PlayNil"=some 3:=by kernel_rfl
theorem cd4:([3].all fun u=>!Tryz.prog.wantsStandIn u)=true:=by kernel_rfl
end Go.Proofs.YtjlhabhibmgbdaaGreatDoor
end
