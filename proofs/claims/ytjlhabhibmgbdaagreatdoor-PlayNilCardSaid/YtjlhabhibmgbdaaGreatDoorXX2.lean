/- A fact of the card. -/
import Derived.Test.YtjlhabhibmgbdaaGreatDoorCards
import Derived.JoinedOf
import Derived.RowKit
import Derived.KernelRfl
import Derived.SevenTiedAt
import Derived.WalkKit
import Derived.ChangeOld
import Derived.Handy
set_option linter.unusedSimpArgs false
set_option linter.unusedVariables false
set_option maxHeartbeats 2000000
open Nat renaming reduceLeDiff → zPT, reduceEqDiff → zPU, reduceAdd → zPV
open Int renaming reduceBEq → zPW, reduceLT → zPX, reduceLE → zPY, reduceGT → zPZ, reduceGE → zPa, reduceEq → zPb, reduceAdd → zPc, reduceSub → zPd, reduceMul → zPe
section
namespace Go.Proofs.YtjlhabhibmgbdaaGreatDoor
open Go
theorem cd5:true=Tryz.pinned.checked.prog.looks []:=by kernel_rfl
end Go.Proofs.YtjlhabhibmgbdaaGreatDoor
end
