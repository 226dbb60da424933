/- The row's tie: rows. -/
import Derived.Test.YtjlhabhibmgbdaaGreatDoorXO
set_option linter.unusedSimpArgs false
set_option linter.unusedVariables false
set_option maxHeartbeats 2000000
open Nat renaming reduceLeDiff → zPT, reduceEqDiff → zPU, reduceAdd → zPV
open Int renaming reduceBEq → zPW, reduceLT → zPX, reduceLE → zPY, reduceGT → zPZ, reduceGE → zPa, reduceEq → zPb, reduceAdd → zPc, reduceSub → zPd, reduceMul → zPe
section
namespace Go.Proofs.YtjlhabhibmgbdaaGreatDoor
open Go
theorem ty9:∀os tape,(DataW.laidRun Tryz.prog (varsWorld Tryz.prog 400 (varsId Tryz.prog) os tape).memory 8 (laidP.map (·.1))).map (fun x=>decide x.2.Nodup&&laidRowsB Tryz.prog (varsWorld Tryz.prog 400 (varsId Tryz.prog) os tape).memory x.2)=some true:=fun _ _=>by kernel_rfl
end Go.Proofs.YtjlhabhibmgbdaaGreatDoor
end
