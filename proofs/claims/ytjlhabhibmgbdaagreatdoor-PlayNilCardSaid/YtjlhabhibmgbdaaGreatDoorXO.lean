/- The row's tie, a fact at a time: the words. -/
import Derived.Test.YtjlhabhibmgbdaaGreatDoorRows
import Derived.LaidByTextLater
import Derived.SevenTiedAt
import Derived.KernelRfl
set_option linter.unusedSimpArgs false
set_option linter.unusedVariables false
set_option maxHeartbeats 2000000
open Nat renaming reduceLeDiff → zPT, reduceEqDiff → zPU, reduceAdd → zPV
open Int renaming reduceBEq → zPW, reduceLT → zPX, reduceLE → zPY, reduceGT → zPZ, reduceGE → zPa, reduceEq → zPb, reduceAdd → zPc, reduceSub → zPd, reduceMul → zPe
section
namespace Go.Proofs.YtjlhabhibmgbdaaGreatDoor
open Go
abbrev laidP:List (String×DataW Unit):=[("internal/strconv.uint64pow10",Rows.laid_internal_strconv_uint64pow10),("math/bits.deBruijn32tab",Rows.laid_math_bits_deBruijn32tab),("math/bits.deBruijn64tab",Rows.laid_math_bits_deBruijn64tab),("strconv.ErrSyntax",Rows.laid_strconv_ErrSyntax),("strconv.ErrRange",Rows.laid_strconv_ErrRange)]
theorem ty0:Tryz.pinned.checked.prog.headLifts.contains "ownunsafe"=false:=by kernel_rfl
theorem ty1:Tryz.prog.worded (varsWordLater true)=true:=by kernel_rfl
theorem ty2:Tryz.prog.worded (varsWordLater !true)=false:=by kernel_rfl
theorem ty3:Tryz.prog.worded rootWordLater=true:=by kernel_rfl
theorem ty4:laidP.map (fun x=>Tryz.prog.kindOfLater x.1)=[LaidKind.data,.data,.data,.sentinel,.sentinel].map some:=by kernel_rfl
theorem ty5:(Tryz.prog.funcNamed "gosem.cut.vars").isSome=true:=by kernel_rfl
end Go.Proofs.YtjlhabhibmgbdaaGreatDoor
end
