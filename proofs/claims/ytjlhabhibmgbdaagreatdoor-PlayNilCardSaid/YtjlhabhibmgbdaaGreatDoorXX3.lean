/- A fact of the card. -/
import Derived.Test.YtjlhabhibmgbdaaGreatDoorCards
import Derived.JoinedOf
import Derived.RowKit
import Derived.KernelRfl
import Derived.SevenTiedAt
import Derived.WalkKit
import Derived.ChangeOld
import Derived.Handy
set_option linter.unusedSimpArgs false
set_option linter.unusedVariables false
set_option maxHeartbeats 2000000
open Nat renaming reduceLeDiff → zPT, reduceEqDiff → zPU, reduceAdd → zPV
open Int renaming reduceBEq → zPW, reduceLT → zPX, reduceLE → zPY, reduceGT → zPZ, reduceGE → zPa, reduceEq → zPb, reduceAdd → zPc, reduceSub → zPd, reduceMul → zPe
section
namespace Go.Proofs.YtjlhabhibmgbdaaGreatDoor
open Go
theorem zNW {P:Program} (h:P.funcs.any Func.goes=false) (f:FuncId):P.goes f=false:=by
 unfold Program.goes
 rw[h,Bool.and_false,Bool.or_false,List.any_eq_false]
 intro g _
 cases hg:P.funcs[g]? with
 | none=>simp
 | some fn =>
  rw[Array.any_eq_false] at h
  obtain⟨hi,e⟩:=Array.getElem?_eq_some_iff.1 hg
  have:=h g hi
  rw[e] at this
  simpa using this
theorem cd60:Tryz.prog.funcs.any Func.goes=false:=by kernel_rfl
theorem zNV {P:Program} (h:P.funcs.any Func.goes=false) (s:String):P.goesFrom s=false:=by
 unfold Program.goesFrom
 cases P.funcNamed s with
 | none=>rfl
 | some f=>exact zNW h f
theorem cd6:false=Rows.playNilRow.goesBy Tryz.pinned.checked.prog:=by
 have e:Rows.playNilRow.goesBy Tryz.pinned.checked.prog=(Tryz.prog.goesFrom Rows.playNilRow.func||false):=rfl
 rw[e,Bool.or_false,zNV cd60]
end Go.Proofs.YtjlhabhibmgbdaaGreatDoor
end
