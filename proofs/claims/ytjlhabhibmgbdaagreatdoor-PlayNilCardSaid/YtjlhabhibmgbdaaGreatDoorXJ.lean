/- The table with it. -/
import Derived.Test.YtjlhabhibmgbdaaGreatDoorXI
set_option linter.unusedSimpArgs false
set_option linter.unusedVariables false
set_option maxHeartbeats 2000000
open Nat renaming reduceLeDiff → zPT, reduceEqDiff → zPU, reduceAdd → zPV
open Int renaming reduceBEq → zPW, reduceLT → zPX, reduceLE → zPY, reduceGT → zPZ, reduceGE → zPa, reduceEq → zPb, reduceAdd → zPc, reduceSub → zPd, reduceMul → zPe
section
open Go Go.X Go.Proofs Go.RowKit
namespace Go.X
set_option linter.unusedVariables false
theorem Tab.closedT {P:Program} {l:List (Nat×Prim)} {Pg:Prog} (okP:XOK P Pg) (ok:XOK P (Tab P l)) {f n:Nat} {v:Value} {h2:Heap} (hv:zy v=true) (hc:call Pg n f [] Heap.empty=some (v,h2)) {s:List Value→Option Value} (hs:∀args w,s args=some w→args=[]∧w=v):XOK P (Tab P ((f,zg s)::l)):=by
 refine Tab.cons ok fun args h w h' hr=>?_
 unfold zg at hr
 split at hr
 ·rename_i v1 hv1
  cases hr
  obtain⟨rfl,rfl⟩:=hs args _ hv1
  exact⟨zGy okP hc,Nat.le_refl _,zGz okP hc rfl hv h⟩
 ·cases hr
theorem kz2_ok:K.KPOk KZ2.P KZ2.l:=kl_ok
theorem zD2 {k:K.KP} (hK:K.KPOk k.P k.l) {n f:Nat} {args:List Value} {h:Heap} {v:Value} {p:Prop} (hp:p=K.kis k n f args h v) (e:p):∃h',call k.P n f args h=some (v,h'):=K.kis_ok hK (by rw[←hp];exact e)
theorem kaw:∃h',call KZ2.P 600 8 [] Heap.empty=some (.bool true,h'):=by
 have:=runP
 generalize hp:K.kis KZ2 600 8 [] Heap.empty (.bool true)=p at this
 refine @zD2 KZ2 kz2_ok 600 8 [] Heap.empty (.bool true) p hp.symm ?_
 rw[this]
 exact⟨fun h=>by omega,fun _=>True.intro⟩
def P1:List (Nat×Prim):=(8,zg trueS)::Z2
theorem pk1:XOK Tryz.prog (Tab Tryz.prog P1):=by
 obtain⟨h',e⟩:=kaw
 refine Tab.closedT (Pg:=KZ2.P) (K.TabT.ok zk2) zk2 (v:=.bool true) rfl e fun args w hw=>?_
 unfold trueS at hw
 split at hw
 ·cases hw;exact⟨rfl,rfl⟩
 ·cases hw
theorem kl1_ok:K.KPOk (K.TabT Tryz.prog P1) KL :=
 .cons (.cons (.cons .nil (by rfl) K.kfourP_ok) (by rfl) K.ktaggedP_ok) (by rfl) K.kshaP_ok
noncomputable def KP1:K.KP:=⟨K.TabT Tryz.prog P1,KL⟩
theorem zFG:K.KPOk KP1.P KP1.l:=kl1_ok
end Go.X
end
