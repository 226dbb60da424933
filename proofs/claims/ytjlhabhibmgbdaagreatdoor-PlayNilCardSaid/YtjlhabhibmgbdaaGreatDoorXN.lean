/- A nil play. -/
import Derived.Test.YtjlhabhibmgbdaaGreatDoorXC
import Derived.Test.YtjlhabhibmgbdaaGreatDoorXK
import Derived.Test.YtjlhabhibmgbdaaGreatDoorXL
import Derived.Test.YtjlhabhibmgbdaaGreatDoorXM
set_option linter.unusedSimpArgs false
set_option linter.unusedVariables false
set_option maxHeartbeats 2000000
open Nat renaming reduceLeDiff → zPT, reduceEqDiff → zPU, reduceAdd → zPV
open Int renaming reduceBEq → zPW, reduceLT → zPX, reduceLE → zPY, reduceGT → zPZ, reduceGE → zPa, reduceEq → zPb, reduceAdd → zPc, reduceSub → zPd, reduceMul → zPe
section
open Go Go.X Go.Proofs Go.RowKit
namespace Go.X
set_option linter.unusedVariables false
theorem flip {q:Prop}:(q→(q→True)∧(¬q→False))∧(¬q→(q→False)∧(¬q→True)):=⟨fun h=>⟨fun _=>True.intro,fun g=>g h⟩,fun h=>⟨fun g=>h g,fun _=>True.intro⟩⟩
theorem nil1 (k:Nat):∃h',call KP1.P 600 3 [.int .i64 (Int.negSucc k)] Heap.empty=some (.bool true,h'):=by
 have:=run1 k
 generalize hp:K.kis KP1 600 3 [.int .i64 (Int.negSucc k)] Heap.empty (.bool true)=p at this
 refine @zD2 KP1 zFG 600 3 [.int .i64 (Int.negSucc k)] Heap.empty (.bool true) p hp.symm ?_
 rw[this]
 exact True.intro
theorem nil2:∃h',call KP1.P 600 3 [.int .i64 0] Heap.empty=some (.bool true,h'):=by
 have:=run2
 generalize hp:K.kis KP1 600 3 [.int .i64 0] Heap.empty (.bool true)=p at this
 refine @zD2 KP1 zFG 600 3 [.int .i64 0] Heap.empty (.bool true) p hp.symm ?_
 rw[this]
 exact True.intro
theorem nil3 (k:Nat):∃h',call KP1.P 600 3 [.int .i64 (Int.ofNat (Nat.succ k))] Heap.empty=some (.bool true,h'):=by
 have:=run3 k
 generalize hp:K.kis KP1 600 3 [.int .i64 (Int.ofNat (Nat.succ k))] Heap.empty (.bool true)=p at this
 refine @zD2 KP1 zFG 600 3 [.int .i64 (Int.ofNat (Nat.succ k))] Heap.empty (.bool true) p hp.symm ?_
 rw[this]
 exact flip
theorem nil_all:∀n:Int,∃h',call KP1.P 600 3 [.int .i64 n] Heap.empty=some (.bool true,h')
 | .negSucc k=>nil1 k
 | .ofNat 0=>nil2
 | .ofNat (k+1)=>nil3 k
theorem walkPlayNil (n:Int) (w:World):Calls Tryz.prog 3 #[.int .i64 n] w fun e w'=>e=.returned (.bool true)∧Below w.heap.size w w':=by
 obtain⟨h',e⟩:=nil_all n
 refine (zG0 (K.TabT.ok pk1) e (.cons (.int _ _) .nil:LRel (fun _=>none) _ [.int .i64 n]) w).mono fun e w' hq=>?_
 obtain⟨v',ρ',rfl,q1,q2,q3⟩:=hq
 exact⟨by rw[zDx (v:=.bool true) rfl q2],q3⟩
end Go.X
end
