/- Proofs are taken. -/
import Derived.Test.YtnppabpbdobaiaaGreatXK
set_option linter.unusedSimpArgs false
set_option linter.unusedVariables false
set_option maxHeartbeats 2000000
open Nat renaming reduceLeDiff → zdL, reduceEqDiff → zdM, reduceAdd → zdN
open Int renaming reduceBEq → zdO, reduceLT → zdP, reduceLE → zdQ, reduceGT → zdR, reduceGE → zdS, reduceEq → zdT, reduceAdd → zdU, reduceSub → zdV, reduceMul → zdW
section
open Go Go.X
namespace Go.X
set_option linter.unusedVariables false
abbrev OpV:=Int×List UInt8×List UInt8
def zAY (o:OpV):List Value:=[.int .i64 o.1,.string (strOf o.2.1),.string (strOf o.2.2)]
def zAm (l:List OpV):List Value:=l.flatMap zAY
theorem zZ7 (l m:List OpV):zAm (l++m)=zAm l++zAm m:=by simp[zAm]
theorem zKV:∀ (l:List OpV) (i:Nat),i<l.length→((zAm l).drop (i*3)).take 3=zAY (l.getD i (0,[],[]))
 | [],i,h=>by simp at h
 | x::l,0,_=>by simp[zAm,zAY]
 | x::l,i+1,h=>by
  have e:zAm (x::l)=zAY x++zAm l:=by simp[zAm]
  have e2:(i+1)*3=(zAY x).length+i*3:=by simp[zAY];omega
  rw[e,e2,←List.drop_drop,List.drop_left,List.getD_cons_succ]
  exact zKV l i (by simpa using h)
theorem Own.at {h:Heap} {S:Nat→Prop} {e n:Nat} {v:Value} {l:List Value} (ho:Own h S e v n l) {i:Nat} (hi:i<n) :
  ∃B o,(∀k:IntKind,zBb e v (.int k (i:Int))=some (.pointer (some ⟨B,o,none⟩)))∧∀h',Own h' S e v n l→∀sp,h'.loadN ⟨B,o,sp⟩ e=some ((l.drop (i*e)).take e):=by
 obtain⟨a,cap,rfl,hs⟩:=ho.shape
 obtain⟨B,off,sp,rfl,_,_⟩:=hs (by omega)
 refine⟨B,off+i*e,fun k=>zK6 hi,fun h' ho' sp'=>?_⟩
 obtain⟨a',cap',e',hs'⟩:=ho'.shape
 cases e'
 obtain⟨B',off',sp'',e'',hl,_⟩:=hs' (by omega)
 cases e''
 exact zF6 (a:=⟨B,off,sp⟩) hl (by
  have:(i+1)*e≤n*e:=Nat.mul_le_mul_right e hi
  rw[Nat.add_mul,Nat.one_mul] at this
  exact this)
def mayP (o:OpV):Bool:=decide (1≤o.2.1.length)&&decide (o.2.1.length≤32)&&decide (o.2.2.length≤64)&&(decide (o.1=1)||decide (o.1=3)||((decide (o.1=2)||decide (o.1=4))&&decide (o.2.2=[])))
theorem zCo (a:Int) (n:Nat):(a==(OfNat.ofNat n:Int))=decide (a=(OfNat.ofNat n:Int)):=by rw[Bool.eq_iff_iff];simp
theorem may_ok (pr:Prog) (h:Heap) (o:OpV) (hk:o.2.1.length≤9223372036854775807) (hv:o.2.2.length≤9223372036854775807):Comes pr xq172 [.agg (zAY o).toArray] h (.bool (mayP o)):=by
 apply Comes.of
 unfold xq172
 dsimp only[zY]
 obtain⟨k,key,val⟩:=o
 have hk:key.length≤9223372036854775807:=hk
 have hv:val.length≤9223372036854775807:=hv
 obtain⟨g,hg,vg,gg,gn⟩:∃g,h.new (zAY (k,key,val))=g∧Var g h.next (zAY (k,key,val))∧Grows h g∧g.next=h.next+1:=⟨_,rfl,Var.new_self,Grows.new,rfl⟩
 have l0:∀sp,g.load ⟨h.next,0,sp⟩=some (.int .i64 k):=fun sp=>vg.load
 have l1:∀sp,g.load ⟨h.next,1,sp⟩=some (.string (strOf key)):=fun sp=>vg.load
 have l2:∀sp,g.load ⟨h.next,2,sp⟩=some (.string (strOf val)):=fun sp=>vg.load
 have cc:cellsOf (.agg (zAY (k,key,val)).toArray)=zAY (k,key,val):=rfl
 have hm:mayP (k,key,val)=(decide (1≤key.length)&&decide (key.length≤32)&&decide (val.length≤64)&&(decide (k=1)||decide (k=3)||((decide (k=2)||decide (k=4))&&decide (val=[])))):=rfl
 rw[hm]
 by_cases c1:(key.length:Int)<1
 ·have d1:decide ((key.length:Int)<1)=true:=decide_eq_true c1
  (repeat (first|refine zS ?_|refine zK ?_|refine zR ?_|refine zD ?_|refine zB ?_|refine zI ?_|refine zJ ?_|refine zP ?_|refine zE ?_|refine zG ?_|refine zF ?_|refine zH (by decide) ?_|refine zQ ?_|((first|refine zC ?_|refine zM ?_|refine zO rfl rfl ?_|refine zN rfl ?_|refine zL ?_);simp only[yq172.down,zA,lemS.down,lemC.down,zdO,zdN,zdL,reduceIte,zdM,zdP,zdQ,zdR,zdS,zdT,zdU,zdV,zdW,reduceCtorEq,lemH.down,cc,hg,l0,l1,l2,d1,zc,Bool.not_true,Bool.not_false])))
  exact⟨.inr rfl,by (rw[show decide (1≤key.length)=false from decide_eq_false (by omega),Bool.false_and,Bool.false_and,Bool.false_and];simp only[yq172.down,zA,lemS.down,lemC.down,zdO,zdN,zdL,reduceIte,zdM,zdP,zdQ,zdR,zdS,zdT,zdU,zdV,zdW,reduceCtorEq])<;>rfl,gg⟩
 ·have d1:decide ((key.length:Int)<1)=false:=decide_eq_false c1
  rw[show decide (1≤key.length)=true from decide_eq_true (by omega),Bool.true_and]
  by_cases c2:(key.length:Int)>32
  ·have d2:decide ((key.length:Int)>32)=true:=decide_eq_true c2
   (repeat (first|refine zS ?_|refine zK ?_|refine zR ?_|refine zD ?_|refine zB ?_|refine zI ?_|refine zJ ?_|refine zP ?_|refine zE ?_|refine zG ?_|refine zF ?_|refine zH (by decide) ?_|refine zQ ?_|((first|refine zC ?_|refine zM ?_|refine zO rfl rfl ?_|refine zN rfl ?_|refine zL ?_);simp only[yq172.down,zA,lemS.down,lemC.down,zdO,zdN,zdL,reduceIte,zdM,zdP,zdQ,zdR,zdS,zdT,zdU,zdV,zdW,reduceCtorEq,lemH.down,cc,hg,l0,l1,l2,d1,d2,zc,Bool.not_true,Bool.not_false])))
   exact⟨.inr rfl,by (rw[show decide (key.length≤32)=false from decide_eq_false (by omega),Bool.false_and,Bool.false_and];simp only[yq172.down,zA,lemS.down,lemC.down,zdO,zdN,zdL,reduceIte,zdM,zdP,zdQ,zdR,zdS,zdT,zdU,zdV,zdW,reduceCtorEq])<;>rfl,gg⟩
  ·have d2:decide ((key.length:Int)>32)=false:=decide_eq_false c2
   rw[show decide (key.length≤32)=true from decide_eq_true (by omega),Bool.true_and]
   by_cases c3:(val.length:Int)>64
   ·have d3:decide ((val.length:Int)>64)=true:=decide_eq_true c3
    (repeat (first|refine zS ?_|refine zK ?_|refine zR ?_|refine zD ?_|refine zB ?_|refine zI ?_|refine zJ ?_|refine zP ?_|refine zE ?_|refine zG ?_|refine zF ?_|refine zH (by decide) ?_|refine zQ ?_|((first|refine zC ?_|refine zM ?_|refine zO rfl rfl ?_|refine zN rfl ?_|refine zL ?_);simp only[yq172.down,zA,lemS.down,lemC.down,zdO,zdN,zdL,reduceIte,zdM,zdP,zdQ,zdR,zdS,zdT,zdU,zdV,zdW,reduceCtorEq,lemH.down,cc,hg,l0,l1,l2,d1,d2,d3,zc,Bool.not_true,Bool.not_false])))
    exact⟨.inr rfl,by (rw[show decide (val.length≤64)=false from decide_eq_false (by omega),Bool.false_and];simp only[yq172.down,zA,lemS.down,lemC.down,zdO,zdN,zdL,reduceIte,zdM,zdP,zdQ,zdR,zdS,zdT,zdU,zdV,zdW,reduceCtorEq])<;>rfl,gg⟩
   ·have d3:decide ((val.length:Int)>64)=false:=decide_eq_false c3
    rw[show decide (val.length≤64)=true from decide_eq_true (by omega),Bool.true_and]
    by_cases q1:k=1
    ·have e1:(k==(1:Int))=true:=by rw[zCo];exact decide_eq_true q1
     have f1:decide (k=1)=true:=decide_eq_true q1
     (repeat (first|refine zS ?_|refine zK ?_|refine zR ?_|refine zD ?_|refine zB ?_|refine zI ?_|refine zJ ?_|refine zP ?_|refine zE ?_|refine zG ?_|refine zF ?_|refine zH (by decide) ?_|refine zQ ?_|((first|refine zC ?_|refine zM ?_|refine zO rfl rfl ?_|refine zN rfl ?_|refine zL ?_);simp only[yq172.down,zA,lemS.down,lemC.down,zdO,zdN,zdL,reduceIte,zdM,zdP,zdQ,zdR,zdS,zdT,zdU,zdV,zdW,reduceCtorEq,lemH.down,cc,hg,l0,l1,l2,d1,d2,d3,e1,zc,Bool.not_true,Bool.not_false])))
     exact⟨.inr rfl,by (rw[f1,Bool.true_or,Bool.true_or];simp only[yq172.down,zA,lemS.down,lemC.down,zdO,zdN,zdL,reduceIte,zdM,zdP,zdQ,zdR,zdS,zdT,zdU,zdV,zdW,reduceCtorEq])<;>rfl,gg⟩
    ·have e1:(k==(1:Int))=false:=by rw[zCo];exact decide_eq_false q1
     have f1:decide (k=1)=false:=decide_eq_false q1
     by_cases q3:k=3
     ·have e3:(k==(3:Int))=true:=by rw[zCo];exact decide_eq_true q3
      have f3:decide (k=3)=true:=decide_eq_true q3
      (repeat (first|refine zS ?_|refine zK ?_|refine zR ?_|refine zD ?_|refine zB ?_|refine zI ?_|refine zJ ?_|refine zP ?_|refine zE ?_|refine zG ?_|refine zF ?_|refine zH (by decide) ?_|refine zQ ?_|((first|refine zC ?_|refine zM ?_|refine zO rfl rfl ?_|refine zN rfl ?_|refine zL ?_);simp only[yq172.down,zA,lemS.down,lemC.down,zdO,zdN,zdL,reduceIte,zdM,zdP,zdQ,zdR,zdS,zdT,zdU,zdV,zdW,reduceCtorEq,lemH.down,cc,hg,l0,l1,l2,d1,d2,d3,e1,e3,zc,Bool.not_true,Bool.not_false])))
      exact⟨.inr rfl,by (rw[f1,f3,Bool.false_or,Bool.true_or];simp only[yq172.down,zA,lemS.down,lemC.down,zdO,zdN,zdL,reduceIte,zdM,zdP,zdQ,zdR,zdS,zdT,zdU,zdV,zdW,reduceCtorEq])<;>rfl,gg⟩
     ·have e3:(k==(3:Int))=false:=by rw[zCo];exact decide_eq_false q3
      have f3:decide (k=3)=false:=decide_eq_false q3
      by_cases q2:k=2
      ·have e2:(k==(2:Int))=true:=by rw[zCo];exact decide_eq_true q2
       have f2:decide (k=2)=true:=decide_eq_true q2
       by_cases q0:val=[]
       ·have v0:(val==([]:List UInt8))=true:=by rw[q0];rfl
        (repeat (first|refine zS ?_|refine zK ?_|refine zR ?_|refine zD ?_|refine zB ?_|refine zI ?_|refine zJ ?_|refine zP ?_|refine zE ?_|refine zG ?_|refine zF ?_|refine zH (by decide) ?_|refine zQ ?_|((first|refine zC ?_|refine zM ?_|refine zO rfl rfl ?_|refine zN rfl ?_|refine zL ?_);simp only[yq172.down,zA,lemS.down,lemC.down,zdO,zdN,zdL,reduceIte,zdM,zdP,zdQ,zdR,zdS,zdT,zdU,zdV,zdW,reduceCtorEq,lemH.down,cc,hg,l0,l1,l2,d1,d2,d3,e1,e3,e2,v0,zc,Bool.not_true,Bool.not_false])))
        exact⟨.inr rfl,by (rw[f1,f3,f2,Bool.false_or,Bool.false_or,Bool.true_or,decide_eq_true q0,Bool.true_and];simp only[yq172.down,zA,lemS.down,lemC.down,zdO,zdN,zdL,reduceIte,zdM,zdP,zdQ,zdR,zdS,zdT,zdU,zdV,zdW,reduceCtorEq])<;>rfl,gg⟩
       ·have v0:(val==([]:List UInt8))=false:=by cases val with|nil=>exact absurd rfl q0|cons a b=>rfl
        (repeat (first|refine zS ?_|refine zK ?_|refine zR ?_|refine zD ?_|refine zB ?_|refine zI ?_|refine zJ ?_|refine zP ?_|refine zE ?_|refine zG ?_|refine zF ?_|refine zH (by decide) ?_|refine zQ ?_|((first|refine zC ?_|refine zM ?_|refine zO rfl rfl ?_|refine zN rfl ?_|refine zL ?_);simp only[yq172.down,zA,lemS.down,lemC.down,zdO,zdN,zdL,reduceIte,zdM,zdP,zdQ,zdR,zdS,zdT,zdU,zdV,zdW,reduceCtorEq,lemH.down,cc,hg,l0,l1,l2,d1,d2,d3,e1,e3,e2,v0,zc,Bool.not_true,Bool.not_false])))
        exact⟨.inr rfl,by (rw[f1,f3,f2,Bool.false_or,Bool.false_or,Bool.true_or,decide_eq_false q0,Bool.and_false];simp only[yq172.down,zA,lemS.down,lemC.down,zdO,zdN,zdL,reduceIte,zdM,zdP,zdQ,zdR,zdS,zdT,zdU,zdV,zdW,reduceCtorEq])<;>rfl,gg⟩
      ·have e2:(k==(2:Int))=false:=by rw[zCo];exact decide_eq_false q2
       have f2:decide (k=2)=false:=decide_eq_false q2
       by_cases q4:k=4
       ·have e4:(k==(4:Int))=true:=by rw[zCo];exact decide_eq_true q4
        have f4:decide (k=4)=true:=decide_eq_true q4
        by_cases q0:val=[]
        ·have v0:(val==([]:List UInt8))=true:=by rw[q0];rfl
         (repeat (first|refine zS ?_|refine zK ?_|refine zR ?_|refine zD ?_|refine zB ?_|refine zI ?_|refine zJ ?_|refine zP ?_|refine zE ?_|refine zG ?_|refine zF ?_|refine zH (by decide) ?_|refine zQ ?_|((first|refine zC ?_|refine zM ?_|refine zO rfl rfl ?_|refine zN rfl ?_|refine zL ?_);simp only[yq172.down,zA,lemS.down,lemC.down,zdO,zdN,zdL,reduceIte,zdM,zdP,zdQ,zdR,zdS,zdT,zdU,zdV,zdW,reduceCtorEq,lemH.down,cc,hg,l0,l1,l2,d1,d2,d3,e1,e3,e2,e4,v0,zc,Bool.not_true,Bool.not_false])))
         exact⟨.inr rfl,by (rw[f1,f3,f2,f4,Bool.false_or,Bool.false_or,Bool.false_or,decide_eq_true q0,Bool.true_and];simp only[yq172.down,zA,lemS.down,lemC.down,zdO,zdN,zdL,reduceIte,zdM,zdP,zdQ,zdR,zdS,zdT,zdU,zdV,zdW,reduceCtorEq])<;>rfl,gg⟩
        ·have v0:(val==([]:List UInt8))=false:=by cases val with|nil=>exact absurd rfl q0|cons a b=>rfl
         (repeat (first|refine zS ?_|refine zK ?_|refine zR ?_|refine zD ?_|refine zB ?_|refine zI ?_|refine zJ ?_|refine zP ?_|refine zE ?_|refine zG ?_|refine zF ?_|refine zH (by decide) ?_|refine zQ ?_|((first|refine zC ?_|refine zM ?_|refine zO rfl rfl ?_|refine zN rfl ?_|refine zL ?_);simp only[yq172.down,zA,lemS.down,lemC.down,zdO,zdN,zdL,reduceIte,zdM,zdP,zdQ,zdR,zdS,zdT,zdU,zdV,zdW,reduceCtorEq,lemH.down,cc,hg,l0,l1,l2,d1,d2,d3,e1,e3,e2,e4,v0,zc,Bool.not_true,Bool.not_false])))
         exact⟨.inr rfl,by (rw[f1,f3,f2,f4,Bool.false_or,Bool.false_or,Bool.false_or,decide_eq_false q0,Bool.and_false];simp only[yq172.down,zA,lemS.down,lemC.down,zdO,zdN,zdL,reduceIte,zdM,zdP,zdQ,zdR,zdS,zdT,zdU,zdV,zdW,reduceCtorEq])<;>rfl,gg⟩
       ·have e4:(k==(4:Int))=false:=by rw[zCo];exact decide_eq_false q4
        have f4:decide (k=4)=false:=decide_eq_false q4
        (repeat (first|refine zS ?_|refine zK ?_|refine zR ?_|refine zD ?_|refine zB ?_|refine zI ?_|refine zJ ?_|refine zP ?_|refine zE ?_|refine zG ?_|refine zF ?_|refine zH (by decide) ?_|refine zQ ?_|((first|refine zC ?_|refine zM ?_|refine zO rfl rfl ?_|refine zN rfl ?_|refine zL ?_);simp only[yq172.down,zA,lemS.down,lemC.down,zdO,zdN,zdL,reduceIte,zdM,zdP,zdQ,zdR,zdS,zdT,zdU,zdV,zdW,reduceCtorEq,lemH.down,cc,hg,l0,l1,l2,d1,d2,d3,e1,e3,e2,e4,zc,Bool.not_true,Bool.not_false])))
        exact⟨.inr rfl,by (rw[f1,f3,f2,f4,Bool.false_or,Bool.false_and,Bool.false_or];simp only[yq172.down,zA,lemS.down,lemC.down,zdO,zdN,zdL,reduceIte,zdM,zdP,zdQ,zdR,zdS,zdT,zdU,zdV,zdW,reduceCtorEq])<;>rfl,gg⟩
end Go.X
end
section
open Go Go.X
namespace Go.X
set_option linter.unusedVariables false
noncomputable def callV (pr:Prog) (v:Value) (args:List Value) (h:Heap):Option (Value×Heap):=match v with
 | .func (.func g) first caps=>cfi pr g (first.toList++args++caps.toList) h
 | .func (.yield l) first caps=>cond (first.isEmpty&&caps.isEmpty) ((cfi pr).yl l args h) none
 | _=>none
theorem zMV {t:Fr} {h:Heap} {i:Nat} {xs:List Operand} {pr:Prog}:zAC (cfi pr) t h (.call (.tmp i) xs)=callV pr (t.get i) (xs.map t.eval) h:=by
 show (match t.get i with|.func (.func g) first caps=>(cfi pr) g (first.toList++xs.map t.eval++caps.toList) h|.func (.yield l) first caps=>cond (first.isEmpty&&caps.isEmpty) ((cfi pr).yl l (xs.map t.eval) h) none|_=>none)=_
 unfold callV
 split<;>simp_all
theorem zKQ {pr:Prog} {g:Nat} {args:List Value} {h:Heap}:callV pr (.func (.func g) #[] #[]) args h=cfi pr g args h:=by simp[callV]
structure zDt (pr:Prog):Prop where
 may:pr.prim 172=none
 mayC:pr.code 172=some xq172
 fn1:pr.prim 171=none
 fn1C:pr.code 171=some xq171
 idx:pr.prim 213=none
 idxC:pr.code 213=some xq213
 con:pr.prim 170=none
 conC:pr.code 170=some xq170
 chk:pr.prim 119=none
 chkC:pr.code 119=some xq119
def okO (o:OpV):Prop:=o.2.1.length≤9223372036854775807∧o.2.2.length≤9223372036854775807
theorem fn1_run {pr:Prog} (T:zDt pr) {h:Heap} {o:OpV} (ho:okO o):∃h',cfi pr 171 [.agg (zAY o).toArray] h=some (.bool (!mayP o),h')∧Grows h h':=by
 have:∃v h',cfi pr 171 [.agg (zAY o).toArray] h=some (v,h')∧v=.bool (!mayP o)∧Grows h h':=by
  refine zq T.fn1 T.fn1C rfl ?_
  unfold xq171
  dsimp only[zY]
  refine wpk.out (k:=[]) ?_
  obtain⟨g,hg,vg,gg,gn⟩:∃g,h.new (zAY o)=g∧Var g h.next (zAY o)∧Grows h g∧g.next=h.next+1:=⟨_,rfl,Var.new_self,Grows.new,rfl⟩
  have cc:cellsOf (.agg (zAY o).toArray)=zAY o:=rfl
  have ld:∀sp,g.loadN ⟨h.next,0,sp⟩ 3=some (zAY o):=fun sp=>vg.loadAll rfl
  obtain⟨g2,e2,gg2⟩:=zaE T.may T.mayC rfl (may_ok pr g o ho.1 ho.2)
  (repeat (first|refine zS ?_|refine zK ?_|refine zR ?_|refine zD ?_|refine zB ?_|refine zI ?_|refine zJ ?_|refine zP ?_|refine zE ?_|refine zG ?_|refine zF ?_|refine zH (by decide) ?_|refine zQ ?_|((first|refine zC ?_|refine zM ?_|refine zO rfl rfl ?_|refine zN rfl ?_|refine zL ?_);simp only[yq171.down,zA,lemS.down,lemC.down,zdO,zdN,zdL,reduceIte,zdM,zdP,zdQ,zdR,zdS,zdT,zdU,zdV,zdW,reduceCtorEq,lemH.down,cc,hg,ld,e2])))
  exact⟨.inr rfl,_,by (simp only[yq171.down,zA,lemS.down,lemC.down,zdO,zdN,zdL,reduceIte,zdM,zdP,zdQ,zdR,zdS,zdT,zdU,zdV,zdW,reduceCtorEq,zy,zAQ,resX,zAf])<;>rfl,rfl,gg.trans gg2⟩
 obtain⟨v,h',e,rfl,q⟩:=this
 exact⟨h',e,q⟩
def badO (l:List OpV):Bool:=l.any fun o=>!mayP o
theorem idx_run {pr:Prog} (T:zDt pr) {h:Heap} {S:Nat→Prop} {v:Value} {l:List OpV} (ho:Own h S 3 v l.length (zAm l)) (hl:∀o∈l,okO o) (hlen:l.length≤1000000) :
  ∃w h',cfi pr 213 [v,.func (.func 171) #[] #[]] h=some (w,h')∧(∃i:Int,w=.int .i64 i∧decide (i≥0)=badO l)∧Grows h h':=by
 refine zq T.idx T.idxC rfl ?_
 unfold xq213
 dsimp only[zY]
 refine wpk.out (k:=[]) ?_
 have lv:=ho.lenV
 (repeat (first|refine zS ?_|refine zK ?_|refine zR ?_|refine zD ?_|refine zB ?_|refine zI ?_|refine zJ ?_|refine zP ?_|refine zE ?_|refine zG ?_|refine zF ?_|refine zH (by decide) ?_|refine zQ ?_|((first|refine zC ?_|refine zM ?_|refine zO rfl rfl ?_|refine zN rfl ?_|refine zL ?_);simp only[yq213.down,zA,lemS.down,lemC.down,zdO,zdN,zdL,reduceIte,zdM,zdP,zdQ,zdR,zdS,zdT,zdU,zdV,zdW,reduceCtorEq,lemH.down,lv])))
 refine zAU (fun m t g=>∃i,m=l.length - i∧i≤l.length∧(∀j,j<i→mayP (l.getD j (0,[],[]))=true)∧Grows h g∧t.get 0=v∧t.get 1=.func (.func 171) #[] #[]∧t.get 7=.int .i64 (l.length:Int)∧t.get 8=.int .i64 (i:Int)) ?_ l.length _ _ ⟨0,rfl,by omega,by simp,Grows.refl h,by simp only[yq213.down,zA,lemS.down,lemC.down,zdO,zdN,zdL,reduceIte,zdM,zdP,zdQ,zdR,zdS,zdT,zdU,zdV,zdW,reduceCtorEq],by simp only[yq213.down,zA,lemS.down,lemC.down,zdO,zdN,zdL,reduceIte,zdM,zdP,zdQ,zdR,zdS,zdT,zdU,zdV,zdW,reduceCtorEq],by simp only[yq213.down,zA,lemS.down,lemC.down,zdO,zdN,zdL,reduceIte,zdM,zdP,zdQ,zdR,zdS,zdT,zdU,zdV,zdW,reduceCtorEq],by (simp only[yq213.down,zA,lemS.down,lemC.down,zdO,zdN,zdL,reduceIte,zdM,zdP,zdQ,zdR,zdS,zdT,zdU,zdV,zdW,reduceCtorEq])<;>rfl⟩
 rintro m t g ⟨i,rfl,hi,hall,gg,t0,t1,t7,t8⟩ hnext
 refine xq213_7k ?_
 dsimp only[zJT]
 have og:=ho.grow gg
 (repeat (first|refine zS ?_|refine zK ?_|refine zR ?_|refine zD ?_|refine zB ?_|refine zI ?_|refine zJ ?_|refine zP ?_|refine zE ?_|refine zG ?_|refine zF ?_|refine zH (by decide) ?_|refine zQ ?_|((first|refine zC ?_|refine zM ?_|refine zO rfl rfl ?_|refine zN rfl ?_|refine zL ?_);simp only[yq213.down,zA,lemS.down,lemC.down,zdO,zdN,zdL,reduceIte,zdM,zdP,zdQ,zdR,zdS,zdT,zdU,zdV,zdW,reduceCtorEq,lemH.down,t0,t1,t7,t8])))
 refine⟨fun hlt=>?_,fun hge=>?_⟩
 ·have hi':i<l.length:=by omega
  obtain⟨B,o,ia,ld⟩:=og.at hi'
  have ld:=ld g og
  rw[zKV l i hi'] at ld
  have hm:l.getD i (0,[],[])∈l:=by rw[List.getD_eq_getElem?_getD,List.getElem?_eq_getElem hi'];exact List.getElem_mem hi'
  obtain⟨x,ex⟩:∃x,l.getD i (0,[],[])=x:=⟨_,rfl⟩
  rw[ex] at ld hm
  obtain⟨g2,e2,gg2⟩:=fn1_run T (h:=g) (hl x hm)
  have w1:IntKind.i64.wrap ((i:Int)+1)=((i+1:Nat):Int):=by rw[wrap_i64 (by omega) (by omega)];omega
  cases hb:mayP x with
  | true =>
   rw[hb] at e2
   (repeat (first|refine zS ?_|refine zK ?_|refine zR ?_|refine zD ?_|refine zB ?_|refine zI ?_|refine zJ ?_|refine zP ?_|refine zE ?_|refine zG ?_|refine zF ?_|refine zH (by decide) ?_|refine zQ ?_|((first|refine zC ?_|refine zM ?_|refine zO rfl rfl ?_|refine zN rfl ?_|refine zL ?_);simp only[yq213.down,zA,lemS.down,lemC.down,zdO,zdN,zdL,reduceIte,zdM,zdP,zdQ,zdR,zdS,zdT,zdU,zdV,zdW,reduceCtorEq,lemH.down,t0,t1,t7,t8,zAd,ia,ld,zMV,zKQ,e2,w1,Bool.not_true])))
   exact hnext (l.length - (i+1)) _ _ (by omega) ⟨i+1,rfl,by omega,fun j hj=>by
    rcases Nat.lt_or_ge j i with q|q
    ·exact hall j q
    ·obtain rfl:j=i:=by omega
     rw[ex];exact hb,gg.trans gg2,by simp only[yq213.down,zA,lemS.down,lemC.down,zdO,zdN,zdL,reduceIte,zdM,zdP,zdQ,zdR,zdS,zdT,zdU,zdV,zdW,reduceCtorEq,t0],by simp only[yq213.down,zA,lemS.down,lemC.down,zdO,zdN,zdL,reduceIte,zdM,zdP,zdQ,zdR,zdS,zdT,zdU,zdV,zdW,reduceCtorEq,t1],by simp only[yq213.down,zA,lemS.down,lemC.down,zdO,zdN,zdL,reduceIte,zdM,zdP,zdQ,zdR,zdS,zdT,zdU,zdV,zdW,reduceCtorEq,t7],by (simp only[yq213.down,zA,lemS.down,lemC.down,zdO,zdN,zdL,reduceIte,zdM,zdP,zdQ,zdR,zdS,zdT,zdU,zdV,zdW,reduceCtorEq])<;>rfl⟩
  | false =>
   rw[hb] at e2
   (repeat (first|refine zS ?_|refine zK ?_|refine zR ?_|refine zD ?_|refine zB ?_|refine zI ?_|refine zJ ?_|refine zP ?_|refine zE ?_|refine zG ?_|refine zF ?_|refine zH (by decide) ?_|refine zQ ?_|((first|refine zC ?_|refine zM ?_|refine zO rfl rfl ?_|refine zN rfl ?_|refine zL ?_);simp only[yq213.down,zA,lemS.down,lemC.down,zdO,zdN,zdL,reduceIte,zdM,zdP,zdQ,zdR,zdS,zdT,zdU,zdV,zdW,reduceCtorEq,lemH.down,t0,t1,t7,t8,zAd,ia,ld,zMV,zKQ,e2,Bool.not_false])))
   refine⟨.inr rfl,_,by (simp only[yq213.down,zA,lemS.down,lemC.down,zdO,zdN,zdL,reduceIte,zdM,zdP,zdQ,zdR,zdS,zdT,zdU,zdV,zdW,reduceCtorEq,zy,zAQ,resX,zAf])<;>rfl,⟨(i:Int),rfl,?_⟩,gg.trans gg2⟩
   have:badO l=true:=List.any_eq_true.2 ⟨x,hm,by rw[hb];rfl⟩
   rw[this]
   simp
 ·have hi':i=l.length:=by omega
  (repeat (first|refine zS ?_|refine zK ?_|refine zR ?_|refine zD ?_|refine zB ?_|refine zI ?_|refine zJ ?_|refine zP ?_|refine zE ?_|refine zG ?_|refine zF ?_|refine zH (by decide) ?_|refine zQ ?_|((first|refine zC ?_|refine zM ?_|refine zO rfl rfl ?_|refine zN rfl ?_|refine zL ?_);simp only[yq213.down,zA,lemS.down,lemC.down,zdO,zdN,zdL,reduceIte,zdM,zdP,zdQ,zdR,zdS,zdT,zdU,zdV,zdW,reduceCtorEq,lemH.down,t0,t1,t7,t8])))
  refine⟨.inr rfl,_,by (simp only[yq213.down,zA,lemS.down,lemC.down,zdO,zdN,zdL,reduceIte,zdM,zdP,zdQ,zdR,zdS,zdT,zdU,zdV,zdW,reduceCtorEq,zy,zAQ,resX,zAf])<;>rfl,⟨-1,rfl,?_⟩,gg⟩
  have:badO l=false:=by
   unfold badO
   rw[List.any_eq_false]
   intro x hx
   obtain⟨j,hj,rfl⟩:=List.mem_iff_getElem.1 hx
   have:=hall j (by omega)
   rw[List.getD_eq_getElem?_getD,List.getElem?_eq_getElem hj] at this
   simpa using this
  rw[this]
  rfl
def txE (n:Nat) (l:List OpV):Nat:=if n<1∨l.length<1∨8<l.length∨badO l=true then 40 else 0
theorem con_run {pr:Prog} (T:zDt pr) {h:Heap} {S:Nat→Prop} {v:Value} {l:List OpV} (ho:Own h S 3 v l.length (zAm l)) (hl:∀o∈l,okO o) (hlen:l.length≤1000000) :
  ∃h',cfi pr 170 [v,.func (.func 171) #[] #[]] h=some (.bool (badO l),h')∧Grows h h':=by
 have:∃w h',cfi pr 170 [v,.func (.func 171) #[] #[]] h=some (w,h')∧w=.bool (badO l)∧Grows h h':=by
  refine zq T.con T.conC rfl ?_
  unfold xq170
  dsimp only[zY]
  refine wpk.out (k:=[]) ?_
  obtain⟨w,g,e,⟨i,rfl,hi⟩,gg⟩:=idx_run T ho hl hlen
  (repeat (first|refine zS ?_|refine zK ?_|refine zR ?_|refine zD ?_|refine zB ?_|refine zI ?_|refine zJ ?_|refine zP ?_|refine zE ?_|refine zG ?_|refine zF ?_|refine zH (by decide) ?_|refine zQ ?_|((first|refine zC ?_|refine zM ?_|refine zO rfl rfl ?_|refine zN rfl ?_|refine zL ?_);simp only[yq170.down,zA,lemS.down,lemC.down,zdO,zdN,zdL,reduceIte,zdM,zdP,zdQ,zdR,zdS,zdT,zdU,zdV,zdW,reduceCtorEq,lemH.down,e,hi])))
  exact⟨.inr rfl,_,by (simp only[yq170.down,zA,lemS.down,lemC.down,zdO,zdN,zdL,reduceIte,zdM,zdP,zdQ,zdR,zdS,zdT,zdU,zdV,zdW,reduceCtorEq,zy,zAQ,resX,zAf])<;>rfl,rfl,gg⟩
 obtain⟨w,h',e,rfl,q⟩:=this
 exact⟨h',e,q⟩
end Go.X
end
section
open Go Go.X
namespace Go.X
set_option linter.unusedVariables false
theorem zKo {t:Fr} {f:Nat}:Fr.eval t (.func f)=.func (.func f) #[] #[]:=rfl
theorem zZl {pr:Prog} (T:zDt pr) {h:Heap} {S:Nat→Prop} {v:Value} {l:List OpV} {c:Int} {n:Nat} (ho:Own h S 3 v l.length (zAm l)) (hl:∀o∈l,okO o) (hlen:l.length≤1000000) :
  ∃h',cfi pr 119 [.agg [.int .u64 c,.int .u64 (n:Int),v].toArray] h=some (.int .i64 (txE n l:Int),h')∧Grows h h':=by
 have:∃w h',cfi pr 119 [.agg [.int .u64 c,.int .u64 (n:Int),v].toArray] h=some (w,h')∧w=.int .i64 (txE n l:Int)∧Grows h h':=by
  refine zq T.chk T.chkC rfl ?_
  unfold xq119
  dsimp only[zY]
  refine wpk.out (k:=[]) ?_
  obtain⟨g,hg,vg,gg,gn⟩:∃g,h.new [.int .u64 c,.int .u64 (n:Int),v]=g∧Var g h.next [.int .u64 c,.int .u64 (n:Int),v]∧Grows h g∧g.next=h.next+1:=⟨_,rfl,Var.new_self,Grows.new,rfl⟩
  have cc:cellsOf (.agg [.int .u64 c,.int .u64 (n:Int),v].toArray)=[.int .u64 c,.int .u64 (n:Int),v]:=rfl
  have l1:∀sp,g.load ⟨h.next,1,sp⟩=some (.int .u64 (n:Int)):=fun sp=>vg.load
  have l2:∀sp,g.load ⟨h.next,2,sp⟩=some v:=fun sp=>vg.load
  have lv:=ho.lenV
  obtain⟨g2,e2,gg2⟩:=con_run T (ho.grow gg) hl hlen
  by_cases c1:n<1
  ·have d1:decide ((n:Int)<1)=true:=decide_eq_true (by omega)
   have e:txE n l=40:=if_pos (.inl c1)
   rw[e]
   (repeat (first|refine zS ?_|refine zK ?_|refine zR ?_|refine zD ?_|refine zB ?_|refine zI ?_|refine zJ ?_|refine zP ?_|refine zE ?_|refine zG ?_|refine zF ?_|refine zH (by decide) ?_|refine zQ ?_|((first|refine zC ?_|refine zM ?_|refine zO rfl rfl ?_|refine zN rfl ?_|refine zL ?_);simp only[yq119.down,zA,lemS.down,lemC.down,zdO,zdN,zdL,reduceIte,zdM,zdP,zdQ,zdR,zdS,zdT,zdU,zdV,zdW,reduceCtorEq,lemH.down,cc,hg,l1,l2,lv,d1,zc])))
   exact⟨.inr rfl,_,by (simp only[yq119.down,zA,lemS.down,lemC.down,zdO,zdN,zdL,reduceIte,zdM,zdP,zdQ,zdR,zdS,zdT,zdU,zdV,zdW,reduceCtorEq,zy,zAQ,resX,zAf])<;>rfl,rfl,gg⟩
  ·have d1:decide ((n:Int)<1)=false:=decide_eq_false (by omega)
   by_cases c2:l.length<1
   ·have d2:decide ((l.length:Int)<1)=true:=decide_eq_true (by omega)
    have e:txE n l=40:=if_pos (.inr (.inl c2))
    rw[e]
    (repeat (first|refine zS ?_|refine zK ?_|refine zR ?_|refine zD ?_|refine zB ?_|refine zI ?_|refine zJ ?_|refine zP ?_|refine zE ?_|refine zG ?_|refine zF ?_|refine zH (by decide) ?_|refine zQ ?_|((first|refine zC ?_|refine zM ?_|refine zO rfl rfl ?_|refine zN rfl ?_|refine zL ?_);simp only[yq119.down,zA,lemS.down,lemC.down,zdO,zdN,zdL,reduceIte,zdM,zdP,zdQ,zdR,zdS,zdT,zdU,zdV,zdW,reduceCtorEq,lemH.down,cc,hg,l1,l2,lv,d1,d2,zc])))
    exact⟨.inr rfl,_,by (simp only[yq119.down,zA,lemS.down,lemC.down,zdO,zdN,zdL,reduceIte,zdM,zdP,zdQ,zdR,zdS,zdT,zdU,zdV,zdW,reduceCtorEq,zy,zAQ,resX,zAf])<;>rfl,rfl,gg⟩
   ·have d2:decide ((l.length:Int)<1)=false:=decide_eq_false (by omega)
    by_cases c3:8<l.length
    ·have d3:decide ((l.length:Int)>8)=true:=decide_eq_true (by omega)
     have e:txE n l=40:=if_pos (.inr (.inr (.inl c3)))
     rw[e]
     (repeat (first|refine zS ?_|refine zK ?_|refine zR ?_|refine zD ?_|refine zB ?_|refine zI ?_|refine zJ ?_|refine zP ?_|refine zE ?_|refine zG ?_|refine zF ?_|refine zH (by decide) ?_|refine zQ ?_|((first|refine zC ?_|refine zM ?_|refine zO rfl rfl ?_|refine zN rfl ?_|refine zL ?_);simp only[yq119.down,zA,lemS.down,lemC.down,zdO,zdN,zdL,reduceIte,zdM,zdP,zdQ,zdR,zdS,zdT,zdU,zdV,zdW,reduceCtorEq,lemH.down,cc,hg,l1,l2,lv,d1,d2,d3,zc])))
     exact⟨.inr rfl,_,by (simp only[yq119.down,zA,lemS.down,lemC.down,zdO,zdN,zdL,reduceIte,zdM,zdP,zdQ,zdR,zdS,zdT,zdU,zdV,zdW,reduceCtorEq,zy,zAQ,resX,zAf])<;>rfl,rfl,gg⟩
    ·have d3:decide ((l.length:Int)>8)=false:=decide_eq_false (by omega)
     cases hb:badO l with
     | true =>
      rw[hb] at e2
      have e:txE n l=40:=if_pos (.inr (.inr (.inr hb)))
      rw[e]
      (repeat (first|refine zS ?_|refine zK ?_|refine zR ?_|refine zD ?_|refine zB ?_|refine zI ?_|refine zJ ?_|refine zP ?_|refine zE ?_|refine zG ?_|refine zF ?_|refine zH (by decide) ?_|refine zQ ?_|((first|refine zC ?_|refine zM ?_|refine zO rfl rfl ?_|refine zN rfl ?_|refine zL ?_);simp only[yq119.down,zA,lemS.down,lemC.down,zdO,zdN,zdL,reduceIte,zdM,zdP,zdQ,zdR,zdS,zdT,zdU,zdV,zdW,reduceCtorEq,lemH.down,cc,hg,l1,l2,lv,d1,d2,d3,zc,zKo,e2])))
      exact⟨.inr rfl,_,by (simp only[yq119.down,zA,lemS.down,lemC.down,zdO,zdN,zdL,reduceIte,zdM,zdP,zdQ,zdR,zdS,zdT,zdU,zdV,zdW,reduceCtorEq,zy,zAQ,resX,zAf])<;>rfl,rfl,gg.trans gg2⟩
     | false =>
      rw[hb] at e2
      have e:txE n l=0:=if_neg fun q=>by
       rcases q with q|q|q|q
       ·exact c1 q
       ·exact c2 q
       ·exact c3 q
       ·rw[hb] at q;cases q
      rw[e]
      (repeat (first|refine zS ?_|refine zK ?_|refine zR ?_|refine zD ?_|refine zB ?_|refine zI ?_|refine zJ ?_|refine zP ?_|refine zE ?_|refine zG ?_|refine zF ?_|refine zH (by decide) ?_|refine zQ ?_|((first|refine zC ?_|refine zM ?_|refine zO rfl rfl ?_|refine zN rfl ?_|refine zL ?_);simp only[yq119.down,zA,lemS.down,lemC.down,zdO,zdN,zdL,reduceIte,zdM,zdP,zdQ,zdR,zdS,zdT,zdU,zdV,zdW,reduceCtorEq,lemH.down,cc,hg,l1,l2,lv,d1,d2,d3,zc,zKo,e2])))
      exact⟨.inr rfl,_,by (simp only[yq119.down,zA,lemS.down,lemC.down,zdO,zdN,zdL,reduceIte,zdM,zdP,zdQ,zdR,zdS,zdT,zdU,zdV,zdW,reduceCtorEq,zy,zAQ,resX,zAf])<;>rfl,rfl,gg.trans gg2⟩
 obtain⟨w,h',e,rfl,q⟩:=this
 exact⟨h',e,q⟩
end Go.X
end
section
open Go Go.X
namespace Go.X
set_option linter.unusedVariables false
theorem Own.pushOp {g:Heap} {S:Nat→Prop} {v:Value} {n:Nat} {q:List OpV} (hO:Own g S 3 v n (zAm q)) (x:OpV) (hroom:(n+1)*40≤zT) :
  ∃v' g',zAi (g.new (zAY x)) 3 40 v (.slice (some ⟨g.next,0,none⟩) 1 1)=some (v',g')∧Own g' (fun A=>S A∨g.next≤A) 3 v' (n+1) (zAm (q++[x]))∧Keeps S g g':=by
 have hO1:=hO.grow (Grows.new (l:=zAY x))
 have hs1:=(Var.new_self (h:=g) (l:=zAY x)).src (n:=1) (esz:=3) (bytes:=40) (s:=v) (sp:=none) (c:=1) rfl (by decide)
 obtain⟨v',g2,e2,hO2,k2⟩:=hO1.append (bytes:=40) (m:=1) (new:=zAY x) rfl rfl (by decide) (by decide) hroom
 have hk:Keeps S g g2:=(Keeps.new (W:=S)).trans k2 (fun _ _ e=>e)
 refine⟨v',g2,by rw[hs1,e2],?_,hk⟩
 have e:zAm q++zAY x=zAm (q++[x]):=by rw[zZ7];simp[zAm]
 rw[e] at hO2
 exact hO2.mono fun A hA=>hA.imp id fun q=>by
  have:(g.new (zAY x)).next=g.next+1:=rfl
  omega
def opR (r:RS):RS×OpV:=((zAI (zAI (zU r 1).1 32).1 64).1,(((zU r 1).2:Int),(zAI (zU r 1).1 32).2,(zAI (zAI (zU r 1).1 32).1 64).2))
def zBu:Nat→RS→List OpV→RS×List OpV
 | 0,r,acc=>(r,acc)
 | n+1,r,acc=>if r.err=0 then zBu n (opR r).1 (acc++[(opR r).2]) else (r,acc)
structure TxV where
 c:Nat
 n:Nat
 ops:List OpV
def zBI:TxV:=⟨0,0,[]⟩
def txX (r:RS):RS×TxV :=
 ((zBu (zl (zU (zU r 8).1 8).1 8).2 (zl (zU (zU r 8).1 8).1 8).1 []).1,⟨(zU r 8).2,(zU (zU r 8).1 8).2,(zBu (zl (zU (zU r 8).1 8).1 8).2 (zl (zU (zU r 8).1 8).1 8).1 []).2⟩)
def txQ (p:RS×TxV):RS×TxV:=if p.1.err=0 then (if txE p.2.n p.2.ops=0 then p else (⟨p.1.s,p.1.pos,40⟩,zBI)) else (p.1,zBI)
def txR (r:RS):RS×TxV:=txQ (txX r)
def zIp (x:TxV) (v:Value):List Value:=[.int .u64 (x.c:Int),.int .u64 (x.n:Int),v]
theorem zFl (r:RS) (m:Nat):(zl r m).2≤m:=by
 unfold zl
 split
 ·exact Nat.zero_le _
 ·split
  ·exact Nat.zero_le _
  ·omega
theorem zMh (r:RS) (m:Nat):(zAI r m).2.length≤m:=Nat.le_trans (zFd _ _) (zFl r m)
theorem opR_ok (r:RS):okO (opR r).2:=by
 have e:opR r=((zAI (zAI (zU r 1).1 32).1 64).1,(((zU r 1).2:Int),(zAI (zU r 1).1 32).2,(zAI (zAI (zU r 1).1 32).1 64).2)):=rfl
 rw[e]
 have h1:=zMh (zU r 1).1 32
 have h2:=zMh (zAI (zU r 1).1 32).1 64
 generalize zAI (zAI (zU r 1).1 32).1 64=y at *
 generalize zAI (zU r 1).1 32=x at *
 exact⟨by show x.2.length≤_;omega,by show y.2.length≤_;omega⟩
structure TTab (pr:Prog):Prop where
 wire:zAL pr
 tx:zDt pr
 tk:pr.prim 107=none
 tkC:pr.code 107=some xq107
theorem TT_run {pr:Prog} (T:TTab pr) {h:Heap} {R:Nat} {r:RS} (hr:Rd h R r) :
  ∃w h',cfi pr 107 [.pointer (some ⟨R,0,none⟩)] h=some (w,h')∧∃v,w=.agg (zIp (txR r).2 v).toArray∧Rd h' R (txR r).1∧Own h' (fun A=>h.next≤A) 3 v (txR r).2.ops.length (zAm (txR r).2.ops)∧(∀o∈(txR r).2.ops,okO o)∧(txR r).2.ops.length≤8∧Keeps (fun A=>A=R) h h':=by
 have hr64:zT=140737488355328:=rfl
 refine zq T.tk T.tkC rfl ?_
 unfold xq107
 dsimp only[zY]
 refine wpk.out (k:=[]) ?_
 have hR:R<h.next:=hr.2.1
 obtain⟨ga,hga,va,gga,gna⟩:=box5 (h:=h) [.int .u64 0,.int .u64 0,.slice none 0 0]
 obtain⟨gb,eb,rb,kb⟩:=zB4 T.wire (hr.grow gga) 8 (by decide)
 have eb:cfi pr 89 [.pointer (some ⟨R,0,none⟩),.int .i64 8] ga=some (uw .u64 (zU r 8).2,gb):=eb
 obtain⟨gc,ec,rc,kc⟩:=zB4 T.wire rb 8 (by decide)
 have ec:cfi pr 89 [.pointer (some ⟨R,0,none⟩),.int .i64 8] gb=some (uw .u64 (zU (zU r 8).1 8).2,gc):=ec
 rw[←zBj (zEJ r (k:=8) (by decide))] at eb
 rw[←zBj (zEJ _ (k:=8) (by decide))] at ec
 obtain⟨gd,hgd,vd,ggd,gnd⟩:=box5 (h:=gc) [.int .u64 0,.int .u64 0,.slice none 0 0]
 obtain⟨c,hc⟩:∃c,(zU r 8).2=c:=⟨_,rfl⟩
 obtain⟨n,hn⟩:∃n,(zU (zU r 8).1 8).2=n:=⟨_,rfl⟩
 obtain⟨rq,hq⟩:∃rq,(zU (zU r 8).1 8).1=rq:=⟨_,rfl⟩
 have eX:txX r=((zBu (zl rq 8).2 (zl rq 8).1 []).1,⟨c,n,(zBu (zl rq 8).2 (zl rq 8).1 []).2⟩):=by unfold txX;rw[hc,hn,hq]
 rw[hc] at eb
 rw[hn] at ec
 rw[hq] at rc
 have fl:z8 [.int .u64 0,.int .u64 0,.slice none 0 0] [(0,1,.int .u64 (c:Int)),(1,1,.int .u64 (n:Int))]=some [.int .u64 (c:Int),.int .u64 (n:Int),.slice none 0 0]:=rfl
 have st:zj gd 3 (.pointer (some ⟨gc.next,0,none⟩)) (.agg [.int .u64 (c:Int),.int .u64 (n:Int),.slice none 0 0].toArray)=some (.tuple #[],gd.wr gc.next [.int .u64 (c:Int),.int .u64 (n:Int),.slice none 0 0]):=vd.storeAll rfl rfl (by decide) rfl
 obtain⟨ge,hge⟩:∃ge,gd.wr gc.next [.int .u64 (c:Int),.int .u64 (n:Int),.slice none 0 0]=ge:=⟨_,rfl⟩
 have ve:Var ge gc.next [.int .u64 (c:Int),.int .u64 (n:Int),.slice none 0 0]:=by rw[←hge];exact vd.wr
 have kde:Keeps (fun A=>A=gc.next) gd ge:=by rw[←hge];exact Keeps.wr
 rw[hge] at st
 have kac:Keeps (fun A=>A=R) ga gc:=kb.trans kc (fun _ _ q=>q)
 have nac:=kac.next
 have nde:=kde.next
 have va2:=((va.keep kac (fun q=>by omega)).grow ggd).keep kde (fun q=>by omega)
 have re:=(rc.grow ggd).keep kde (fun q=>by omega)
 have khe:Keeps (fun A=>A=R) h ge:=((gga.keeps.trans kac (fun _ _ q=>q)).trans ggd.keeps (fun _ _ q=>q)).trans kde (fun A hA q=>by omega)
 obtain⟨gf,ef,rf,kf⟩:=zDs T.wire re 8 (by decide)
 have ef:cfi pr 108 [.pointer (some ⟨R,0,none⟩),.int .i64 8] ge=some (.int .i64 ((zl rq 8).2:Int),gf):=ef
 have nef:=kf.next
 have hcm:=zFl rq 8
 obtain⟨B,hB⟩:∃B,gc.next=B:=⟨_,rfl⟩
 rw[hB] at st ve gnd kde nac
 (repeat (first|refine zS ?_|refine zK ?_|refine zR ?_|refine zD ?_|refine zB ?_|refine zI ?_|refine zJ ?_|refine zP ?_|refine zE ?_|refine zG ?_|refine zF ?_|refine zH (by decide) ?_|refine zQ ?_|((first|refine zC ?_|refine zM ?_|refine zO rfl rfl ?_|refine zN rfl ?_|refine zL ?_);simp only[yq107.down,zA,lemS.down,lemC.down,zdO,zdN,zdL,reduceIte,zdM,zdP,zdQ,zdR,zdS,zdT,zdU,zdV,zdW,reduceCtorEq,lemH.down,hga,gna,eb,ec,fl,hgd,hB,st,ef])))
 have hBh:h.next<B:=by omega
 obtain⟨Z,hZ⟩:∃Z,zBu (zl rq 8).2 (zl rq 8).1 []=Z:=⟨_,rfl⟩
 have eZ:txR r=txQ (Z.1,⟨c,n,Z.2⟩):=by rw[txR,eX,hZ]
 refine zAU (fun m t g=>∃r2 acc v,m+acc.length≤8∧zBu m r2 acc=Z∧Rd g R r2∧Own g (fun A=>B<A) 3 v acc.length (zAm acc)∧(∀o∈acc,okO o)∧Var g h.next [.int .u64 0,.int .u64 0,.slice none 0 0]∧Var g B [.int .u64 (c:Int),.int .u64 (n:Int),v]∧Keeps (fun A=>A=R) h g∧B<g.next∧t.get 0=.pointer (some ⟨R,0,none⟩)∧t.get 2=.pointer (some ⟨h.next,0,none⟩)∧t.get 3=.pointer (some ⟨B,0,none⟩)∧t.get 4=.int .i64 (m:Int)) ?_ (zl rq 8).2 _ _
   ⟨_,[],_,by simp;omega,hZ,rf,Own.nil,by simp,va2.keep kf (fun q=>by omega),ve.keep kf (fun q=>by omega),khe.trans kf (fun _ _ q=>q),by omega,by simp only[yq107.down,zA,lemS.down,lemC.down,zdO,zdN,zdL,reduceIte,zdM,zdP,zdQ,zdR,zdS,zdT,zdU,zdV,zdW,reduceCtorEq],by simp only[yq107.down,zA,lemS.down,lemC.down,zdO,zdN,zdL,reduceIte,zdM,zdP,zdQ,zdR,zdS,zdT,zdU,zdV,zdW,reduceCtorEq],by simp only[yq107.down,zA,lemS.down,lemC.down,zdO,zdN,zdL,reduceIte,zdM,zdP,zdQ,zdR,zdS,zdT,zdU,zdV,zdW,reduceCtorEq],by simp only[yq107.down,zA,lemS.down,lemC.down,zdO,zdN,zdL,reduceIte,zdM,zdP,zdQ,zdR,zdS,zdT,zdU,zdV,zdW,reduceCtorEq]⟩
 clear hga va gga gna eb rb kb ec rc kc hgd vd ggd gnd hc hn hq eX fl st hge ve kde kac nac nde va2 re khe ef rf kf nef hcm hB hZ hr
 rintro m t g ⟨r2,acc,v,hm,hL,rd,oc,hin,vz,vb,kk,gn,t0,t2,t3,t4⟩ hnext
 refine xq107_6k ?_
 dsimp only[zJD]
 have er:=zAW T.wire rd
 obtain⟨av,cv,rfl,_⟩:=oc.shape
 have eM:zBu m r2 acc=(r2,acc)→txR r=txQ (r2,⟨c,n,acc⟩):=fun e=>by rw[eZ,←hL,e]
 have stz:∀g,Var g h.next [.int .u64 0,.int .u64 0,.slice none 0 0]→zj g 3 (.pointer (some ⟨h.next,0,none⟩)) (.agg [.int .u64 0,.int .u64 0,.slice none 0 0].toArray)=some (.tuple #[],g.wr h.next [.int .u64 0,.int .u64 0,.slice none 0 0]):=fun g v=>v.storeAll rfl rfl (by decide) rfl
 have ld:∀sp,g.loadN ⟨B,0,sp⟩ 3=some [.int .u64 (c:Int),.int .u64 (n:Int),.slice av acc.length cv]:=fun sp=>vb.loadAll rfl
 cases m with
 | zero =>
  have eQ:=eM rfl
  by_cases c0:r2.err=0
  ·have b0:((r2.err:Int)==0)=true:=by rw[c0];rfl
   obtain⟨gg,em,gr⟩:=zZl (c:=(c:Int)) (n:=n) T.tx oc hin (by omega)
   by_cases c1:txE n acc=0
   ·rw[c1] at em
    obtain⟨gi,ei,ri,ki⟩:=zDI T.wire (rd.grow gr) 0
    have ei:cfi pr 151 [.pointer (some ⟨R,0,none⟩),.int .i64 0] gg=some (.tuple #[],gi):=ei
    rw[if_pos c0] at ri
    have ri:Rd gi R r2:=by obtain⟨s,p,e⟩:=r2;simp only at c0;subst c0;exact ri
    have eri:=zAW T.wire ri
    have vbi:=(vb.grow gr).keep ki (fun q=>by omega)
    have vzi:=(vz.grow gr).keep ki (fun q=>by omega)
    have ldi:∀sp,gi.loadN ⟨B,0,sp⟩ 3=some [.int .u64 (c:Int),.int .u64 (n:Int),.slice av acc.length cv]:=fun sp=>vbi.loadAll rfl
    have sti:zj gi 3 (.pointer (some ⟨h.next,0,none⟩)) (.agg [.int .u64 (c:Int),.int .u64 (n:Int),.slice av acc.length cv].toArray)=some (.tuple #[],gi.wr h.next [.int .u64 (c:Int),.int .u64 (n:Int),.slice av acc.length cv]):=vzi.storeAll rfl rfl (by decide) rfl
    (repeat (first|refine zS ?_|refine zK ?_|refine zR ?_|refine zD ?_|refine zB ?_|refine zI ?_|refine zJ ?_|refine zP ?_|refine zE ?_|refine zG ?_|refine zF ?_|refine zH (by decide) ?_|refine zQ ?_|((first|refine zC ?_|refine zM ?_|refine zO rfl rfl ?_|refine zN rfl ?_|refine zL ?_);simp only[yq107.down,zA,lemS.down,lemC.down,zdO,zdN,zdL,reduceIte,zdM,zdP,zdQ,zdR,zdS,zdT,zdU,zdV,zdW,reduceCtorEq,lemH.down,t0,t2,t3,t4,zc,er,b0,ld,em,ei,eri,ldi,sti,Bool.not_true,Bool.not_false])))
    have eR:txR r=(r2,⟨c,n,acc⟩):=by rw[eQ];simp[txQ,c0,c1]
    rw[eR]
    refine⟨.inr rfl,_,zAv (a:=⟨h.next,0,none⟩) (by simp only[yq107.down,zA,lemS.down,lemC.down,zdO,zdN,zdL,reduceIte,zdM,zdP,zdQ,zdR,zdS,zdT,zdU,zdV,zdW,reduceCtorEq,t2]) (vzi.wr.loadAll rfl),_,rfl,ri.keep Keeps.wr (by omega),(((oc.grow gr).keep ki (fun A hA q=>by omega)).keep Keeps.wr (fun A hA q=>by omega)).mono (fun A hA=>by omega),hin,by show acc.length≤8;omega,((kk.trans gr.keeps (fun _ _ q=>q)).trans ki (fun _ _ q=>q)).trans Keeps.wr (fun A hA q=>by omega)⟩
   ·have c2:txE n acc=40:=by
     unfold txE at c1 ⊢
     split
     ·rfl
     ·rename_i q;exact absurd (if_neg q) c1
    rw[c2] at em
    obtain⟨gi,ei,ri,ki⟩:=zDI T.wire (rd.grow gr) 40
    have ei:cfi pr 151 [.pointer (some ⟨R,0,none⟩),.int .i64 40] gg=some (.tuple #[],gi):=ei
    rw[if_pos c0] at ri
    have eri:=zAW T.wire ri
    have vzi:=(vz.grow gr).keep ki (fun q=>by omega)
    have sti:=stz gi vzi
    (repeat (first|refine zS ?_|refine zK ?_|refine zR ?_|refine zD ?_|refine zB ?_|refine zI ?_|refine zJ ?_|refine zP ?_|refine zE ?_|refine zG ?_|refine zF ?_|refine zH (by decide) ?_|refine zQ ?_|((first|refine zC ?_|refine zM ?_|refine zO rfl rfl ?_|refine zN rfl ?_|refine zL ?_);simp only[yq107.down,zA,lemS.down,lemC.down,zdO,zdN,zdL,reduceIte,zdM,zdP,zdQ,zdR,zdS,zdT,zdU,zdV,zdW,reduceCtorEq,lemH.down,t0,t2,t3,t4,zc,er,b0,ld,em,ei,eri,zAs,sti,Bool.not_true,Bool.not_false])))
    have eR:txR r=(⟨r2.s,r2.pos,40⟩,zBI):=by rw[eQ];simp[txQ,c0,c2]
    rw[eR]
    refine⟨.inr rfl,_,zAv (a:=⟨h.next,0,none⟩) (by simp only[yq107.down,zA,lemS.down,lemC.down,zdO,zdN,zdL,reduceIte,zdM,zdP,zdQ,zdR,zdS,zdT,zdU,zdV,zdW,reduceCtorEq,t2]) (vzi.wr.loadAll rfl),.slice none 0 0,rfl,ri.keep Keeps.wr (by omega),Own.nil,by simp[zBI],by simp[zBI],((kk.trans gr.keeps (fun _ _ q=>q)).trans ki (fun _ _ q=>q)).trans Keeps.wr (fun A hA q=>by omega)⟩
  ·have b0:((r2.err:Int)==0)=false:=by rw[beq_eq_false_iff_ne];omega
   have sti:=stz g vz
   (repeat (first|refine zS ?_|refine zK ?_|refine zR ?_|refine zD ?_|refine zB ?_|refine zI ?_|refine zJ ?_|refine zP ?_|refine zE ?_|refine zG ?_|refine zF ?_|refine zH (by decide) ?_|refine zQ ?_|((first|refine zC ?_|refine zM ?_|refine zO rfl rfl ?_|refine zN rfl ?_|refine zL ?_);simp only[yq107.down,zA,lemS.down,lemC.down,zdO,zdN,zdL,reduceIte,zdM,zdP,zdQ,zdR,zdS,zdT,zdU,zdV,zdW,reduceCtorEq,lemH.down,t0,t2,t3,t4,zc,er,b0,zAs,sti,Bool.not_true,Bool.not_false])))
   have eR:txR r=(r2,zBI):=by rw[eQ];simp[txQ,c0]
   rw[eR]
   refine⟨.inr rfl,_,zAv (a:=⟨h.next,0,none⟩) (by simp only[yq107.down,zA,lemS.down,lemC.down,zdO,zdN,zdL,reduceIte,zdM,zdP,zdQ,zdR,zdS,zdT,zdU,zdV,zdW,reduceCtorEq,t2]) (vz.wr.loadAll rfl),.slice none 0 0,rfl,rd.keep Keeps.wr (by omega),Own.nil,by simp[zBI],by simp[zBI],kk.trans Keeps.wr (fun A hA q=>by omega)⟩
 | succ m =>
  have d0:decide (((m+1:Nat):Int)>0)=true:=decide_eq_true (by omega)
  by_cases c0:r2.err=0
  ·have b0:((r2.err:Int)==0)=true:=by rw[c0];rfl
   have hoo:=opR_ok r2
   have hn2:=zC4 r2
   obtain⟨g1,e1,rd1,k1⟩:=zB4 T.wire rd 1 (by decide)
   obtain⟨a,ha⟩:∃a,zU r2 1=a:=⟨_,rfl⟩
   have e1:cfi pr 89 [.pointer (some ⟨R,0,none⟩),.int .i64 1] g=some (uw .u64 (zU r2 1).2,g1):=e1
   rw[ha] at e1 rd1 hn2
   have ci:=ci64 (n:=a.2) (by omega)
   obtain⟨g2,e2,rd2,k2⟩:=zFR T.wire rd1 32 (by omega)
   obtain⟨b,hb⟩:∃b,zAI a.1 32=b:=⟨_,rfl⟩
   rw[hb] at e2 rd2
   have e2:cfi pr 87 [.pointer (some ⟨R,0,none⟩),.int .i64 32] g1=some (.string (strOf b.2),g2):=e2
   obtain⟨g3,e3,rd3,k3⟩:=zFR T.wire rd2 64 (by omega)
   obtain⟨d,hd⟩:∃d,zAI b.1 64=d:=⟨_,rfl⟩
   rw[hd] at e3 rd3
   have e3:cfi pr 87 [.pointer (some ⟨R,0,none⟩),.int .i64 64] g2=some (.string (strOf d.2),g3):=e3
   have eo:opR r2=(d.1,((a.2:Int),b.2,d.2)):=by unfold opR;rw[ha,hb,hd]
   rw[eo] at hoo
   have hL2:zBu m d.1 (acc++[((a.2:Int),b.2,d.2)])=Z:=by
    rw[←hL]
    conv=>rhs;unfold zBu
    rw[if_pos c0,eo]
   clear ha hb hd eo
   have k12:Keeps (fun A=>A=R) g g2:=k1.trans k2 (fun _ _ q=>q)
   have k13:Keeps (fun A=>A=R) g g3:=k12.trans k3 (fun _ _ q=>q)
   have oc3:=oc.keep k13 (fun A hA q=>by omega)
   obtain⟨v2,g4,e4,oc4,k4⟩:=oc3.pushOp ((a.2:Int),b.2,d.2) (by omega)
   have e4:zAi (g3.new [.int .i64 (a.2:Int),.string (strOf b.2),.string (strOf d.2)]) 3 40 (.slice av acc.length cv) (.slice (some ⟨g3.next,0,none⟩) 1 1)=some (v2,g4):=e4
   have n13:=k13.next
   have n4:=k4.next
   have l0:∀sp,g.load ⟨B,2,sp⟩=some (.slice av acc.length cv):=fun sp=>vb.load
   have vb1:=vb.keep k1 (fun q=>by omega)
   have vb2:=vb.keep k12 (fun q=>by omega)
   have vb3:=vb.keep k13 (fun q=>by omega)
   have l1:∀sp,g1.load ⟨B,2,sp⟩=some (.slice av acc.length cv):=fun sp=>vb1.load
   have l2:∀sp,g2.load ⟨B,2,sp⟩=some (.slice av acc.length cv):=fun sp=>vb2.load
   have l3:∀sp,(g3.new [.int .i64 (a.2:Int),.string (strOf b.2),.string (strOf d.2)]).load ⟨B,2,sp⟩=some (.slice av acc.length cv):=fun sp=>(vb3.grow Grows.new).load
   have l3':∀sp,g3.load ⟨B,2,sp⟩=some (.slice av acc.length cv):=fun sp=>vb3.load
   have vb4:=vb3.keep k4 (fun q=>by omega)
   have vz4:=(vz.keep k13 (fun q=>by omega)).keep k4 (fun q=>by omega)
   have st4:zj g4 1 (.pointer (some ⟨B,2,none⟩)) v2=some (.tuple #[],g4.wr B [.int .u64 (c:Int),.int .u64 (n:Int),v2]):=oc4.store vb4 (by show 2<3;decide)
   have fl1:z8 [.int .i64 0,.string (strOf []),.string (strOf [])] [(0,1,.int .i64 (a.2:Int)),(1,1,.string (strOf b.2)),(2,1,.string (strOf d.2))]=some [.int .i64 (a.2:Int),.string (strOf b.2),.string (strOf d.2)]:=rfl
   have fl2:z8 [.int .i64 0,.string (strOf []),.string (strOf [])] [(0,3,.agg [.int .i64 (a.2:Int),.string (strOf b.2),.string (strOf d.2)].toArray)]=some [.int .i64 (a.2:Int),.string (strOf b.2),.string (strOf d.2)]:=rfl
   have wn:IntKind.i64.wrap (((m+1:Nat):Int) - 1)=(m:Int):=by rw[wrap_i64 (by omega) (by omega)];omega
   (repeat (first|refine zS ?_|refine zK ?_|refine zR ?_|refine zD ?_|refine zB ?_|refine zI ?_|refine zJ ?_|refine zP ?_|refine zE ?_|refine zG ?_|refine zF ?_|refine zH (by decide) ?_|refine zQ ?_|((first|refine zC ?_|refine zM ?_|refine zO rfl rfl ?_|refine zN rfl ?_|refine zL ?_);simp only[yq107.down,zA,lemS.down,lemC.down,zdO,zdN,zdL,reduceIte,zdM,zdP,zdQ,zdR,zdS,zdT,zdU,zdV,zdW,reduceCtorEq,lemH.down,t0,t2,t3,t4,d0,zc,er,b0,l0,e1,ci,e2,e3,fl1,fl2,e4,st4,wn])))
   refine⟨?_,?_,?_,?_⟩
   ·(refine zA4 rfl rfl rfl ?_ ?_<;>simp only[yq107.down,zA,lemS.down,lemC.down,zdO,zdN,zdL,reduceIte,zdM,zdP,zdQ,zdR,zdS,zdT,zdU,zdV,zdW,reduceCtorEq,l1,l0,zA1,zAz,zA2,zA0,zAq,Option.isSome_some])
   ·(refine zA4 rfl rfl rfl ?_ ?_<;>simp only[yq107.down,zA,lemS.down,lemC.down,zdO,zdN,zdL,reduceIte,zdM,zdP,zdQ,zdR,zdS,zdT,zdU,zdV,zdW,reduceCtorEq,l2,l0,zA1,zAz,zA2,zA0,zAq,Option.isSome_some])
   ·(refine zA4 rfl rfl rfl ?_ ?_<;>simp only[yq107.down,zA,lemS.down,lemC.down,zdO,zdN,zdL,reduceIte,zdM,zdP,zdQ,zdR,zdS,zdT,zdU,zdV,zdW,reduceCtorEq,l3,l0,zA1,zAz,zA2,zA0,zAq,Option.isSome_some])
   (repeat (first|refine zS ?_|refine zK ?_|refine zR ?_|refine zD ?_|refine zB ?_|refine zI ?_|refine zJ ?_|refine zP ?_|refine zE ?_|refine zG ?_|refine zF ?_|refine zH (by decide) ?_|refine zQ ?_|((first|refine zC ?_|refine zM ?_|refine zO rfl rfl ?_|refine zN rfl ?_|refine zL ?_);simp only[yq107.down,zA,lemS.down,lemC.down,zdO,zdN,zdL,reduceIte,zdM,zdP,zdQ,zdR,zdS,zdT,zdU,zdV,zdW,reduceCtorEq,lemH.down,t0,t2,t3,t4,wn,st4])))
   refine hnext m _ _ (Nat.lt_succ_self m) ⟨d.1,acc++[((a.2:Int),b.2,d.2)],v2,by simp;omega,hL2,(rd3.keep k4 (fun q=>by omega)).keep Keeps.wr (by omega),?_,?_,vz4.wr_ne (by omega),vb4.wr,((kk.trans k13 (fun _ _ q=>q)).trans k4 (fun A hA q=>by omega)).trans Keeps.wr (fun A hA q=>by omega),by show B<g4.next;omega,by simp only[yq107.down,zA,lemS.down,lemC.down,zdO,zdN,zdL,reduceIte,zdM,zdP,zdQ,zdR,zdS,zdT,zdU,zdV,zdW,reduceCtorEq,t0],by simp only[yq107.down,zA,lemS.down,lemC.down,zdO,zdN,zdL,reduceIte,zdM,zdP,zdQ,zdR,zdS,zdT,zdU,zdV,zdW,reduceCtorEq,t2],by simp only[yq107.down,zA,lemS.down,lemC.down,zdO,zdN,zdL,reduceIte,zdM,zdP,zdQ,zdR,zdS,zdT,zdU,zdV,zdW,reduceCtorEq,t3],by (simp only[yq107.down,zA,lemS.down,lemC.down,zdO,zdN,zdL,reduceIte,zdM,zdP,zdQ,zdR,zdS,zdT,zdU,zdV,zdW,reduceCtorEq])<;>rfl⟩
   ·rw[List.length_append]
    exact (oc4.bound.keep (Keeps.wr (A:=B)) (fun A hA q=>by have:=hA.1;omega)).mono fun A hA=>by have:=hA.1;omega
   ·intro x hx
    rcases List.mem_append.1 hx with q|q
    ·exact hin x q
    ·rw[List.mem_singleton.1 q];exact hoo
  ·have b0:((r2.err:Int)==0)=false:=by rw[beq_eq_false_iff_ne];omega
   have eQ:=eM (by unfold zBu;rw[if_neg c0])
   have sti:=stz g vz
   (repeat (first|refine zS ?_|refine zK ?_|refine zR ?_|refine zD ?_|refine zB ?_|refine zI ?_|refine zJ ?_|refine zP ?_|refine zE ?_|refine zG ?_|refine zF ?_|refine zH (by decide) ?_|refine zQ ?_|((first|refine zC ?_|refine zM ?_|refine zO rfl rfl ?_|refine zN rfl ?_|refine zL ?_);simp only[yq107.down,zA,lemS.down,lemC.down,zdO,zdN,zdL,reduceIte,zdM,zdP,zdQ,zdR,zdS,zdT,zdU,zdV,zdW,reduceCtorEq,lemH.down,t0,t2,t3,t4,d0,zc,er,b0,zAs,sti,Bool.not_true,Bool.not_false])))
   have eR:txR r=(r2,zBI):=by rw[eQ];simp[txQ,c0]
   rw[eR]
   refine⟨.inr rfl,_,zAv (a:=⟨h.next,0,none⟩) (by simp only[yq107.down,zA,lemS.down,lemC.down,zdO,zdN,zdL,reduceIte,zdM,zdP,zdQ,zdR,zdS,zdT,zdU,zdV,zdW,reduceCtorEq,t2]) (vz.wr.loadAll rfl),.slice none 0 0,rfl,rd.keep Keeps.wr (by omega),Own.nil,by simp[zBI],by simp[zBI],kk.trans Keeps.wr (fun A hA q=>by omega)⟩
end Go.X
end
section
open Go Go.X
namespace Go.X
set_option linter.unusedVariables false
theorem WrS.apart {S:Nat→Prop} {h g:Heap} {W:Nat} {b:List UInt8} (hw:WrS h W S b) (gg:Grows h g):WrS g W (fun A=>S A∧A≠h.next) b:=by
 obtain⟨sw,u,vw,ow⟩:=hw
 refine⟨⟨sw,fun e=>?_⟩,u,vw.grow gg,?_⟩
 ·have:=vw.1
  omega
 ·refine (ow.bound.grow gg).mono fun A hB=>⟨⟨hB.1.1,?_⟩,hB.1.2⟩
  have:=hB.2
  omega
end Go.X
end
section
open Go Go.X
namespace Go.X
set_option linter.unusedVariables false
theorem Own.pushS {g:Heap} {S:Nat→Prop} {v:Value} {n:Nat} {q:List (List UInt8)} (hO:Own g S 1 v n (zAJ q)) (x:List UInt8) (hroom:(n+1)*16≤zT) :
  ∃v' g',zAi (g.new [.string (strOf x)]) 1 16 v (.slice (some ⟨g.next,0,none⟩) 1 1)=some (v',g')∧Own g' (fun A=>S A∨g.next≤A) 1 v' (n+1) (zAJ (q++[x]))∧Keeps S g g':=by
 have hO1:=hO.grow (Grows.new (l:=[.string (strOf x)]))
 have hs1:=(Var.new_self (h:=g) (l:=[.string (strOf x)])).src (n:=1) (esz:=1) (bytes:=16) (s:=v) (sp:=none) (c:=1) rfl (by decide)
 obtain⟨v',g2,e2,hO2,k2⟩:=hO1.append (bytes:=16) (m:=1) (new:=[.string (strOf x)]) rfl rfl (by decide) (by decide) hroom
 have hk:Keeps S g g2:=(Keeps.new (W:=S)).trans k2 (fun _ _ e=>e)
 refine⟨v',g2,by rw[hs1,e2],?_,hk⟩
 have e:zAJ q++[.string (strOf x)]=zAJ (q++[x]):=by simp[zAJ]
 rw[e] at hO2
 exact hO2.mono fun A hA=>hA.imp id fun q=>by
  have:(g.new [.string (strOf x)]).next=g.next+1:=rfl
  omega
def zBE:Nat→RS→List (List UInt8)→RS×List (List UInt8)
 | 0,r,acc=>(r,acc)
 | n+1,r,acc=>if r.err=0 then zBE n (zZ r 32).1 (acc++[(zZ r 32).2]) else (r,acc)
structure PfV where
 beside:List (List UInt8)
 has:Bool
 path:List UInt8
 value:List UInt8
def zEa:PfV:=⟨[],false,[],[]⟩
def pfY (p:RS×List (List UInt8)):RS×PfV :=
 if (zAw p.1).2=true then ((zZ (zZ (zAw p.1).1 32).1 32).1,⟨p.2,true,(zZ (zAw p.1).1 32).2,(zZ (zZ (zAw p.1).1 32).1 32).2⟩) else ((zAw p.1).1,⟨p.2,false,[],[]⟩)
def pfQ (p:RS×PfV):RS×PfV:=if p.1.err=0 then p else (p.1,zEa)
def pfR (r:RS):RS×PfV:=pfQ (pfY (zBE (zl r 256).2 (zl r 256).1 []))
def zIQ (x:PfV) (v:Value):List Value:=[v,.bool x.has,.string (strOf x.path),.string (strOf x.value)]
structure PFTab (pr:Prog):Prop where
 wire:zAL pr
 bool:zFP pr
 tk:pr.prim 106=none
 tkC:pr.code 106=some xq106
theorem TP_run {pr:Prog} (T:PFTab pr) {h:Heap} {R:Nat} {r:RS} (hr:Rd h R r) :
  ∃w h',cfi pr 106 [.pointer (some ⟨R,0,none⟩)] h=some (w,h')∧∃v,w=.agg (zIQ (pfR r).2 v).toArray∧Rd h' R (pfR r).1∧Own h' (fun A=>h.next≤A) 1 v (pfR r).2.beside.length (zAJ (pfR r).2.beside)∧(pfR r).2.beside.length≤256∧Keeps (fun A=>A=R) h h':=by
 have hr64:zT=140737488355328:=rfl
 refine zq T.tk T.tkC rfl ?_
 unfold xq106
 dsimp only[zY]
 refine wpk.out (k:=[]) ?_
 have hR:R<h.next:=hr.2.1
 obtain⟨ga,hga,va,gga,gna⟩:=box5 (h:=h) [.slice none 0 0,.bool false,.string (strOf []),.string (strOf [])]
 obtain⟨gb,hgb,vb,ggb,gnb⟩:=box5 (h:=ga) [.slice none 0 0,.bool false,.string (strOf []),.string (strOf [])]
 obtain⟨gf,ef,rf,kf⟩:=zDs T.wire (hr.grow (gga.trans ggb)) 256 (by decide)
 have ef:cfi pr 108 [.pointer (some ⟨R,0,none⟩),.int .i64 256] gb=some (.int .i64 ((zl r 256).2:Int),gf):=ef
 have nf:=kf.next
 have hcm:=zFl r 256
 have kkf:Keeps (fun A=>A=R) h gf:=(gga.trans ggb).keeps.trans kf (fun _ _ q=>q)
 obtain⟨B,hB⟩:∃B,ga.next=B:=⟨_,rfl⟩
 rw[hB] at vb gnb gna
 obtain⟨Z,hZ⟩:∃Z,zBE (zl r 256).2 (zl r 256).1 []=Z:=⟨_,rfl⟩
 have eZ:pfR r=pfQ (pfY Z):=by rw[pfR,hZ]
 (repeat (first|refine zS ?_|refine zK ?_|refine zR ?_|refine zD ?_|refine zB ?_|refine zI ?_|refine zJ ?_|refine zP ?_|refine zE ?_|refine zG ?_|refine zF ?_|refine zH (by decide) ?_|refine zQ ?_|((first|refine zC ?_|refine zM ?_|refine zO rfl rfl ?_|refine zN rfl ?_|refine zL ?_);simp only[yq106.down,zA,lemS.down,lemC.down,zdO,zdN,zdL,reduceIte,zdM,zdP,zdQ,zdR,zdS,zdT,zdU,zdV,zdW,reduceCtorEq,lemH.down,hga,hgb,hB,ef])))
 refine zAU (fun m t g=>∃r2 acc v,m+acc.length≤256∧zBE m r2 acc=Z∧Rd g R r2∧Own g (fun A=>B<A) 1 v acc.length (zAJ acc)∧Var g h.next [.slice none 0 0,.bool false,.string (strOf []),.string (strOf [])]∧Var g B [v,.bool false,.string (strOf []),.string (strOf [])]∧Keeps (fun A=>A=R) h g∧B<g.next∧t.get 0=.pointer (some ⟨R,0,none⟩)∧t.get 2=.pointer (some ⟨h.next,0,none⟩)∧t.get 3=.pointer (some ⟨B,0,none⟩)∧t.get 4=.int .i64 (m:Int)) ?_ (zl r 256).2 _ _
   ⟨_,[],_,by simp;omega,hZ,rf,Own.nil,(va.grow ggb).keep kf (fun q=>by omega),vb.keep kf (fun q=>by omega),kkf,by omega,by simp only[yq106.down,zA,lemS.down,lemC.down,zdO,zdN,zdL,reduceIte,zdM,zdP,zdQ,zdR,zdS,zdT,zdU,zdV,zdW,reduceCtorEq],by simp only[yq106.down,zA,lemS.down,lemC.down,zdO,zdN,zdL,reduceIte,zdM,zdP,zdQ,zdR,zdS,zdT,zdU,zdV,zdW,reduceCtorEq],by simp only[yq106.down,zA,lemS.down,lemC.down,zdO,zdN,zdL,reduceIte,zdM,zdP,zdQ,zdR,zdS,zdT,zdU,zdV,zdW,reduceCtorEq],by simp only[yq106.down,zA,lemS.down,lemC.down,zdO,zdN,zdL,reduceIte,zdM,zdP,zdQ,zdR,zdS,zdT,zdU,zdV,zdW,reduceCtorEq]⟩
 have hBh:h.next<B:=by omega
 clear hga va gga hgb vb ggb gnb ef rf kf nf hcm kkf hB hZ hr
 rintro m t g ⟨r2,acc,v,hm,hL,rd,oc,vz,vb,kk,gn,t0,t2,t3,t4⟩ hnext
 refine xq106_6k ?_
 dsimp only[zJC]
 have er:=zAW T.wire rd
 obtain⟨av,cv,rfl,_⟩:=oc.shape
 have eM:zBE m r2 acc=(r2,acc)→pfR r=pfQ (pfY (r2,acc)):=fun e=>by rw[eZ,←hL,e]
 have stz:∀g,Var g h.next [.slice none 0 0,.bool false,.string (strOf []),.string (strOf [])]→zj g 4 (.pointer (some ⟨h.next,0,none⟩)) (.agg [.slice none 0 0,.bool false,.string (strOf []),.string (strOf [])].toArray)=some (.tuple #[],g.wr h.next [.slice none 0 0,.bool false,.string (strOf []),.string (strOf [])]):=fun g v=>v.storeAll rfl rfl (by decide) rfl
 cases m with
 | zero =>
  have eQ:=eM rfl
  obtain⟨ga,ea,ra,ka⟩:=zGv T.bool rd
  obtain⟨bq,hbq⟩:∃bq,zAw r2=bq:=⟨_,rfl⟩
  rw[hbq] at ea ra
  obtain⟨r3,bb⟩:=bq
  have ra:Rd ga R r3:=ra
  have ea:cfi pr 105 [.pointer (some ⟨R,0,none⟩)] g=some (.bool bb,ga):=ea
  have va:=vb.keep ka (fun q=>by omega)
  have za:=vz.keep ka (fun q=>by omega)
  have oa:=oc.keep ka (fun A hA q=>by omega)
  have na:=ka.next
  have s1:zj ga 1 (.pointer (some ⟨B,1,none⟩)) (.bool bb)=some (.tuple #[],ga.wr B [.slice av acc.length cv,.bool bb,.string (strOf []),.string (strOf [])]):=by rw[zg rfl,va.store (by show 1+1≤4;decide) rfl];rfl
  obtain⟨gb,hgb⟩:∃gb,ga.wr B [.slice av acc.length cv,.bool bb,.string (strOf []),.string (strOf [])]=gb:=⟨_,rfl⟩
  have vb2:Var gb B [.slice av acc.length cv,.bool bb,.string (strOf []),.string (strOf [])]:=by rw[←hgb];exact va.wr
  have kb:Keeps (fun A=>A=B) ga gb:=by rw[←hgb];exact Keeps.wr
  rw[hgb] at s1
  have nb:=kb.next
  have rb:=ra.keep kb (fun q=>by omega)
  have zb:=za.keep kb (fun q=>by omega)
  have ob:=oa.keep kb (fun A hA q=>by omega)
  have kkb:Keeps (fun A=>A=R) h gb:=(kk.trans ka (fun _ _ q=>q)).trans kb (fun A hA q=>by omega)
  have lb:∀sp,gb.load ⟨B,1,sp⟩=some (.bool bb):=fun sp=>vb2.load
  cases bb with
  | false =>
   have er3:=zAW T.wire rb
   by_cases c3:r3.err=0
   ·have b3:((r3.err:Int)==0)=true:=by rw[c3];rfl
    have ld:∀sp,gb.loadN ⟨B,0,sp⟩ 4=some [.slice av acc.length cv,.bool false,.string (strOf []),.string (strOf [])]:=fun sp=>vb2.loadAll rfl
    have sv:zj gb 4 (.pointer (some ⟨h.next,0,none⟩)) (.agg [.slice av acc.length cv,.bool false,.string (strOf []),.string (strOf [])].toArray)=some (.tuple #[],gb.wr h.next [.slice av acc.length cv,.bool false,.string (strOf []),.string (strOf [])]):=zb.storeAll rfl rfl (by decide) rfl
    (repeat (first|refine zS ?_|refine zK ?_|refine zR ?_|refine zD ?_|refine zB ?_|refine zI ?_|refine zJ ?_|refine zP ?_|refine zE ?_|refine zG ?_|refine zF ?_|refine zH (by decide) ?_|refine zQ ?_|((first|refine zC ?_|refine zM ?_|refine zO rfl rfl ?_|refine zN rfl ?_|refine zL ?_);simp only[yq106.down,zA,lemS.down,lemC.down,zdO,zdN,zdL,reduceIte,zdM,zdP,zdQ,zdR,zdS,zdT,zdU,zdV,zdW,reduceCtorEq,lemH.down,t0,t2,t3,t4,Nat.add_zero,zc,er,ea,s1,lb,er3,b3,ld,sv,Bool.not_true,Bool.not_false])))
    have eR:pfR r=(r3,⟨acc,false,[],[]⟩):=by rw[eQ];simp[pfQ,pfY,hbq,c3]
    rw[eR]
    exact⟨.inr rfl,_,zAv (a:=⟨h.next,0,none⟩) (by simp only[yq106.down,zA,lemS.down,lemC.down,zdO,zdN,zdL,reduceIte,zdM,zdP,zdQ,zdR,zdS,zdT,zdU,zdV,zdW,reduceCtorEq,t2]) (zb.wr.loadAll rfl),_,rfl,rb.keep Keeps.wr (by omega),(ob.keep Keeps.wr (fun A hA q=>by omega)).mono (fun A hA=>by omega),by show acc.length≤256;omega,kkb.trans Keeps.wr (fun A hA q=>by omega)⟩
   ·have b3:((r3.err:Int)==0)=false:=by rw[beq_eq_false_iff_ne];omega
    have sv:=stz gb zb
    (repeat (first|refine zS ?_|refine zK ?_|refine zR ?_|refine zD ?_|refine zB ?_|refine zI ?_|refine zJ ?_|refine zP ?_|refine zE ?_|refine zG ?_|refine zF ?_|refine zH (by decide) ?_|refine zQ ?_|((first|refine zC ?_|refine zM ?_|refine zO rfl rfl ?_|refine zN rfl ?_|refine zL ?_);simp only[yq106.down,zA,lemS.down,lemC.down,zdO,zdN,zdL,reduceIte,zdM,zdP,zdQ,zdR,zdS,zdT,zdU,zdV,zdW,reduceCtorEq,lemH.down,t0,t2,t3,t4,Nat.add_zero,zc,er,ea,s1,lb,er3,b3,zAs,sv,Bool.not_true,Bool.not_false])))
    have eR:pfR r=(r3,zEa):=by rw[eQ];simp[pfQ,pfY,hbq,c3]
    rw[eR]
    exact⟨.inr rfl,_,zAv (a:=⟨h.next,0,none⟩) (by simp only[yq106.down,zA,lemS.down,lemC.down,zdO,zdN,zdL,reduceIte,zdM,zdP,zdQ,zdR,zdS,zdT,zdU,zdV,zdW,reduceCtorEq,t2]) (zb.wr.loadAll rfl),.slice none 0 0,rfl,rb.keep Keeps.wr (by omega),Own.nil,by show (0:Nat)≤256;omega,kkb.trans Keeps.wr (fun A hA q=>by omega)⟩
  | true =>
   obtain⟨gc,ec,rc,kc⟩:=zB3 T.wire rb
   obtain⟨p1,h1⟩:∃p1,zZ r3 32=p1:=⟨_,rfl⟩
   rw[h1] at ec rc
   obtain⟨gd,ed,rd2,kd⟩:=zB3 T.wire rc
   obtain⟨p2,h2⟩:∃p2,zZ p1.1 32=p2:=⟨_,rfl⟩
   rw[h2] at ed rd2
   have kcd:Keeps (fun A=>A=R) gb gd:=kc.trans kd (fun _ _ q=>q)
   have ncd:=kcd.next
   have vd:=vb2.keep kcd (fun q=>by omega)
   have zd:=zb.keep kcd (fun q=>by omega)
   have od:=ob.keep kcd (fun A hA q=>by omega)
   have s2:zj gd 2 (.pointer (some ⟨B,2,none⟩)) (.agg [.string (strOf p1.2),.string (strOf p2.2)].toArray)=some (.tuple #[],gd.wr B [.slice av acc.length cv,.bool true,.string (strOf p1.2),.string (strOf p2.2)]):=(zIi (h:=gd) (n:=2) (cs:=[.string (strOf p1.2),.string (strOf p2.2)]) rfl (by decide)).trans (by rw[vd.store (by show 2+2≤4;decide) rfl];rfl)
   obtain⟨ge,hge⟩:∃ge,gd.wr B [.slice av acc.length cv,.bool true,.string (strOf p1.2),.string (strOf p2.2)]=ge:=⟨_,rfl⟩
   have ve:Var ge B [.slice av acc.length cv,.bool true,.string (strOf p1.2),.string (strOf p2.2)]:=by rw[←hge];exact vd.wr
   have ke:Keeps (fun A=>A=B) gd ge:=by rw[←hge];exact Keeps.wr
   rw[hge] at s2
   have ne:=ke.next
   have re:=rd2.keep ke (fun q=>by omega)
   have ze:=zd.keep ke (fun q=>by omega)
   have oe:=od.keep ke (fun A hA q=>by omega)
   have kke:Keeps (fun A=>A=R) h ge:=(kkb.trans kcd (fun _ _ q=>q)).trans ke (fun A hA q=>by omega)
   have fl:z8 [.string (strOf []),.string (strOf [])] [(0,1,.string (strOf p1.2)),(1,1,.string (strOf p2.2))]=some [.string (strOf p1.2),.string (strOf p2.2)]:=rfl
   have er3:=zAW T.wire re
   by_cases c3:p2.1.err=0
   ·have b3:((p2.1.err:Int)==0)=true:=by rw[c3];rfl
    have ld:∀sp,ge.loadN ⟨B,0,sp⟩ 4=some [.slice av acc.length cv,.bool true,.string (strOf p1.2),.string (strOf p2.2)]:=fun sp=>ve.loadAll rfl
    have sv:zj ge 4 (.pointer (some ⟨h.next,0,none⟩)) (.agg [.slice av acc.length cv,.bool true,.string (strOf p1.2),.string (strOf p2.2)].toArray)=some (.tuple #[],ge.wr h.next [.slice av acc.length cv,.bool true,.string (strOf p1.2),.string (strOf p2.2)]):=ze.storeAll rfl rfl (by decide) rfl
    (repeat (first|refine zS ?_|refine zK ?_|refine zR ?_|refine zD ?_|refine zB ?_|refine zI ?_|refine zJ ?_|refine zP ?_|refine zE ?_|refine zG ?_|refine zF ?_|refine zH (by decide) ?_|refine zQ ?_|((first|refine zC ?_|refine zM ?_|refine zO rfl rfl ?_|refine zN rfl ?_|refine zL ?_);simp only[yq106.down,zA,lemS.down,lemC.down,zdO,zdN,zdL,reduceIte,zdM,zdP,zdQ,zdR,zdS,zdT,zdU,zdV,zdW,reduceCtorEq,lemH.down,t0,t2,t3,t4,Nat.add_zero,zc,er,ea,s1,lb,ec,ed,fl,s2,er3,b3,ld,sv,Bool.not_true,Bool.not_false])))
    have eR:pfR r=(p2.1,⟨acc,true,p1.2,p2.2⟩):=by rw[eQ];simp[pfQ,pfY,hbq,h1,h2,c3]
    rw[eR]
    exact⟨.inr rfl,_,zAv (a:=⟨h.next,0,none⟩) (by simp only[yq106.down,zA,lemS.down,lemC.down,zdO,zdN,zdL,reduceIte,zdM,zdP,zdQ,zdR,zdS,zdT,zdU,zdV,zdW,reduceCtorEq,t2]) (ze.wr.loadAll rfl),_,rfl,re.keep Keeps.wr (by omega),(oe.keep Keeps.wr (fun A hA q=>by omega)).mono (fun A hA=>by omega),by show acc.length≤256;omega,kke.trans Keeps.wr (fun A hA q=>by omega)⟩
   ·have b3:((p2.1.err:Int)==0)=false:=by rw[beq_eq_false_iff_ne];omega
    have sv:=stz ge ze
    (repeat (first|refine zS ?_|refine zK ?_|refine zR ?_|refine zD ?_|refine zB ?_|refine zI ?_|refine zJ ?_|refine zP ?_|refine zE ?_|refine zG ?_|refine zF ?_|refine zH (by decide) ?_|refine zQ ?_|((first|refine zC ?_|refine zM ?_|refine zO rfl rfl ?_|refine zN rfl ?_|refine zL ?_);simp only[yq106.down,zA,lemS.down,lemC.down,zdO,zdN,zdL,reduceIte,zdM,zdP,zdQ,zdR,zdS,zdT,zdU,zdV,zdW,reduceCtorEq,lemH.down,t0,t2,t3,t4,Nat.add_zero,zc,er,ea,s1,lb,ec,ed,fl,s2,er3,b3,zAs,sv,Bool.not_true,Bool.not_false])))
    have eR:pfR r=(p2.1,zEa):=by rw[eQ];simp[pfQ,pfY,hbq,h1,h2,c3]
    rw[eR]
    exact⟨.inr rfl,_,zAv (a:=⟨h.next,0,none⟩) (by simp only[yq106.down,zA,lemS.down,lemC.down,zdO,zdN,zdL,reduceIte,zdM,zdP,zdQ,zdR,zdS,zdT,zdU,zdV,zdW,reduceCtorEq,t2]) (ze.wr.loadAll rfl),.slice none 0 0,rfl,re.keep Keeps.wr (by omega),Own.nil,by show (0:Nat)≤256;omega,kke.trans Keeps.wr (fun A hA q=>by omega)⟩
 | succ m =>
  have d0:decide (((m+1:Nat):Int)>0)=true:=decide_eq_true (by omega)
  by_cases c0:r2.err=0
  ·have b0:((r2.err:Int)==0)=true:=by rw[c0];rfl
   obtain⟨g1,e1,rd1,k1⟩:=zB3 T.wire rd
   obtain⟨a,ha⟩:∃a,zZ r2 32=a:=⟨_,rfl⟩
   rw[ha] at e1 rd1
   have hL2:zBE m a.1 (acc++[a.2])=Z:=by
    rw[←hL]
    conv=>rhs;unfold zBE
    rw[if_pos c0,ha]
   have oc1:=oc.keep k1 (fun A hA q=>by omega)
   obtain⟨v2,g2,e2,oc2,k2⟩:=oc1.pushS a.2 (by omega)
   have n1:=k1.next
   have n2:=k2.next
   have l0:∀sp,g.load ⟨B,0,sp⟩=some (.slice av acc.length cv):=fun sp=>vb.load
   have vb1:=vb.keep k1 (fun q=>by omega)
   have l1:∀sp,(g1.new [.string (strOf a.2)]).load ⟨B,0,sp⟩=some (.slice av acc.length cv):=fun sp=>(vb1.grow Grows.new).load
   have vb2:=vb1.keep k2 (fun q=>by omega)
   have vz2:=(vz.keep k1 (fun q=>by omega)).keep k2 (fun q=>by omega)
   have st2:zj g2 1 (.pointer (some ⟨B,0,none⟩)) v2=some (.tuple #[],g2.wr B [v2,.bool false,.string (strOf []),.string (strOf [])]):=oc2.store vb2 (by show 0<4;decide)
   have fl:z8 [.string (strOf [])] [(0,1,.string (strOf a.2))]=some [.string (strOf a.2)]:=rfl
   have wn:IntKind.i64.wrap (((m+1:Nat):Int) - 1)=(m:Int):=by rw[wrap_i64 (by omega) (by omega)];omega
   (repeat (first|refine zS ?_|refine zK ?_|refine zR ?_|refine zD ?_|refine zB ?_|refine zI ?_|refine zJ ?_|refine zP ?_|refine zE ?_|refine zG ?_|refine zF ?_|refine zH (by decide) ?_|refine zQ ?_|((first|refine zC ?_|refine zM ?_|refine zO rfl rfl ?_|refine zN rfl ?_|refine zL ?_);simp only[yq106.down,zA,lemS.down,lemC.down,zdO,zdN,zdL,reduceIte,zdM,zdP,zdQ,zdR,zdS,zdT,zdU,zdV,zdW,reduceCtorEq,lemH.down,t0,t2,t3,t4,d0,zc,er,b0,l0,e1,fl,e2,st2,wn])))
   refine⟨?_,?_⟩
   ·(refine zA4 rfl rfl rfl ?_ ?_<;>simp only[yq106.down,zA,lemS.down,lemC.down,zdO,zdN,zdL,reduceIte,zdM,zdP,zdQ,zdR,zdS,zdT,zdU,zdV,zdW,reduceCtorEq,l1,l0,zA1,zAz,zA2,zA0,zAq,Option.isSome_some])
   (repeat (first|refine zS ?_|refine zK ?_|refine zR ?_|refine zD ?_|refine zB ?_|refine zI ?_|refine zJ ?_|refine zP ?_|refine zE ?_|refine zG ?_|refine zF ?_|refine zH (by decide) ?_|refine zQ ?_|((first|refine zC ?_|refine zM ?_|refine zO rfl rfl ?_|refine zN rfl ?_|refine zL ?_);simp only[yq106.down,zA,lemS.down,lemC.down,zdO,zdN,zdL,reduceIte,zdM,zdP,zdQ,zdR,zdS,zdT,zdU,zdV,zdW,reduceCtorEq,lemH.down,t0,t2,t3,t4,wn,st2])))
   refine hnext m _ _ (Nat.lt_succ_self m) ⟨a.1,acc++[a.2],v2,by simp;omega,hL2,(rd1.keep k2 (fun q=>by omega)).keep Keeps.wr (by omega),?_,vz2.wr_ne (by omega),vb2.wr,((kk.trans k1 (fun _ _ q=>q)).trans k2 (fun A hA q=>by omega)).trans Keeps.wr (fun A hA q=>by omega),by show B<g2.next;omega,by simp only[yq106.down,zA,lemS.down,lemC.down,zdO,zdN,zdL,reduceIte,zdM,zdP,zdQ,zdR,zdS,zdT,zdU,zdV,zdW,reduceCtorEq,t0],by simp only[yq106.down,zA,lemS.down,lemC.down,zdO,zdN,zdL,reduceIte,zdM,zdP,zdQ,zdR,zdS,zdT,zdU,zdV,zdW,reduceCtorEq,t2],by simp only[yq106.down,zA,lemS.down,lemC.down,zdO,zdN,zdL,reduceIte,zdM,zdP,zdQ,zdR,zdS,zdT,zdU,zdV,zdW,reduceCtorEq,t3],by (simp only[yq106.down,zA,lemS.down,lemC.down,zdO,zdN,zdL,reduceIte,zdM,zdP,zdQ,zdR,zdS,zdT,zdU,zdV,zdW,reduceCtorEq])<;>rfl⟩
   rw[List.length_append]
   exact (oc2.bound.keep (Keeps.wr (A:=B)) (fun A hA q=>by have:=hA.1;omega)).mono fun A hA=>by have:=hA.1;omega
  ·have b0:((r2.err:Int)==0)=false:=by rw[beq_eq_false_iff_ne];omega
   have eQ:=eM (by unfold zBE;rw[if_neg c0])
   obtain⟨ga,ea,ra,ka⟩:=zGv T.bool rd
   obtain⟨bq,hbq⟩:∃bq,zAw r2=bq:=⟨_,rfl⟩
   rw[hbq] at ea ra
   obtain⟨r3,bb⟩:=bq
   have ra:Rd ga R r3:=ra
   have ea:cfi pr 105 [.pointer (some ⟨R,0,none⟩)] g=some (.bool bb,ga):=ea
   have va:=vb.keep ka (fun q=>by omega)
   have za:=vz.keep ka (fun q=>by omega)
   have oa:=oc.keep ka (fun A hA q=>by omega)
   have na:=ka.next
   have s1:zj ga 1 (.pointer (some ⟨B,1,none⟩)) (.bool bb)=some (.tuple #[],ga.wr B [.slice av acc.length cv,.bool bb,.string (strOf []),.string (strOf [])]):=by rw[zg rfl,va.store (by show 1+1≤4;decide) rfl];rfl
   obtain⟨gb,hgb⟩:∃gb,ga.wr B [.slice av acc.length cv,.bool bb,.string (strOf []),.string (strOf [])]=gb:=⟨_,rfl⟩
   have vb2:Var gb B [.slice av acc.length cv,.bool bb,.string (strOf []),.string (strOf [])]:=by rw[←hgb];exact va.wr
   have kb:Keeps (fun A=>A=B) ga gb:=by rw[←hgb];exact Keeps.wr
   rw[hgb] at s1
   have nb:=kb.next
   have rb:=ra.keep kb (fun q=>by omega)
   have zb:=za.keep kb (fun q=>by omega)
   have ob:=oa.keep kb (fun A hA q=>by omega)
   have kkb:Keeps (fun A=>A=R) h gb:=(kk.trans ka (fun _ _ q=>q)).trans kb (fun A hA q=>by omega)
   have lb:∀sp,gb.load ⟨B,1,sp⟩=some (.bool bb):=fun sp=>vb2.load
   cases bb with
   | false =>
    have er3:=zAW T.wire rb
    by_cases c3:r3.err=0
    ·have b3:((r3.err:Int)==0)=true:=by rw[c3];rfl
     have ld:∀sp,gb.loadN ⟨B,0,sp⟩ 4=some [.slice av acc.length cv,.bool false,.string (strOf []),.string (strOf [])]:=fun sp=>vb2.loadAll rfl
     have sv:zj gb 4 (.pointer (some ⟨h.next,0,none⟩)) (.agg [.slice av acc.length cv,.bool false,.string (strOf []),.string (strOf [])].toArray)=some (.tuple #[],gb.wr h.next [.slice av acc.length cv,.bool false,.string (strOf []),.string (strOf [])]):=zb.storeAll rfl rfl (by decide) rfl
     (repeat (first|refine zS ?_|refine zK ?_|refine zR ?_|refine zD ?_|refine zB ?_|refine zI ?_|refine zJ ?_|refine zP ?_|refine zE ?_|refine zG ?_|refine zF ?_|refine zH (by decide) ?_|refine zQ ?_|((first|refine zC ?_|refine zM ?_|refine zO rfl rfl ?_|refine zN rfl ?_|refine zL ?_);simp only[yq106.down,zA,lemS.down,lemC.down,zdO,zdN,zdL,reduceIte,zdM,zdP,zdQ,zdR,zdS,zdT,zdU,zdV,zdW,reduceCtorEq,lemH.down,t0,t2,t3,t4,d0,b0,zc,er,ea,s1,lb,er3,b3,ld,sv,Bool.not_true,Bool.not_false])))
     have eR:pfR r=(r3,⟨acc,false,[],[]⟩):=by rw[eQ];simp[pfQ,pfY,hbq,c3]
     rw[eR]
     exact⟨.inr rfl,_,zAv (a:=⟨h.next,0,none⟩) (by simp only[yq106.down,zA,lemS.down,lemC.down,zdO,zdN,zdL,reduceIte,zdM,zdP,zdQ,zdR,zdS,zdT,zdU,zdV,zdW,reduceCtorEq,t2]) (zb.wr.loadAll rfl),_,rfl,rb.keep Keeps.wr (by omega),(ob.keep Keeps.wr (fun A hA q=>by omega)).mono (fun A hA=>by omega),by show acc.length≤256;omega,kkb.trans Keeps.wr (fun A hA q=>by omega)⟩
    ·have b3:((r3.err:Int)==0)=false:=by rw[beq_eq_false_iff_ne];omega
     have sv:=stz gb zb
     (repeat (first|refine zS ?_|refine zK ?_|refine zR ?_|refine zD ?_|refine zB ?_|refine zI ?_|refine zJ ?_|refine zP ?_|refine zE ?_|refine zG ?_|refine zF ?_|refine zH (by decide) ?_|refine zQ ?_|((first|refine zC ?_|refine zM ?_|refine zO rfl rfl ?_|refine zN rfl ?_|refine zL ?_);simp only[yq106.down,zA,lemS.down,lemC.down,zdO,zdN,zdL,reduceIte,zdM,zdP,zdQ,zdR,zdS,zdT,zdU,zdV,zdW,reduceCtorEq,lemH.down,t0,t2,t3,t4,d0,b0,zc,er,ea,s1,lb,er3,b3,zAs,sv,Bool.not_true,Bool.not_false])))
     have eR:pfR r=(r3,zEa):=by rw[eQ];simp[pfQ,pfY,hbq,c3]
     rw[eR]
     exact⟨.inr rfl,_,zAv (a:=⟨h.next,0,none⟩) (by simp only[yq106.down,zA,lemS.down,lemC.down,zdO,zdN,zdL,reduceIte,zdM,zdP,zdQ,zdR,zdS,zdT,zdU,zdV,zdW,reduceCtorEq,t2]) (zb.wr.loadAll rfl),.slice none 0 0,rfl,rb.keep Keeps.wr (by omega),Own.nil,by show (0:Nat)≤256;omega,kkb.trans Keeps.wr (fun A hA q=>by omega)⟩
   | true =>
    obtain⟨gc,ec,rc,kc⟩:=zB3 T.wire rb
    obtain⟨p1,h1⟩:∃p1,zZ r3 32=p1:=⟨_,rfl⟩
    rw[h1] at ec rc
    obtain⟨gd,ed,rd2,kd⟩:=zB3 T.wire rc
    obtain⟨p2,h2⟩:∃p2,zZ p1.1 32=p2:=⟨_,rfl⟩
    rw[h2] at ed rd2
    have kcd:Keeps (fun A=>A=R) gb gd:=kc.trans kd (fun _ _ q=>q)
    have ncd:=kcd.next
    have vd:=vb2.keep kcd (fun q=>by omega)
    have zd:=zb.keep kcd (fun q=>by omega)
    have od:=ob.keep kcd (fun A hA q=>by omega)
    have s2:zj gd 2 (.pointer (some ⟨B,2,none⟩)) (.agg [.string (strOf p1.2),.string (strOf p2.2)].toArray)=some (.tuple #[],gd.wr B [.slice av acc.length cv,.bool true,.string (strOf p1.2),.string (strOf p2.2)]):=(zIi (h:=gd) (n:=2) (cs:=[.string (strOf p1.2),.string (strOf p2.2)]) rfl (by decide)).trans (by rw[vd.store (by show 2+2≤4;decide) rfl];rfl)
    obtain⟨ge,hge⟩:∃ge,gd.wr B [.slice av acc.length cv,.bool true,.string (strOf p1.2),.string (strOf p2.2)]=ge:=⟨_,rfl⟩
    have ve:Var ge B [.slice av acc.length cv,.bool true,.string (strOf p1.2),.string (strOf p2.2)]:=by rw[←hge];exact vd.wr
    have ke:Keeps (fun A=>A=B) gd ge:=by rw[←hge];exact Keeps.wr
    rw[hge] at s2
    have ne:=ke.next
    have re:=rd2.keep ke (fun q=>by omega)
    have ze:=zd.keep ke (fun q=>by omega)
    have oe:=od.keep ke (fun A hA q=>by omega)
    have kke:Keeps (fun A=>A=R) h ge:=(kkb.trans kcd (fun _ _ q=>q)).trans ke (fun A hA q=>by omega)
    have fl:z8 [.string (strOf []),.string (strOf [])] [(0,1,.string (strOf p1.2)),(1,1,.string (strOf p2.2))]=some [.string (strOf p1.2),.string (strOf p2.2)]:=rfl
    have er3:=zAW T.wire re
    by_cases c3:p2.1.err=0
    ·have b3:((p2.1.err:Int)==0)=true:=by rw[c3];rfl
     have ld:∀sp,ge.loadN ⟨B,0,sp⟩ 4=some [.slice av acc.length cv,.bool true,.string (strOf p1.2),.string (strOf p2.2)]:=fun sp=>ve.loadAll rfl
     have sv:zj ge 4 (.pointer (some ⟨h.next,0,none⟩)) (.agg [.slice av acc.length cv,.bool true,.string (strOf p1.2),.string (strOf p2.2)].toArray)=some (.tuple #[],ge.wr h.next [.slice av acc.length cv,.bool true,.string (strOf p1.2),.string (strOf p2.2)]):=ze.storeAll rfl rfl (by decide) rfl
     (repeat (first|refine zS ?_|refine zK ?_|refine zR ?_|refine zD ?_|refine zB ?_|refine zI ?_|refine zJ ?_|refine zP ?_|refine zE ?_|refine zG ?_|refine zF ?_|refine zH (by decide) ?_|refine zQ ?_|((first|refine zC ?_|refine zM ?_|refine zO rfl rfl ?_|refine zN rfl ?_|refine zL ?_);simp only[yq106.down,zA,lemS.down,lemC.down,zdO,zdN,zdL,reduceIte,zdM,zdP,zdQ,zdR,zdS,zdT,zdU,zdV,zdW,reduceCtorEq,lemH.down,t0,t2,t3,t4,d0,b0,zc,er,ea,s1,lb,ec,ed,fl,s2,er3,b3,ld,sv,Bool.not_true,Bool.not_false])))
     have eR:pfR r=(p2.1,⟨acc,true,p1.2,p2.2⟩):=by rw[eQ];simp[pfQ,pfY,hbq,h1,h2,c3]
     rw[eR]
     exact⟨.inr rfl,_,zAv (a:=⟨h.next,0,none⟩) (by simp only[yq106.down,zA,lemS.down,lemC.down,zdO,zdN,zdL,reduceIte,zdM,zdP,zdQ,zdR,zdS,zdT,zdU,zdV,zdW,reduceCtorEq,t2]) (ze.wr.loadAll rfl),_,rfl,re.keep Keeps.wr (by omega),(oe.keep Keeps.wr (fun A hA q=>by omega)).mono (fun A hA=>by omega),by show acc.length≤256;omega,kke.trans Keeps.wr (fun A hA q=>by omega)⟩
    ·have b3:((p2.1.err:Int)==0)=false:=by rw[beq_eq_false_iff_ne];omega
     have sv:=stz ge ze
     (repeat (first|refine zS ?_|refine zK ?_|refine zR ?_|refine zD ?_|refine zB ?_|refine zI ?_|refine zJ ?_|refine zP ?_|refine zE ?_|refine zG ?_|refine zF ?_|refine zH (by decide) ?_|refine zQ ?_|((first|refine zC ?_|refine zM ?_|refine zO rfl rfl ?_|refine zN rfl ?_|refine zL ?_);simp only[yq106.down,zA,lemS.down,lemC.down,zdO,zdN,zdL,reduceIte,zdM,zdP,zdQ,zdR,zdS,zdT,zdU,zdV,zdW,reduceCtorEq,lemH.down,t0,t2,t3,t4,d0,b0,zc,er,ea,s1,lb,ec,ed,fl,s2,er3,b3,zAs,sv,Bool.not_true,Bool.not_false])))
     have eR:pfR r=(p2.1,zEa):=by rw[eQ];simp[pfQ,pfY,hbq,h1,h2,c3]
     rw[eR]
     exact⟨.inr rfl,_,zAv (a:=⟨h.next,0,none⟩) (by simp only[yq106.down,zA,lemS.down,lemC.down,zdO,zdN,zdL,reduceIte,zdM,zdP,zdQ,zdR,zdS,zdT,zdU,zdV,zdW,reduceCtorEq,t2]) (ze.wr.loadAll rfl),.slice none 0 0,rfl,re.keep Keeps.wr (by omega),Own.nil,by show (0:Nat)≤256;omega,kke.trans Keeps.wr (fun A hA q=>by omega)⟩
end Go.X
end
section
open Go Go.X
namespace Go.X
set_option linter.unusedVariables false
end Go.X
end
section
open Go Go.X
namespace Go.X
set_option linter.unusedVariables false
structure SV where
 hd:Hdr
 tags:TagL
 key:List UInt8
 has:Bool
 value:List UInt8
 pf:PfV
def zeroS:SV:=⟨zeroH,[],[],false,[],zEa⟩
def zIc (x:SV) (mv tv pv:Value):List Value:=hcells x.hd mv++[tv,.string (strOf x.key),.bool x.has,.string (strOf x.value)]++zIQ x.pf pv
def dsX (r:RS):RS×SV :=
 ((pfR (zAI (zAw (zAI (zAB (zAV r).1).1 32).1).1 64).1).1,⟨(zAV r).2,(zAB (zAV r).1).2,(zAI (zAB (zAV r).1).1 32).2,(zAw (zAI (zAB (zAV r).1).1 32).1).2,(zAI (zAw (zAI (zAB (zAV r).1).1 32).1).1 64).2,(pfR (zAI (zAw (zAI (zAB (zAV r).1).1 32).1).1 64).1).2⟩)
def dsQ (p:RS×SV):Nat×SV:=if (endR p.1).err=0 then (0,p.2) else ((endR p.1).err,zeroS)
def dsR (s:List UInt8):Nat×SV:=dsQ (dsX ⟨s,0,0⟩)
structure DTab (pr:Prog):Prop where
 wire:zAL pr
 hd:HdTab pr
 ct:zGx pr
 bool:zFP pr
 pf:PFTab pr
 tt:TTab pr
 ds:pr.prim 42=none
 dsC:pr.code 42=some xq42
 dt:pr.prim 43=none
 dtC:pr.code 43=some xq43
structure SOk (h:Heap) (N:Nat) (x:SV) (mv tv pv:Value):Prop where
 hd:HdAt h x.hd mv
 mem:Own h (fun A=>N≤A) 1 mv x.hd.m.length (zAA x.hd.m)
 tags:Own h (fun A=>N≤A) 2 tv x.tags.length (zw x.tags)
 fine:∀q∈x.tags,inI q.1
 pf:Own h (fun A=>N≤A) 1 pv x.pf.beside.length (zAJ x.pf.beside)
 few:x.pf.beside.length≤256
theorem res2 {t:Fr} {h:Heap} {i j n:Nat} {a:Addr} {vs:List Value} {w:Value} (ht:t.get i=.pointer (some a)) (hl:h.loadN a n=some vs) (hj:t.get j=w):zy t h [.cellN i n,.tmp j]=some (.tuple #[.agg vs.toArray,w]):=by
 simp[zy,zAQ,resX,ht,hl,hj,zAf]
theorem zGr {h:Heap}:HdAt h zeroH (.slice none 0 0):=⟨by decide,rfl,by decide,by decide,by decide,by decide⟩
theorem DS_run {pr:Prog} (T:DTab pr) {h:Heap} {s:List UInt8} (hs:s.length≤9223372036854775807) :
  ∃w h',cfi pr 42 [.string (strOf s)] h=some (w,h')∧∃mv tv pv,w=.tuple #[.agg (zIc (dsR s).2 mv tv pv).toArray,.int .i64 ((dsR s).1:Int)]∧SOk h' h.next (dsR s).2 mv tv pv∧Grows h h':=by
 have hr64:zT=140737488355328:=rfl
 refine zq T.ds T.dsC rfl ?_
 unfold xq42
 dsimp only[zY]
 refine wpk.out (k:=[]) ?_
 obtain⟨Z,hZ⟩:∃Z:List Value,Z=[.int .u64 0,.string (strOf []),.string (strOf []),.string (strOf []),.slice none 0 0,.slice none 0 0,.string (strOf []),.bool false,.string (strOf []),.slice none 0 0,.bool false,.string (strOf []),.string (strOf [])]:=⟨_,rfl⟩
 have hZl:Z.length=13:=by rw[hZ];rfl
 have hZo:Z.all oneC=true:=by rw[hZ];rfl
 obtain⟨ga,hga,va,gga,gna⟩:=box5 (h:=h) Z
 obtain⟨gb,eb,rb,ggb⟩:=zJr T.wire ga s hs
 have nb:=ggb.next
 obtain⟨R,hR⟩:∃R,ga.next=R:=⟨_,rfl⟩
 rw[hR] at eb rb nb
 have hRb:R<gb.next:=rb.2.1
 obtain⟨w1,g1,e1,mv,rfl,r1,o1,h1,k1⟩:=HT_run T.hd rb
 obtain⟨a,ha⟩:∃a,zAV ⟨s,0,0⟩=a:=⟨_,rfl⟩
 rw[ha] at e1 r1 o1 h1
 obtain⟨tv,g2,e2,r2,o2,f2,k2⟩:=zJx T.ct r1
 obtain⟨b,hb⟩:∃b,zAB a.1=b:=⟨_,rfl⟩
 rw[hb] at r2 o2 f2
 obtain⟨g3,e3,r3,k3⟩:=zFR T.wire r2 32 (by omega)
 obtain⟨c,hc⟩:∃c,zAI b.1 32=c:=⟨_,rfl⟩
 rw[hc] at e3 r3
 have e3:cfi pr 87 [.pointer (some ⟨R,0,none⟩),.int .i64 32] g2=some (.string (strOf c.2),g3):=e3
 obtain⟨g4,e4,r4,k4⟩:=zGv T.bool r3
 obtain⟨d,hd⟩:∃d,zAw c.1=d:=⟨_,rfl⟩
 rw[hd] at e4 r4
 obtain⟨g5,e5,r5,k5⟩:=zFR T.wire r4 64 (by omega)
 obtain⟨e,he⟩:∃e,zAI d.1 64=e:=⟨_,rfl⟩
 rw[he] at e5 r5
 have e5:cfi pr 87 [.pointer (some ⟨R,0,none⟩),.int .i64 64] g4=some (.string (strOf e.2),g5):=e5
 obtain⟨w6,g6,e6,pv,rfl,r6,o6,f6,k6⟩:=TP_run T.pf r5
 obtain⟨f,hf⟩:∃f,pfR e.1=f:=⟨_,rfl⟩
 rw[hf] at e6 r6 o6 f6
 have eX:dsR s=dsQ (f.1,⟨a.2,b.2,c.2,d.2,e.2,f.2⟩):=by unfold dsR dsX;rw[ha,hb,hc,hd,he,hf]
 clear ha hb hc hd he hf
 have n1:=k1.next
 have n2:=k2.next
 have k25:Keeps (fun A=>A=R) g2 g5:=(k3.trans k4 (fun _ _ q=>q)).trans k5 (fun _ _ q=>q)
 have n25:=k25.next
 have n6:=k6.next
 have k16:Keeps (fun A=>A=R) g1 g6:=(k2.trans k25 (fun _ _ q=>q)).trans k6 (fun _ _ q=>q)
 have k26:Keeps (fun A=>A=R) g2 g6:=k25.trans k6 (fun _ _ q=>q)
 have kb6:Keeps (fun A=>A=R) gb g6:=k1.trans k16 (fun _ _ q=>q)
 obtain⟨av,cv,rfl,_⟩:=o1.shape
 obtain⟨at_,ct,rfl,_⟩:=o2.shape
 obtain⟨ap,cp,rfl,_⟩:=o6.shape
 obtain⟨g7,hg7,v7,gg7,gn7⟩:=box5 (h:=g6) Z
 obtain⟨C,hC⟩:∃C:List Value,C=zIc ⟨a.2,b.2,c.2,d.2,e.2,f.2⟩ (.slice av a.2.m.length cv) (.slice at_ b.2.length ct) (.slice ap f.2.beside.length cp):=⟨_,rfl⟩
 have hCl:C.length=13:=by rw[hC];rfl
 have hCo:C.all oneC=true:=by rw[hC];rfl
 have fl:z8 Z [(0,5,.agg (hcells a.2 (.slice av a.2.m.length cv)).toArray),(5,1,.agg [.slice at_ b.2.length ct].toArray),(6,1,.string (strOf c.2)),(7,1,.bool d.2),(8,1,.string (strOf e.2)),(9,4,.agg (zIQ f.2 (.slice ap f.2.beside.length cp)).toArray)]=some C:=by rw[hZ,hC];rfl
 have s7:zj g7 13 (.pointer (some ⟨g6.next,0,none⟩)) (.agg C.toArray)=some (.tuple #[],g7.wr g6.next C):=v7.storeAll hCl hZl (by decide) hCo
 obtain⟨g8,hg8⟩:∃g8,g7.wr g6.next C=g8:=⟨_,rfl⟩
 have v8:Var g8 g6.next C:=by rw[←hg8];exact v7.wr
 have k8:Keeps (fun A=>A=g6.next) g7 g8:=by rw[←hg8];exact Keeps.wr
 rw[hg8] at s7
 have n8:=k8.next
 have r8:=(r6.grow gg7).keep k8 (fun q=>by omega)
 obtain⟨g9,e9,r9,k9⟩:=zJv T.wire r8
 have n9:=k9.next
 obtain⟨E,hE⟩:∃E,(endR f.1).err=E:=⟨_,rfl⟩
 rw[hE] at e9
 have va2:=(((va.grow ggb).keep kb6 (fun q=>by omega)).grow gg7).keep k8 (fun q=>by omega)
 have va9:=va2.keep k9 (fun q=>by omega)
 have v9:=v8.keep k9 (fun q=>by omega)
 have o1':=((((o1.keep k16 (fun A hA q=>by omega)).bound.grow gg7).keep k8 (fun A hA q=>by have:=hA.2;omega)).keep k9 (fun A hA q=>by have:=hA.1;omega))
 have o2':=((((o2.keep k26 (fun A hA q=>by omega)).bound.grow gg7).keep k8 (fun A hA q=>by have:=hA.2;omega)).keep k9 (fun A hA q=>by have:=hA.1;omega))
 have o6':=(((o6.bound.grow gg7).keep k8 (fun A hA q=>by have:=hA.2;omega)).keep k9 (fun A hA q=>by have:=hA.1;omega))
 have gAll:Grows h g9:=((((gga.trans ggb).then kb6 (fun A hA q=>by omega)).trans gg7).then k8 (fun A hA q=>by omega)).then k9 (fun A hA q=>by omega)
 have ld:∀sp,g9.loadN ⟨g6.next,0,sp⟩ 13=some C:=fun sp=>v9.loadAll hCl
 have sv:zj g9 13 (.pointer (some ⟨h.next,0,none⟩)) (.agg C.toArray)=some (.tuple #[],g9.wr h.next C):=va9.storeAll hCl hZl (by decide) hCo
 have sz:zj g9 13 (.pointer (some ⟨h.next,0,none⟩)) (.agg Z.toArray)=some (.tuple #[],g9.wr h.next Z):=va9.storeAll hZl hZl (by decide) hZo
 have gW:∀l,Grows h (g9.wr h.next l):=fun l=>gAll.wr (by omega)
 rw[eX]
 subst hZ
 by_cases c0:E=0
 ·have b0:((E:Int)==0)=true:=by rw[c0];rfl
  (repeat (first|refine zS ?_|refine zK ?_|refine zR ?_|refine zD ?_|refine zB ?_|refine zI ?_|refine zJ ?_|refine zP ?_|refine zE ?_|refine zG ?_|refine zF ?_|refine zH (by decide) ?_|refine zQ ?_|((first|refine zC ?_|refine zM ?_|refine zO rfl rfl ?_|refine zN rfl ?_|refine zL ?_);simp only[yq42.down,zA,lemS.down,lemC.down,zdO,zdN,zdL,reduceIte,zdM,zdP,zdQ,zdR,zdS,zdT,zdU,zdV,zdW,reduceCtorEq,lemH.down,hga,hR,eb,e1,e2,e3,e4,e5,e6,fl,hg7,s7,e9,b0,ld,sv,Bool.not_true,Bool.not_false])))
  have eQ:dsQ (f.1,⟨a.2,b.2,c.2,d.2,e.2,f.2⟩)=(0,⟨a.2,b.2,c.2,d.2,e.2,f.2⟩):=by simp only[dsQ,hE,if_pos c0]
  rw[eQ]
  refine⟨.inr rfl,_,res2 (a:=⟨h.next,0,none⟩) (by simp only[yq42.down,zA,lemS.down,lemC.down,zdO,zdN,zdL,reduceIte,zdM,zdP,zdQ,zdR,zdS,zdT,zdU,zdV,zdW,reduceCtorEq]) (va9.wr.loadAll hCl) (by (simp only[yq42.down,zA,lemS.down,lemC.down,zdO,zdN,zdL,reduceIte,zdM,zdP,zdQ,zdR,zdS,zdT,zdU,zdV,zdW,reduceCtorEq])<;>rfl),_,_,_,by rw[hC];rfl,?_,gW C⟩
  have om:=(o1'.keep (Keeps.wr (A:=h.next) (l:=C)) (fun A hA q=>by have:=hA.1;omega)).mono (T:=fun A=>h.next≤A) (fun A hA=>by have:=hA.1;omega)
  refine⟨⟨h1.1,om.ints (zCU h1.2.1).1,h1.2.2⟩,om,(o2'.keep Keeps.wr (fun A hA q=>by have:=hA.1;omega)).mono (fun A hA=>by have:=hA.1;omega),f2,(o6'.keep Keeps.wr (fun A hA q=>by have:=hA.1;omega)).mono (fun A hA=>by have:=hA.1;omega),f6⟩
 ·have b0:((E:Int)==0)=false:=by rw[beq_eq_false_iff_ne];omega
  (repeat (first|refine zS ?_|refine zK ?_|refine zR ?_|refine zD ?_|refine zB ?_|refine zI ?_|refine zJ ?_|refine zP ?_|refine zE ?_|refine zG ?_|refine zF ?_|refine zH (by decide) ?_|refine zQ ?_|((first|refine zC ?_|refine zM ?_|refine zO rfl rfl ?_|refine zN rfl ?_|refine zL ?_);simp only[yq42.down,zA,lemS.down,lemC.down,zdO,zdN,zdL,reduceIte,zdM,zdP,zdQ,zdR,zdS,zdT,zdU,zdV,zdW,reduceCtorEq,lemH.down,hga,hR,eb,e1,e2,e3,e4,e5,e6,fl,hg7,s7,e9,b0,zAs,sz,Bool.not_true,Bool.not_false])))
  have eQ:dsQ (f.1,⟨a.2,b.2,c.2,d.2,e.2,f.2⟩)=(E,zeroS):=by simp only[dsQ,hE,if_neg c0]
  rw[eQ]
  refine⟨.inr rfl,_,res2 (a:=⟨h.next,0,none⟩) (by simp only[yq42.down,zA,lemS.down,lemC.down,zdO,zdN,zdL,reduceIte,zdM,zdP,zdQ,zdR,zdS,zdT,zdU,zdV,zdW,reduceCtorEq]) (va9.wr.loadAll rfl) (by (simp only[yq42.down,zA,lemS.down,lemC.down,zdO,zdN,zdL,reduceIte,zdM,zdP,zdQ,zdR,zdS,zdT,zdU,zdV,zdW,reduceCtorEq])<;>rfl),.slice none 0 0,.slice none 0 0,.slice none 0 0,rfl,?_,gW _⟩
  exact⟨zGr,Own.nil,Own.nil,by simp[zeroS],Own.nil,by show 0≤256;omega⟩
end Go.X
end
section
open Go Go.X
namespace Go.X
set_option linter.unusedVariables false
structure XV where
 hd:Hdr
 tags:TagL
 tx:TxV
 at_:Nat
 many:Nat
 path:List (List UInt8)
def zB2:XV:=⟨zeroH,[],zBI,0,0,[]⟩
def zMw (x:XV) (mv tv ov:Value):List Value:=hcells x.hd mv++[tv]++zIp x.tx ov++[.int .i64 (x.at_:Int),.int .i64 (x.many:Int)]
def zI6 (x:XV) (mv tv ov pv:Value):List Value:=zMw x mv tv ov++[pv]
def dtX (r:RS):RS×XV :=
 ((zBE (zl (zl (zl (txR (zAB (zAV r).1).1).1 16).1 16).1 8).2 (zl (zl (zl (txR (zAB (zAV r).1).1).1 16).1 16).1 8).1 []).1,⟨(zAV r).2,(zAB (zAV r).1).2,(txR (zAB (zAV r).1).1).2,(zl (txR (zAB (zAV r).1).1).1 16).2,(zl (zl (txR (zAB (zAV r).1).1).1 16).1 16).2,(zBE (zl (zl (zl (txR (zAB (zAV r).1).1).1 16).1 16).1 8).2 (zl (zl (zl (txR (zAB (zAV r).1).1).1 16).1 16).1 8).1 []).2⟩)
def dtQ (p:RS×XV):Nat×XV:=if (endR p.1).err=0 then (0,p.2) else ((endR p.1).err,zB2)
def dtR (s:List UInt8):Nat×XV:=dtQ (dtX ⟨s,0,0⟩)
structure XOk (h:Heap) (N:Nat) (x:XV) (mv tv ov pv:Value):Prop where
 hd:HdAt h x.hd mv
 mem:Own h (fun A=>N≤A) 1 mv x.hd.m.length (zAA x.hd.m)
 tags:Own h (fun A=>N≤A) 2 tv x.tags.length (zw x.tags)
 fine:∀q∈x.tags,inI q.1
 ops:Own h (fun A=>N≤A) 3 ov x.tx.ops.length (zAm x.tx.ops)
 okO:∀o∈x.tx.ops,okO o
 few:x.tx.ops.length≤8
 path:Own h (fun A=>N≤A) 1 pv x.path.length (zAJ x.path)
 short:x.path.length≤8
theorem set_last {C:List Value} {n:Nat} (hC:C.length=n) (v w:Value):(C++[v]).set n w=C++[w]:=by
 subst hC
 rw[List.set_append_right _ _ (Nat.le_refl _)]
 simp
theorem DT_run {pr:Prog} (T:DTab pr) {h:Heap} {s:List UInt8} (hs:s.length≤9223372036854775807) :
  ∃w h',cfi pr 43 [.string (strOf s)] h=some (w,h')∧∃mv tv ov pv,w=.tuple #[.agg (zI6 (dtR s).2 mv tv ov pv).toArray,.int .i64 ((dtR s).1:Int)]∧XOk h' h.next (dtR s).2 mv tv ov pv∧Grows h h':=by
 have hr64:zT=140737488355328:=rfl
 refine zq T.dt T.dtC rfl ?_
 unfold xq43
 dsimp only[zY]
 refine wpk.out (k:=[]) ?_
 obtain⟨Z,hZ⟩:∃Z:List Value,Z=[.int .u64 0,.string (strOf []),.string (strOf []),.string (strOf []),.slice none 0 0,.slice none 0 0,.int .u64 0,.int .u64 0,.slice none 0 0,.int .i64 0,.int .i64 0,.slice none 0 0]:=⟨_,rfl⟩
 have hZl:Z.length=12:=by rw[hZ];rfl
 have hZo:Z.all oneC=true:=by rw[hZ];rfl
 obtain⟨ga,hga,va,gga,gna⟩:=box5 (h:=h) Z
 obtain⟨gb,eb,rb,ggb⟩:=zJr T.wire ga s hs
 have nb:=ggb.next
 obtain⟨R,hR⟩:∃R,ga.next=R:=⟨_,rfl⟩
 rw[hR] at eb rb nb
 have hRb:R<gb.next:=rb.2.1
 obtain⟨w1,g1,e1,mv,rfl,r1,o1,h1,k1⟩:=HT_run T.hd rb
 obtain⟨a,ha⟩:∃a,zAV ⟨s,0,0⟩=a:=⟨_,rfl⟩
 rw[ha] at e1 r1 o1 h1
 obtain⟨tv,g2,e2,r2,o2,f2,k2⟩:=zJx T.ct r1
 obtain⟨b,hb⟩:∃b,zAB a.1=b:=⟨_,rfl⟩
 rw[hb] at r2 o2 f2
 obtain⟨w3,g3,e3,ov,rfl,r3,o3,f3,l3,k3⟩:=TT_run T.tt r2
 obtain⟨c,hc⟩:∃c,txR b.1=c:=⟨_,rfl⟩
 rw[hc] at e3 r3 o3 f3 l3
 obtain⟨g4,e4,r4,k4⟩:=zDs T.wire r3 16 (by omega)
 obtain⟨d,hd⟩:∃d,zl c.1 16=d:=⟨_,rfl⟩
 rw[hd] at e4 r4
 have e4:cfi pr 108 [.pointer (some ⟨R,0,none⟩),.int .i64 16] g3=some (.int .i64 (d.2:Int),g4):=e4
 obtain⟨g5,e5,r5,k5⟩:=zDs T.wire r4 16 (by omega)
 obtain⟨e,he⟩:∃e,zl d.1 16=e:=⟨_,rfl⟩
 rw[he] at e5 r5
 have e5:cfi pr 108 [.pointer (some ⟨R,0,none⟩),.int .i64 16] g4=some (.int .i64 (e.2:Int),g5):=e5
 have n1:=k1.next
 have n2:=k2.next
 have n3:=k3.next
 have k35:Keeps (fun A=>A=R) g3 g5:=k4.trans k5 (fun _ _ q=>q)
 have n35:=k35.next
 have k25:Keeps (fun A=>A=R) g2 g5:=k3.trans k35 (fun _ _ q=>q)
 have k15:Keeps (fun A=>A=R) g1 g5:=k2.trans k25 (fun _ _ q=>q)
 have kb5:Keeps (fun A=>A=R) gb g5:=k1.trans k15 (fun _ _ q=>q)
 obtain⟨av,cv,rfl,_⟩:=o1.shape
 obtain⟨at_,ct,rfl,_⟩:=o2.shape
 obtain⟨ao,co,rfl,_⟩:=o3.shape
 obtain⟨g7,hg7,v7,gg7,gn7⟩:=box5 (h:=g5) Z
 obtain⟨C,hC⟩:∃C:List Value,C=zMw ⟨a.2,b.2,c.2,d.2,e.2,[]⟩ (.slice av a.2.m.length cv) (.slice at_ b.2.length ct) (.slice ao c.2.ops.length co):=⟨_,rfl⟩
 have hCl:C.length=11:=by rw[hC];rfl
 have hCo:C.all oneC=true:=by rw[hC];rfl
 have fl:z8 Z [(0,5,.agg (hcells a.2 (.slice av a.2.m.length cv)).toArray),(5,1,.agg [.slice at_ b.2.length ct].toArray),(6,3,.agg (zIp c.2 (.slice ao c.2.ops.length co)).toArray),(9,1,.int .i64 (d.2:Int)),(10,1,.int .i64 (e.2:Int))]=some (C++[Value.slice none 0 0]):=by rw[hZ,hC];rfl
 obtain⟨B,hB⟩:∃B,g5.next=B:=⟨_,rfl⟩
 have s7:zj g7 12 (.pointer (some ⟨B,0,none⟩)) (.agg (C++[Value.slice none 0 0]).toArray)=some (.tuple #[],g7.wr B (C++[Value.slice none 0 0])):=by rw[←hB];exact v7.storeAll (vs:=C++[Value.slice none 0 0]) (by rw[List.length_append,hCl];rfl) hZl (by decide) (by rw[List.all_append,hCo];rfl)
 obtain⟨g8,hg8⟩:∃g8,g7.wr B (C++[Value.slice none 0 0])=g8:=⟨_,rfl⟩
 have v8:Var g8 B (C++[Value.slice none 0 0]):=by rw[←hg8,←hB];exact v7.wr
 have k8:Keeps (fun A=>A=B) g7 g8:=by rw[←hg8];exact Keeps.wr
 have n8e:g8.next=B+1:=by rw[←hg8,←hB];exact gn7
 rw[hg8] at s7
 have n8:=k8.next
 have r8:=(r5.grow gg7).keep k8 (fun q=>by omega)
 have va8:=(((va.grow ggb).keep kb5 (fun q=>by omega)).grow gg7).keep k8 (fun q=>by omega)
 have o1':=(((o1.keep k15 (fun A hA q=>by omega)).bound.grow gg7).keep k8 (fun A hA q=>by have:=hA.2;omega)).mono (T:=fun A=>h.next≤A∧A<B∧A≠R∧A≠h.next) (fun A hA=>by have:=hA.1;have:=hA.2;omega)
 have o2':=(((o2.keep k25 (fun A hA q=>by omega)).bound.grow gg7).keep k8 (fun A hA q=>by have:=hA.2;omega)).mono (T:=fun A=>h.next≤A∧A<B∧A≠R∧A≠h.next) (fun A hA=>by have:=hA.1;have:=hA.2;omega)
 have o3':=(((o3.keep k35 (fun A hA q=>by omega)).bound.grow gg7).keep k8 (fun A hA q=>by have:=hA.2;omega)).mono (T:=fun A=>h.next≤A∧A<B∧A≠R∧A≠h.next) (fun A hA=>by have:=hA.1;have:=hA.2;omega)
 have G8:Grows h g8:=(((gga.trans ggb).then kb5 (fun A hA q=>by omega)).trans gg7).then k8 (fun A hA q=>by omega)
 obtain⟨g9,e9,r9,k9⟩:=zDs T.wire r8 8 (by omega)
 have n9:=k9.next
 have hcm:=zFl e.1 8
 obtain⟨f,hf⟩:∃f,zl e.1 8=f:=⟨_,rfl⟩
 rw[hf] at e9 r9 hcm
 have e9:cfi pr 108 [.pointer (some ⟨R,0,none⟩),.int .i64 8] g8=some (.int .i64 (f.2:Int),g9):=e9
 obtain⟨Q,hQ⟩:∃Q,zBE f.2 f.1 []=Q:=⟨_,rfl⟩
 have eX:dtR s=dtQ (Q.1,⟨a.2,b.2,c.2,d.2,e.2,Q.2⟩):=by unfold dtR dtX;rw[ha,hb,hc,hd,he,hf,hQ]
 have hBh:h.next<B:=by omega
 have hRB:R<B:=by omega
 have hRh:h.next<R:=by omega
 subst hZ
 (repeat (first|refine zS ?_|refine zK ?_|refine zR ?_|refine zD ?_|refine zB ?_|refine zI ?_|refine zJ ?_|refine zP ?_|refine zE ?_|refine zG ?_|refine zF ?_|refine zH (by decide) ?_|refine zQ ?_|((first|refine zC ?_|refine zM ?_|refine zO rfl rfl ?_|refine zN rfl ?_|refine zL ?_);simp only[yq43.down,zA,lemS.down,lemC.down,zdO,zdN,zdL,reduceIte,zdM,zdP,zdQ,zdR,zdS,zdT,zdU,zdV,zdW,reduceCtorEq,lemH.down,hga,hR,eb,e1,e2,e3,e4,e5,fl,hg7,hB,s7,e9])))
 refine zAU (fun m t g=>∃r2 acc v,m+acc.length≤8∧zBE m r2 acc=Q∧Rd g R r2∧Own g (fun A=>B<A) 1 v acc.length (zAJ acc)∧Var g B (C++[v])∧Keeps (fun A=>A=R∨A=B) g8 g∧B<g.next∧t.get 2=.pointer (some ⟨h.next,0,none⟩)∧t.get 4=.pointer (some ⟨R,0,none⟩)∧t.get 5=.pointer (some ⟨B,0,none⟩)∧t.get 6=.int .i64 (m:Int)) ?_ f.2 _ _
   ⟨_,[],_,by simp;omega,hQ,r9,Own.nil,v8.keep k9 (fun q=>by omega),k9.mono fun A _ q=>.inl q,by omega,by simp only[yq43.down,zA,lemS.down,lemC.down,zdO,zdN,zdL,reduceIte,zdM,zdP,zdQ,zdR,zdS,zdT,zdU,zdV,zdW,reduceCtorEq],by simp only[yq43.down,zA,lemS.down,lemC.down,zdO,zdN,zdL,reduceIte,zdM,zdP,zdQ,zdR,zdS,zdT,zdU,zdV,zdW,reduceCtorEq],by simp only[yq43.down,zA,lemS.down,lemC.down,zdO,zdN,zdL,reduceIte,zdM,zdP,zdQ,zdR,zdS,zdT,zdU,zdV,zdW,reduceCtorEq],by simp only[yq43.down,zA,lemS.down,lemC.down,zdO,zdN,zdL,reduceIte,zdM,zdP,zdQ,zdR,zdS,zdT,zdU,zdV,zdW,reduceCtorEq]⟩
 have zz:=@zGr
 rintro m t g ⟨r2,acc,v,hm,hL,rd,oc,vb,kk,gn,t2,t4,t5,t6⟩ hnext
 refine xq43_7k ?_
 dsimp only[zJh]
 have er:=zAW T.wire rd
 have kkn:=kk.next
 have vz:=va8.keep kk (fun q=>by omega)
 obtain⟨ap,cp,rfl,_⟩:=oc.shape
 have q1:=o1'.keep kk (fun A hA q=>by omega)
 have q2:=o2'.keep kk (fun A hA q=>by omega)
 have q3:=o3'.keep kk (fun A hA q=>by omega)
 have Gg:Grows h g:=G8.then kk (fun A hA q=>by omega)
 have fin:zBE m r2 acc=(r2,acc)→dtR s=dtQ (r2,⟨a.2,b.2,c.2,d.2,e.2,acc⟩):=fun e=>by rw[eX,←hL,e]
 obtain⟨gE,eE,rE,kE⟩:=zJv T.wire rd
 obtain⟨E,hE⟩:∃E,(endR r2).err=E:=⟨_,rfl⟩
 rw[hE] at eE
 have vbE:=vb.keep kE (fun q=>by omega)
 have vzE:=vz.keep kE (fun q=>by omega)
 have hl12:(C++[Value.slice ap acc.length cp]).length=12:=by rw[List.length_append,hCl];rfl
 have ho12:(C++[Value.slice ap acc.length cp]).all oneC=true:=by rw[List.all_append,hCo];rfl
 have ld:∀sp,gE.loadN ⟨B,0,sp⟩ 12=some (C++[Value.slice ap acc.length cp]):=fun sp=>vbE.loadAll hl12
 have sv:zj gE 12 (.pointer (some ⟨h.next,0,none⟩)) (.agg (C++[Value.slice ap acc.length cp]).toArray)=some (.tuple #[],gE.wr h.next (C++[Value.slice ap acc.length cp])):=vzE.storeAll hl12 rfl (by decide) ho12
 have sz:zj gE 12 (.pointer (some ⟨h.next,0,none⟩)) (.agg [.int .u64 0,.string (strOf []),.string (strOf []),.string (strOf []),.slice none 0 0,.slice none 0 0,.int .u64 0,.int .u64 0,.slice none 0 0,.int .i64 0,.int .i64 0,.slice none 0 0].toArray)=some (.tuple #[],gE.wr h.next [.int .u64 0,.string (strOf []),.string (strOf []),.string (strOf []),.slice none 0 0,.slice none 0 0,.int .u64 0,.int .u64 0,.slice none 0 0,.int .i64 0,.int .i64 0,.slice none 0 0]):=vzE.storeAll rfl rfl (by decide) rfl
 have gW:∀l,Grows h (gE.wr h.next l):=fun l=>(Gg.then kE (fun A hA q=>by omega)).wr (by omega)
 have okF:XOk (gE.wr h.next (C++[Value.slice ap acc.length cp])) h.next ⟨a.2,b.2,c.2,d.2,e.2,acc⟩ (.slice av a.2.m.length cv) (.slice at_ b.2.length ct) (.slice ao c.2.ops.length co) (.slice ap acc.length cp):=by
  have om:=((q1.keep kE (fun A hA q=>by omega)).keep (Keeps.wr (A:=h.next) (l:=C++[Value.slice ap acc.length cp])) (fun A hA q=>by omega)).mono (T:=fun A=>h.next≤A) (fun A hA=>by omega)
  exact⟨⟨h1.1,om.ints (zCU h1.2.1).1,h1.2.2⟩,om,((q2.keep kE (fun A hA q=>by omega)).keep Keeps.wr (fun A hA q=>by omega)).mono (fun A hA=>by omega),f2,((q3.keep kE (fun A hA q=>by omega)).keep Keeps.wr (fun A hA q=>by omega)).mono (fun A hA=>by omega),f3,l3,((oc.keep kE (fun A hA q=>by omega)).keep Keeps.wr (fun A hA q=>by omega)).mono (fun A hA=>by omega),by show acc.length≤8;omega⟩
 have eC:C++[Value.slice ap acc.length cp]=zI6 ⟨a.2,b.2,c.2,d.2,e.2,acc⟩ (.slice av a.2.m.length cv) (.slice at_ b.2.length ct) (.slice ao c.2.ops.length co) (.slice ap acc.length cp):=by rw[hC];rfl
 cases m with
 | zero =>
  have eX2:=fin rfl
  rw[eX2]
  by_cases cE:E=0
  ·have bE:((E:Int)==0)=true:=by rw[cE];rfl
   (repeat (first|refine zS ?_|refine zK ?_|refine zR ?_|refine zD ?_|refine zB ?_|refine zI ?_|refine zJ ?_|refine zP ?_|refine zE ?_|refine zG ?_|refine zF ?_|refine zH (by decide) ?_|refine zQ ?_|((first|refine zC ?_|refine zM ?_|refine zO rfl rfl ?_|refine zN rfl ?_|refine zL ?_);simp only[yq43.down,zA,lemS.down,lemC.down,zdO,zdN,zdL,reduceIte,zdM,zdP,zdQ,zdR,zdS,zdT,zdU,zdV,zdW,reduceCtorEq,lemH.down,t2,t4,t5,t6,Nat.add_zero,zc,er,eE,bE,ld,sv,Bool.not_true,Bool.not_false])))
   have eQ:dtQ (r2,⟨a.2,b.2,c.2,d.2,e.2,acc⟩)=(0,⟨a.2,b.2,c.2,d.2,e.2,acc⟩):=by simp only[dtQ,hE,if_pos cE]
   rw[eQ]
   exact⟨.inr rfl,_,res2 (a:=⟨h.next,0,none⟩) (by simp only[yq43.down,zA,lemS.down,lemC.down,zdO,zdN,zdL,reduceIte,zdM,zdP,zdQ,zdR,zdS,zdT,zdU,zdV,zdW,reduceCtorEq,t2]) (vzE.wr.loadAll hl12) (by (simp only[yq43.down,zA,lemS.down,lemC.down,zdO,zdN,zdL,reduceIte,zdM,zdP,zdQ,zdR,zdS,zdT,zdU,zdV,zdW,reduceCtorEq])<;>rfl),_,_,_,_,by rw[eC];rfl,okF,gW _⟩
  ·have bE:((E:Int)==0)=false:=by rw[beq_eq_false_iff_ne];omega
   (repeat (first|refine zS ?_|refine zK ?_|refine zR ?_|refine zD ?_|refine zB ?_|refine zI ?_|refine zJ ?_|refine zP ?_|refine zE ?_|refine zG ?_|refine zF ?_|refine zH (by decide) ?_|refine zQ ?_|((first|refine zC ?_|refine zM ?_|refine zO rfl rfl ?_|refine zN rfl ?_|refine zL ?_);simp only[yq43.down,zA,lemS.down,lemC.down,zdO,zdN,zdL,reduceIte,zdM,zdP,zdQ,zdR,zdS,zdT,zdU,zdV,zdW,reduceCtorEq,lemH.down,t2,t4,t5,t6,Nat.add_zero,zc,er,eE,bE,zAs,sz,Bool.not_true,Bool.not_false])))
   have eQ:dtQ (r2,⟨a.2,b.2,c.2,d.2,e.2,acc⟩)=(E,zB2):=by simp only[dtQ,hE,if_neg cE]
   rw[eQ]
   exact⟨.inr rfl,_,res2 (a:=⟨h.next,0,none⟩) (by simp only[yq43.down,zA,lemS.down,lemC.down,zdO,zdN,zdL,reduceIte,zdM,zdP,zdQ,zdR,zdS,zdT,zdU,zdV,zdW,reduceCtorEq,t2]) (vzE.wr.loadAll rfl) (by (simp only[yq43.down,zA,lemS.down,lemC.down,zdO,zdN,zdL,reduceIte,zdM,zdP,zdQ,zdR,zdS,zdT,zdU,zdV,zdW,reduceCtorEq])<;>rfl),.slice none 0 0,.slice none 0 0,.slice none 0 0,.slice none 0 0,rfl,⟨zGr,Own.nil,Own.nil,by simp[zB2],Own.nil,by simp[zB2,zBI],by simp[zB2,zBI],Own.nil,by simp[zB2]⟩,gW _⟩
 | succ m =>
  have d0:decide (((m+1:Nat):Int)>0)=true:=decide_eq_true (by omega)
  by_cases c0:r2.err=0
  ·have b0:((r2.err:Int)==0)=true:=by rw[c0];rfl
   obtain⟨g1,e1,rd1,k1⟩:=zB3 T.wire rd
   obtain⟨x,hx⟩:∃x,zZ r2 32=x:=⟨_,rfl⟩
   rw[hx] at e1 rd1
   have hL2:zBE m x.1 (acc++[x.2])=Q:=by
    rw[←hL]
    conv=>rhs;unfold zBE
    rw[if_pos c0,hx]
   have oc1:=oc.keep k1 (fun A hA q=>by omega)
   obtain⟨v2,g2,e2,oc2,k2⟩:=oc1.pushS x.2 (by omega)
   have n1:=k1.next
   have n2:=k2.next
   have hg11:∀v:Value,(C++[v])[11]?=some v:=fun v=>by rw[List.getElem?_append_right (by omega),hCl];rfl
   have l0:∀sp,g.load ⟨B,11,sp⟩=some (.slice ap acc.length cp):=fun sp=>by rw[vb.load];exact hg11 _
   have vb1:=vb.keep k1 (fun q=>by omega)
   have l1:∀sp,(g1.new [.string (strOf x.2)]).load ⟨B,11,sp⟩=some (.slice ap acc.length cp):=fun sp=>by rw[(vb1.grow Grows.new).load];exact hg11 _
   have vb2:=vb1.keep k2 (fun q=>by omega)
   have st2:zj g2 1 (.pointer (some ⟨B,11,none⟩)) v2=some (.tuple #[],g2.wr B (C++[v2])):=by rw[oc2.store vb2 (by rw[hl12];decide),set_last hCl]
   have flh:z8 [.string (strOf [])] [(0,1,.string (strOf x.2))]=some [.string (strOf x.2)]:=rfl
   have wn:IntKind.i64.wrap (((m+1:Nat):Int) - 1)=(m:Int):=by rw[wrap_i64 (by omega) (by omega)];omega
   (repeat (first|refine zS ?_|refine zK ?_|refine zR ?_|refine zD ?_|refine zB ?_|refine zI ?_|refine zJ ?_|refine zP ?_|refine zE ?_|refine zG ?_|refine zF ?_|refine zH (by decide) ?_|refine zQ ?_|((first|refine zC ?_|refine zM ?_|refine zO rfl rfl ?_|refine zN rfl ?_|refine zL ?_);simp only[yq43.down,zA,lemS.down,lemC.down,zdO,zdN,zdL,reduceIte,zdM,zdP,zdQ,zdR,zdS,zdT,zdU,zdV,zdW,reduceCtorEq,lemH.down,t2,t4,t5,t6,d0,zc,er,b0,l0,e1,flh,e2,st2,wn])))
   refine⟨?_,?_⟩
   ·(refine zA4 rfl rfl rfl ?_ ?_<;>simp only[yq43.down,zA,lemS.down,lemC.down,zdO,zdN,zdL,reduceIte,zdM,zdP,zdQ,zdR,zdS,zdT,zdU,zdV,zdW,reduceCtorEq,l1,l0,zA1,zAz,zA2,zA0,zAq,Option.isSome_some])
   (repeat (first|refine zS ?_|refine zK ?_|refine zR ?_|refine zD ?_|refine zB ?_|refine zI ?_|refine zJ ?_|refine zP ?_|refine zE ?_|refine zG ?_|refine zF ?_|refine zH (by decide) ?_|refine zQ ?_|((first|refine zC ?_|refine zM ?_|refine zO rfl rfl ?_|refine zN rfl ?_|refine zL ?_);simp only[yq43.down,zA,lemS.down,lemC.down,zdO,zdN,zdL,reduceIte,zdM,zdP,zdQ,zdR,zdS,zdT,zdU,zdV,zdW,reduceCtorEq,lemH.down,t2,t4,t5,t6,wn,st2])))
   refine hnext m _ _ (Nat.lt_succ_self m) ⟨x.1,acc++[x.2],v2,by simp;omega,hL2,(rd1.keep k2 (fun q=>by omega)).keep Keeps.wr (by omega),?_,vb2.wr,((kk.trans k1 (fun _ _ q=>.inl q)).trans k2 (fun A hA q=>by omega)).trans Keeps.wr (fun A hA q=>.inr q),by show B<g2.next;omega,by simp only[yq43.down,zA,lemS.down,lemC.down,zdO,zdN,zdL,reduceIte,zdM,zdP,zdQ,zdR,zdS,zdT,zdU,zdV,zdW,reduceCtorEq,t2],by simp only[yq43.down,zA,lemS.down,lemC.down,zdO,zdN,zdL,reduceIte,zdM,zdP,zdQ,zdR,zdS,zdT,zdU,zdV,zdW,reduceCtorEq,t4],by simp only[yq43.down,zA,lemS.down,lemC.down,zdO,zdN,zdL,reduceIte,zdM,zdP,zdQ,zdR,zdS,zdT,zdU,zdV,zdW,reduceCtorEq,t5],by (simp only[yq43.down,zA,lemS.down,lemC.down,zdO,zdN,zdL,reduceIte,zdM,zdP,zdQ,zdR,zdS,zdT,zdU,zdV,zdW,reduceCtorEq])<;>rfl⟩
   rw[List.length_append]
   exact (oc2.bound.keep (Keeps.wr (A:=B)) (fun A hA q=>by have:=hA.1;omega)).mono fun A hA=>by have:=hA.1;omega
  ·have b0:((r2.err:Int)==0)=false:=by rw[beq_eq_false_iff_ne];omega
   have eX2:=fin (by unfold zBE;rw[if_neg c0])
   rw[eX2]
   by_cases cE:E=0
   ·have bE:((E:Int)==0)=true:=by rw[cE];rfl
    (repeat (first|refine zS ?_|refine zK ?_|refine zR ?_|refine zD ?_|refine zB ?_|refine zI ?_|refine zJ ?_|refine zP ?_|refine zE ?_|refine zG ?_|refine zF ?_|refine zH (by decide) ?_|refine zQ ?_|((first|refine zC ?_|refine zM ?_|refine zO rfl rfl ?_|refine zN rfl ?_|refine zL ?_);simp only[yq43.down,zA,lemS.down,lemC.down,zdO,zdN,zdL,reduceIte,zdM,zdP,zdQ,zdR,zdS,zdT,zdU,zdV,zdW,reduceCtorEq,lemH.down,t2,t4,t5,t6,d0,b0,zc,er,eE,bE,ld,sv,Bool.not_true,Bool.not_false])))
    have eQ:dtQ (r2,⟨a.2,b.2,c.2,d.2,e.2,acc⟩)=(0,⟨a.2,b.2,c.2,d.2,e.2,acc⟩):=by simp only[dtQ,hE,if_pos cE]
    rw[eQ]
    exact⟨.inr rfl,_,res2 (a:=⟨h.next,0,none⟩) (by simp only[yq43.down,zA,lemS.down,lemC.down,zdO,zdN,zdL,reduceIte,zdM,zdP,zdQ,zdR,zdS,zdT,zdU,zdV,zdW,reduceCtorEq,t2]) (vzE.wr.loadAll hl12) (by (simp only[yq43.down,zA,lemS.down,lemC.down,zdO,zdN,zdL,reduceIte,zdM,zdP,zdQ,zdR,zdS,zdT,zdU,zdV,zdW,reduceCtorEq])<;>rfl),_,_,_,_,by rw[eC];rfl,okF,gW _⟩
   ·have bE:((E:Int)==0)=false:=by rw[beq_eq_false_iff_ne];omega
    (repeat (first|refine zS ?_|refine zK ?_|refine zR ?_|refine zD ?_|refine zB ?_|refine zI ?_|refine zJ ?_|refine zP ?_|refine zE ?_|refine zG ?_|refine zF ?_|refine zH (by decide) ?_|refine zQ ?_|((first|refine zC ?_|refine zM ?_|refine zO rfl rfl ?_|refine zN rfl ?_|refine zL ?_);simp only[yq43.down,zA,lemS.down,lemC.down,zdO,zdN,zdL,reduceIte,zdM,zdP,zdQ,zdR,zdS,zdT,zdU,zdV,zdW,reduceCtorEq,lemH.down,t2,t4,t5,t6,d0,b0,zc,er,eE,bE,zAs,sz,Bool.not_true,Bool.not_false])))
    have eQ:dtQ (r2,⟨a.2,b.2,c.2,d.2,e.2,acc⟩)=(E,zB2):=by simp only[dtQ,hE,if_neg cE]
    rw[eQ]
    exact⟨.inr rfl,_,res2 (a:=⟨h.next,0,none⟩) (by simp only[yq43.down,zA,lemS.down,lemC.down,zdO,zdN,zdL,reduceIte,zdM,zdP,zdQ,zdR,zdS,zdT,zdU,zdV,zdW,reduceCtorEq,t2]) (vzE.wr.loadAll rfl) (by (simp only[yq43.down,zA,lemS.down,lemC.down,zdO,zdN,zdL,reduceIte,zdM,zdP,zdQ,zdR,zdS,zdT,zdU,zdV,zdW,reduceCtorEq])<;>rfl),.slice none 0 0,.slice none 0 0,.slice none 0 0,.slice none 0 0,rfl,⟨zGr,Own.nil,Own.nil,by simp[zB2],Own.nil,by simp[zB2,zBI],by simp[zB2,zBI],Own.nil,by simp[zB2]⟩,gW _⟩
end Go.X
end
