/- Rings and certificates. -/
import Derived.Test.YtnppabpbdobaiaaGreatProg
import Derived.KernelRfl
import Derived.Test.YtnppabpbdobaiaaGreatXC
import Derived.Test.YtnppabpbdobaiaaGreatXD
import Derived.Test.YtnppabpbdobaiaaGreatXJ
import Derived.Test.YtnppabpbdobaiaaGreatXK
set_option linter.unusedSimpArgs false
set_option linter.unusedVariables false
set_option maxHeartbeats 2000000
open Nat renaming reduceLeDiff → zdL, reduceEqDiff → zdM, reduceAdd → zdN
open Int renaming reduceBEq → zdO, reduceLT → zdP, reduceLE → zdQ, reduceGT → zdR, reduceGE → zdS, reduceEq → zdT, reduceAdd → zdU, reduceSub → zdV, reduceMul → zdW
section
open Go Go.X
namespace Go.X
set_option linter.unusedVariables false
def zAl (h:Heap) (a:Addr):Option (List (List UInt8)):=match h.load a with|some v=>zBO h v|none=>none
def keyP (l:List (List UInt8)) (i:Int):List UInt8×Bool:=if 0≤i∧i<l.length then (l.getD i.toNat [],true) else ([],false)
def keyG:Prim:=fun args h=>match args with
 | [.pointer (some a),.int .i64 i]=>(match zAl h a with
  | some l=>some (.tuple #[.string (strOf (keyP l i).1),.bool (keyP l i).2],h)
  | none=>none)
 | _=>none
theorem keyG_at {h:Heap} {a:Addr} {l:List (List UInt8)} {i:Int} (hr:zAl h a=some l):keyG [.pointer (some a),.int .i64 i] h=some (.tuple #[.string (strOf (keyP l i).1),.bool (keyP l i).2],h):=by simp only[keyG,hr]
theorem zL4 {h:Heap} {a:Addr} {l:List (List UInt8)} (hr:zAl h a=some l):∃v,h.load a=some v∧zBO h v=some l:=by
 unfold zAl at hr
 split at hr
 ·rename_i v hv;exact⟨v,hv,hr⟩
 ·cases hr
theorem key_ok (pr:Prog) (h:Heap) (a:Addr) (l:List (List UInt8)) (i:Int) (hr:zAl h a=some l):Comes pr xq198 [.pointer (some a),.int .i64 i] h (.tuple #[.string (strOf (keyP l i).1),.bool (keyP l i).2]):=by
 apply Comes.of
 unfold xq198
 dsimp only[zY]
 obtain⟨v,hv,hs⟩:=zL4 hr
 obtain⟨b,cap,rfl,hel⟩:=zMf hs
 have ld:∀sp,h.load ⟨a.block,a.off,sp⟩=some (.slice b l.length cap):=fun sp=>hv
 by_cases hi:i<0
 ·have d1:decide (i<0)=true:=by simpa using hi
  (repeat (first|refine zS ?_|refine zK ?_|refine zR ?_|refine zD ?_|refine zB ?_|refine zI ?_|refine zJ ?_|refine zP ?_|refine zE ?_|refine zG ?_|refine zF ?_|refine zH (by decide) ?_|refine zQ ?_|((first|refine zC ?_|refine zM ?_|refine zO rfl rfl ?_|refine zN rfl ?_|refine zL ?_);simp only[yq198.down,zA,lemS.down,lemC.down,zdO,zdN,zdL,reduceIte,zdM,zdP,zdQ,zdR,zdS,zdT,zdU,zdV,zdW,reduceCtorEq,lemH.down,zAT,d1])))
  refine⟨.inr rfl,?_,Grows.refl h⟩
  simp only[yq198.down,zA,lemS.down,lemC.down,zdO,zdN,zdL,reduceIte,zdM,zdP,zdQ,zdR,zdS,zdT,zdU,zdV,zdW,reduceCtorEq]
  unfold keyP
  rw[if_neg (by omega)]
 ·have d1:decide (i<0)=false:=by simpa using hi
  (repeat (first|refine zS ?_|refine zK ?_|refine zR ?_|refine zD ?_|refine zB ?_|refine zI ?_|refine zJ ?_|refine zP ?_|refine zE ?_|refine zG ?_|refine zF ?_|refine zH (by decide) ?_|refine zQ ?_|((first|refine zC ?_|refine zM ?_|refine zO rfl rfl ?_|refine zN rfl ?_|refine zL ?_);simp only[yq198.down,zA,lemS.down,lemC.down,zdO,zdN,zdL,reduceIte,zdM,zdP,zdQ,zdR,zdS,zdT,zdU,zdV,zdW,reduceCtorEq,lemH.down,zAT,d1,Nat.add_zero,ld])))
  refine⟨fun hge=>?_,fun hlt=>?_⟩
  ·(repeat (first|refine zS ?_|refine zK ?_|refine zR ?_|refine zD ?_|refine zB ?_|refine zI ?_|refine zJ ?_|refine zP ?_|refine zE ?_|refine zG ?_|refine zF ?_|refine zH (by decide) ?_|refine zQ ?_|((first|refine zC ?_|refine zM ?_|refine zO rfl rfl ?_|refine zN rfl ?_|refine zL ?_);simp only[yq198.down,zA,lemS.down,lemC.down,zdO,zdN,zdL,reduceIte,zdM,zdP,zdQ,zdR,zdS,zdT,zdU,zdV,zdW,reduceCtorEq,lemH.down])))
   refine⟨.inr rfl,?_,Grows.refl h⟩
   simp only[yq198.down,zA,lemS.down,lemC.down,zdO,zdN,zdL,reduceIte,zdM,zdP,zdQ,zdR,zdS,zdT,zdU,zdV,zdW,reduceCtorEq]
   unfold keyP
   rw[if_neg (by omega)]
  ·obtain⟨n,rfl⟩:∃n:Nat,i=(n:Int):=⟨i.toNat,by omega⟩
   obtain⟨B,o,ia,lo⟩:=hel n (by omega)
   (repeat (first|refine zS ?_|refine zK ?_|refine zR ?_|refine zD ?_|refine zB ?_|refine zI ?_|refine zJ ?_|refine zP ?_|refine zE ?_|refine zG ?_|refine zF ?_|refine zH (by decide) ?_|refine zQ ?_|((first|refine zC ?_|refine zM ?_|refine zO rfl rfl ?_|refine zN rfl ?_|refine zL ?_);simp only[yq198.down,zA,lemS.down,lemC.down,zdO,zdN,zdL,reduceIte,zdM,zdP,zdQ,zdR,zdS,zdT,zdU,zdV,zdW,reduceCtorEq,lemH.down,Nat.add_zero,ld,zAd,ia,lo])))
   refine⟨.inr rfl,?_,Grows.refl h⟩
   simp only[yq198.down,zA,lemS.down,lemC.down,zdO,zdN,zdL,reduceIte,zdM,zdP,zdQ,zdR,zdS,zdT,zdU,zdV,zdW,reduceCtorEq]
   unfold keyP
   rw[if_pos (by omega)]
   rfl
def zBS (l:List (List UInt8)):Bool:=l.all fun k=>Nat.ble (k.length+400) zT
theorem zbE {l:List (List UInt8)} (h:zBS l=true) (i:Nat):(l.getD i []).length+400≤zT:=by
 unfold zBS at h
 rw[List.all_eq_true] at h
 by_cases hi:i<l.length
 ·have:=h (l.getD i []) (by simp[List.getD_eq_getElem?_getD,List.getElem?_eq_getElem hi])
  exact Nat.le_of_ble_eq_true this
 ·rw[List.getD_eq_getElem?_getD,List.getElem?_eq_none (by omega)]
  decide
def zEk (l:List (List UInt8)) (i:Int) (s t:List UInt8):Bool:=(keyP l i).2&&(mac (keyP l i).1 s==t)
def zEP:Prim:=fun args h=>match args with
 | [.pointer (some a),.int .i64 i,.string s,.string t]=>(match zAl h a with
  | some l=>if zBS l=true∧s.data.toList.length+500≤zT then some (.bool (zEk l i s.data.toList t.data.toList),h) else none
  | none=>none)
 | _=>none
theorem zbk {h:Heap} {a:Addr} {l:List (List UInt8)} {i:Int} {s t:List UInt8} (hr:zAl h a=some l) (hk:zBS l=true) (hs:s.length+500≤zT):zEP [.pointer (some a),.int .i64 i,.string (strOf s),.string (strOf t)] h=some (.bool (zEk l i s t),h):=by
 simp only[zEP,hr,zAx]
 rw[if_pos ⟨hk,hs⟩]
theorem zbl (pr:Prog) (hp:pr.prim 198=some keyG) (ht:pr.prim 216=some (zh zCP)) (h:Heap) (a:Addr) (l:List (List UInt8)) (i:Int) (s t:List UInt8) (hr:zAl h a=some l) (hk:zBS l=true) (hs:s.length+500≤zT) :
  Comes pr xq177 [.pointer (some a),.int .i64 i,.string (strOf s),.string (strOf t)] h (.bool (zEk l i s t)):=by
 apply Comes.of
 unfold xq177
 dsimp only[zY]
 have k1:=zAr hp (keyG_at (i:=i) hr)
 have hkl:(keyP l i).1.length+400≤zT:=by
  unfold keyP;split
  ·exact zbE hk _
  ·decide
 have c1:=zAR (h:=h) ht (zaI (k:=(keyP l i).1) (s:=s) (t:=t) hkl hs)
 unfold zEk
 cases hc:(keyP l i).2
 ·(repeat (first|refine zS ?_|refine zK ?_|refine zR ?_|refine zD ?_|refine zB ?_|refine zI ?_|refine zJ ?_|refine zP ?_|refine zE ?_|refine zG ?_|refine zF ?_|refine zH (by decide) ?_|refine zQ ?_|((first|refine zC ?_|refine zM ?_|refine zO rfl rfl ?_|refine zN rfl ?_|refine zL ?_);simp only[yq177.down,zA,lemS.down,lemC.down,zdO,zdN,zdL,reduceIte,zdM,zdP,zdQ,zdR,zdS,zdT,zdU,zdV,zdW,reduceCtorEq,k1,hc])))
  exact⟨.inr rfl,by (simp only[yq177.down,zA,lemS.down,lemC.down,zdO,zdN,zdL,reduceIte,zdM,zdP,zdQ,zdR,zdS,zdT,zdU,zdV,zdW,reduceCtorEq])<;>rfl,Grows.refl h⟩
 ·(repeat (first|refine zS ?_|refine zK ?_|refine zR ?_|refine zD ?_|refine zB ?_|refine zI ?_|refine zJ ?_|refine zP ?_|refine zE ?_|refine zG ?_|refine zF ?_|refine zH (by decide) ?_|refine zQ ?_|((first|refine zC ?_|refine zM ?_|refine zO rfl rfl ?_|refine zN rfl ?_|refine zL ?_);simp only[yq177.down,zA,lemS.down,lemC.down,zdO,zdN,zdL,reduceIte,zdM,zdP,zdQ,zdR,zdS,zdT,zdU,zdV,zdW,reduceCtorEq,k1,hc,c1])))
  exact⟨.inr rfl,by (simp only[yq177.down,zA,lemS.down,lemC.down,zdO,zdN,zdL,reduceIte,zdM,zdP,zdQ,zdR,zdS,zdT,zdU,zdV,zdW,reduceCtorEq])<;>rfl,Grows.refl h⟩
def zCd (s:List UInt8) (i:Nat):List UInt8:=tagged 75 [s,[UInt8.ofNat i]]
def zCH (s:List UInt8) (n:Nat):List (List UInt8):=(List.range n).map (zCd s)
theorem zbm (s:List UInt8) (n:Nat):(zCH s n).length=n:=by simp[zCH]
theorem zL6 (s:List UInt8) (n:Nat):zBS (zCH s n)=true:=by
 unfold zBS zCH
 rw[List.all_eq_true]
 intro k hk
 obtain⟨i,_,rfl⟩:=List.mem_map.1 hk
 refine Nat.ble_eq_true_of_le ?_
 unfold zCd
 rw[zIl];decide
theorem fill2s {z w:Value} {a b:ByteArray}:z8 [z,w] [(0,1,.string a),(1,1,.string b)]=some [.string a,.string b]:=by simp[z8,zHP,putN]
theorem two_strs {h:Heap} {a b:List UInt8}:zBO (h.new [.string (strOf a),.string (strOf b)]) (.slice (some ⟨h.next,0,none⟩) 2 2)=some [a,b] :=
 (Own.newSlice (h:=h) (l:=zAJ [a,b]) (n:=2) (esz:=1) (sp:=none) rfl (.inl rfl)).strs
theorem zZ8 {a b:List (List UInt8)}:zAJ (a++b)=zAJ a++zAJ b:=by simp[zAJ]
theorem zZi (pr:Prog) (ht:pr.prim 160=some zBn) (hn:pr.prim 98=none) (hc:pr.code 98=some xq98) (h:Heap) (s:List UInt8) (n:Nat) (hb:n≤16) (hs:s.length+2000≤zT) :
  ∃v h',cfi pr 98 [.string (strOf s),.int .i64 (n:Int)] h=some (v,h')∧v=.tuple #[.pointer (some ⟨h.next,0,none⟩),.int .i64 0]∧(∃w,Var h' h.next [w]∧Own h' (fun A=>h.next≤A∧A≠h.next) 1 w n (zAJ (zCH s n)))∧Grows h h':=by
 refine zq hn hc rfl ?_
 unfold xq98
 dsimp only[zY]
 refine wpk.out (k:=[]) ?_
 have hr64:zT=140737488355328:=rfl
 have d1:decide ((n:Int)<0)=false:=by simp
 have d2:decide ((n:Int)>16)=false:=by simp;omega
 have hz:aggV (z8 [.slice none 0 0] [])=some (.agg [Value.slice none 0 0].toArray):=rfl
 (repeat (first|refine zS ?_|refine zK ?_|refine zR ?_|refine zD ?_|refine zB ?_|refine zI ?_|refine zJ ?_|refine zP ?_|refine zE ?_|refine zG ?_|refine zF ?_|refine zH (by decide) ?_|refine zQ ?_|((first|refine zC ?_|refine zM ?_|refine zO rfl rfl ?_|refine zN rfl ?_|refine zL ?_);simp only[yq98.down,zA,lemS.down,lemC.down,zdO,zdN,zdL,reduceIte,zdM,zdP,zdQ,zdR,zdS,zdT,zdU,zdV,zdW,reduceCtorEq,lemH.down,d1,d2,hz])))
 refine zAU (fun m t g=>∃i w,m=n - i∧i≤n∧Var g h.next [w]∧Own g (fun A=>h.next≤A∧A≠h.next) 1 w i (zAJ (zCH s i))∧Grows h g∧t.get 0=.string (strOf s)∧t.get 6=.pointer (some ⟨h.next,0,none⟩)∧t.get 16=.int .i64 (n:Int)∧t.get 17=.int .i64 (i:Int)) ?_ n _ _ ⟨0,_,rfl,by omega,Var.new_self,Own.nil,Grows.new,by simp only[yq98.down,zA,lemS.down,lemC.down,zdO,zdN,zdL,reduceIte,zdM,zdP,zdQ,zdR,zdS,zdT,zdU,zdV,zdW,reduceCtorEq],by simp only[yq98.down,zA,lemS.down,lemC.down,zdO,zdN,zdL,reduceIte,zdM,zdP,zdQ,zdR,zdS,zdT,zdU,zdV,zdW,reduceCtorEq],by simp only[yq98.down,zA,lemS.down,lemC.down,zdO,zdN,zdL,reduceIte,zdM,zdP,zdQ,zdR,zdS,zdT,zdU,zdV,zdW,reduceCtorEq],by (simp only[yq98.down,zA,lemS.down,lemC.down,zdO,zdN,zdL,reduceIte,zdM,zdP,zdQ,zdR,zdS,zdT,zdU,zdV,zdW,reduceCtorEq])<;>rfl⟩
 rintro m t g ⟨i,w,rfl,hi,gV,gO,gg,t0,t6,t16,t17⟩ hnext
 refine xq98_9k ?_
 dsimp only[zJp]
 (repeat (first|refine zS ?_|refine zK ?_|refine zR ?_|refine zD ?_|refine zB ?_|refine zI ?_|refine zJ ?_|refine zP ?_|refine zE ?_|refine zG ?_|refine zF ?_|refine zH (by decide) ?_|refine zQ ?_|((first|refine zC ?_|refine zM ?_|refine zO rfl rfl ?_|refine zN rfl ?_|refine zL ?_);simp only[yq98.down,zA,lemS.down,lemC.down,zdO,zdN,zdL,reduceIte,zdM,zdP,zdQ,zdR,zdS,zdT,zdU,zdV,zdW,reduceCtorEq,lemH.down,lemW.down,t0,t6,t16,t17])))
 refine⟨fun hlt=>?_,fun hge=>?_⟩
 ·have hi':i<n:=by omega
  have hlt2:h.next<g.next:=gV.1
  have ww:IntKind.i64.wrap ((i:Int)+1)=((i+1:Nat):Int):=by rw[wrap_i64 (by omega) (by omega)];omega
  have c:=zEU (k:=.u8) (k':=.i64) zMl (n:=i)
  have bc:=zKJ (p:=i) (by omega) (h:=g)
  have gV1:=gV.new_old (m:=[uw .u8 i])
  have gV2:=gV1.new_old (m:=[.string (strOf s),.string (strOf [UInt8.ofNat i])])
  have gV3:=gV2.new_old (m:=[.string (strOf (zCd s i))])
  have bc2:zCN ((g.new [uw .u8 i]).new [.string (strOf s),.string (strOf [UInt8.ofNat i])]) (.slice (some ⟨g.next,0,none⟩) 1 1)=some (.string (strOf [UInt8.ofNat i])):=by
   have hO:=(Own.newSlice (h:=g) (l:=zW [UInt8.ofNat i]) (n:=1) (esz:=1) (sp:=none) rfl (.inl rfl)).grow (Grows.new (l:=[.string (strOf s),.string (strOf [UInt8.ofNat i])]))
   have:=hO.cb2s
   rw[zCl] at this
   exact this
  have ts:=two_strs (h:=g.new [uw .u8 i]) (a:=s) (b:=[UInt8.ofNat i])
  rw[zE5] at ts
  have tg:=zAr ht (zGg (p:=75) ts (by decide) (by simp[zAe,zDa,zBD];omega))
  have tg:cfi pr 160 [.int .u8 75,.slice (some ⟨g.next+1,0,none⟩) 2 2] ((g.new [uw .u8 i]).new [.string (strOf s),.string (strOf [UInt8.ofNat i])])=some (.string (strOf (zCd s i)),(g.new [uw .u8 i]).new [.string (strOf s),.string (strOf [UInt8.ofNat i])]):=tg
  have gO3:=((gO.grow (Grows.new (l:=[uw .u8 i]))).grow (Grows.new (l:=[.string (strOf s),.string (strOf [UInt8.ofNat i])]))).grow (Grows.new (l:=[.string (strOf (zCd s i))]))
  have hs1:=(Var.new_self (h:=(g.new [uw .u8 i]).new [.string (strOf s),.string (strOf [UInt8.ofNat i])]) (l:=[.string (strOf (zCd s i))])).src (n:=1) (esz:=1) (bytes:=16) (s:=w) (sp:=none) (c:=1) rfl (by decide)
  obtain⟨w',g4,e4,gO4,k4⟩:=gO3.append (bytes:=16) (m:=1) (new:=[.string (strOf (zCd s i))]) rfl rfl (by decide) (by decide) (by omega)
  rw[e4,zE5,zE5] at hs1
  have gV4:=gV3.keep k4 (fun e=>e.2 rfl)
  have st:=gO4.store (i:=0) gV4 (by simp)
  simp only[List.set_cons_zero] at st
  (repeat (first|refine zS ?_|refine zK ?_|refine zR ?_|refine zD ?_|refine zB ?_|refine zI ?_|refine zJ ?_|refine zP ?_|refine zE ?_|refine zG ?_|refine zF ?_|refine zH (by decide) ?_|refine zQ ?_|((first|refine zC ?_|refine zM ?_|refine zO rfl rfl ?_|refine zN rfl ?_|refine zL ?_);simp only[yq98.down,zA,lemS.down,lemC.down,zdO,zdN,zdL,reduceIte,zdM,zdP,zdQ,zdR,zdS,zdT,zdU,zdV,zdW,reduceCtorEq,lemH.down,lemW.down,t0,t6,t16,t17,c,fill2s,bc,bc2,gV.load,gV1.load,gV2.load,gV3.load,List.getElem?_cons_zero,tg,hs1,st])))
  refine⟨⟨?_,?_⟩,?_,?_⟩
  ·(refine zA4 rfl rfl rfl ?_ ?_<;>simp only[yq98.down,zA,lemS.down,lemC.down,zdO,zdN,zdL,reduceIte,zdM,zdP,zdQ,zdR,zdS,zdT,zdU,zdV,zdW,reduceCtorEq,lemH.down,t6,gV.load,gV1.load,gV2.load,List.getElem?_cons_zero,zA1,zAz,zA2,zA0,zAq,Option.isSome_some])
  ·(refine zA4 rfl rfl rfl ?_ ?_<;>simp only[yq98.down,zA,lemS.down,lemC.down,zdO,zdN,zdL,reduceIte,zdM,zdP,zdQ,zdR,zdS,zdT,zdU,zdV,zdW,reduceCtorEq,lemH.down,bc,bc2,zA1,zAz,zA2,zA0,zAq,Option.isSome_some])
  ·(refine zA4 rfl rfl rfl ?_ ?_<;>simp only[yq98.down,zA,lemS.down,lemC.down,zdO,zdN,zdL,reduceIte,zdM,zdP,zdQ,zdR,zdS,zdT,zdU,zdV,zdW,reduceCtorEq,lemH.down,t6,gV.load,gV3.load,List.getElem?_cons_zero,zA1,zAz,zA2,zA0,zAq,Option.isSome_some])
  (repeat (first|refine zS ?_|refine zK ?_|refine zR ?_|refine zD ?_|refine zB ?_|refine zI ?_|refine zJ ?_|refine zP ?_|refine zE ?_|refine zG ?_|refine zF ?_|refine zH (by decide) ?_|refine zQ ?_|((first|refine zC ?_|refine zM ?_|refine zO rfl rfl ?_|refine zN rfl ?_|refine zL ?_);simp only[yq98.down,zA,lemS.down,lemC.down,zdO,zdN,zdL,reduceIte,zdM,zdP,zdQ,zdR,zdS,zdT,zdU,zdV,zdW,reduceCtorEq,lemH.down,lemW.down,t0,t6,t16,t17,ww])))
  refine hnext (n - (i+1)) _ _ (by omega) ⟨i+1,w',rfl,by omega,gV4.wr,?_,?_,by simp only[yq98.down,zA,lemS.down,lemC.down,zdO,zdN,zdL,reduceIte,zdM,zdP,zdQ,zdR,zdS,zdT,zdU,zdV,zdW,reduceCtorEq,t0],by simp only[yq98.down,zA,lemS.down,lemC.down,zdO,zdN,zdL,reduceIte,zdM,zdP,zdQ,zdR,zdS,zdT,zdU,zdV,zdW,reduceCtorEq,t6],by simp only[yq98.down,zA,lemS.down,lemC.down,zdO,zdN,zdL,reduceIte,zdM,zdP,zdQ,zdR,zdS,zdT,zdU,zdV,zdW,reduceCtorEq,t16],by simp only[yq98.down,zA,lemS.down,lemC.down,zdO,zdN,zdL,reduceIte,zdM,zdP,zdQ,zdR,zdS,zdT,zdU,zdV,zdW,reduceCtorEq]⟩
  ·have e:zAJ (zCH s (i+1))=zAJ (zCH s i)++[.string (strOf (zCd s i))]:=by
    unfold zCH
    rw[List.range_succ,List.map_append,zZ8]
    rfl
   rw[e]
   refine (gO4.mono fun A hA=>?_).keep Keeps.wr (fun A hA=>hA.2)
   rcases hA with hA|hA
   ·exact hA
   ·simp only[zE5] at hA
    exact⟨by omega,by omega⟩
  ·have g3:Grows h (((g.new [uw .u8 i]).new [.string (strOf s),.string (strOf [UInt8.ofNat i])]).new [.string (strOf (zCd s i))]):=((gg.trans Grows.new).trans Grows.new).trans Grows.new
   exact (g3.then k4 (fun A hA hS=>by omega)).wr (Nat.le_refl _)
 ·obtain rfl:i=n:=by omega
  (repeat (first|refine zS ?_|refine zK ?_|refine zR ?_|refine zD ?_|refine zB ?_|refine zI ?_|refine zJ ?_|refine zP ?_|refine zE ?_|refine zG ?_|refine zF ?_|refine zH (by decide) ?_|refine zQ ?_|((first|refine zC ?_|refine zM ?_|refine zO rfl rfl ?_|refine zN rfl ?_|refine zL ?_);simp only[yq98.down,zA,lemS.down,lemC.down,zdO,zdN,zdL,reduceIte,zdM,zdP,zdQ,zdR,zdS,zdT,zdU,zdV,zdW,reduceCtorEq,lemH.down,lemW.down,t0,t6,t16,t17])))
  exact⟨.inr rfl,_,rfl,by simp only[yq98.down,zA,lemS.down,lemC.down,zdO,zdN,zdL,reduceIte,zdM,zdP,zdQ,zdR,zdS,zdT,zdU,zdV,zdW,reduceCtorEq,t6],⟨w,gV,gO⟩,gg⟩
def Ring (h:Heap) (R N:Nat) (l:List (List UInt8)):Prop:=∃w,Var h R [w]∧Own h (fun A=>N≤A∧A≠R) 1 w l.length (zAJ l)
theorem Ring.at {h:Heap} {R N:Nat} {l:List (List UInt8)} (hr:Ring h R N l) {sp:Option Nat}:zAl h ⟨R,0,sp⟩=some l:=by
 obtain⟨w,hv,ho⟩:=hr
 have:=hv.load (i:=0) (sp:=sp)
 simp only[zAl,this,List.getElem?_cons_zero,ho.strs]
theorem Ring.grow {h h':Heap} {R N:Nat} {l:List (List UInt8)} (hr:Ring h R N l) (hg:Grows h h'):Ring h' R N l:=by
 obtain⟨w,hv,ho⟩:=hr
 exact⟨w,hv.grow hg,ho.grow hg⟩
theorem zL5 {h h':Heap} (wf:HWF h) (g:Grows h h') {a:Addr} {l:List (List UInt8)} (hr:zAl h a=some l):zAl h' a=some l:=by
 obtain⟨v,hv,hsv⟩:=zL4 hr
 unfold zAl
 rw[g.load wf hv]
 dsimp only
 unfold zBO at hsv ⊢
 split at hsv
 ·exact hsv
 ·split at hsv
  ·rename_i hn0
   rw[if_pos hn0];exact hsv
  ·rename_i hn0
   split at hsv
   ·rename_i cs hcs
    rw[if_neg hn0,g.loadN wf hcs];exact hsv
   ·cases hsv
 ·cases hsv
def RdRing (h:Heap) (a:Addr) (l:List (List UInt8)):Prop:=∀h',Grows h h'→zAl h' a=some l
theorem RdRing.grow {h h':Heap} {a:Addr} {l:List (List UInt8)} (hr:RdRing h a l) (g:Grows h h'):RdRing h' a l:=fun h2 g2=>hr h2 (g.trans g2)
theorem RdRing.now {h:Heap} {a:Addr} {l:List (List UInt8)} (hr:RdRing h a l):zAl h a=some l:=hr h (Grows.refl h)
end Go.X
end
section
namespace Go.X
open Go.Proofs
abbrev zZK:List XO:=[
 ⟨some 4,.p (.mov (C (.string (strOf [])))),none⟩]
def xq97_0:List XO:=zZK
theorem xq97_0e:E3 xq97_0 zZK:=E3.rfl
abbrev zZL:List XO:=[
 ⟨some 6,.call (.func 75) [],none⟩,
 ⟨some 5,.p (.mov (T 6)),none⟩]
def xq97_1:List XO:=zZL
theorem xq97_1e:E3 xq97_1 zZL:=E3.rfl
abbrev zZM:List XO:=[
 ⟨some 7,.p (.mov (T 5)),none⟩,
 ⟨some 8,.p (.mov (T 0)),none⟩,
 ⟨some 9,.call (.func 76) [(T 7),(T 8)],none⟩]
def xq97_2:List XO:=zZM
theorem xq97_2e:E3 xq97_2 zZM:=E3.rfl
abbrev zZN:List XO:=[
 ⟨some 10,.p (.mov (T 5)),none⟩,
 ⟨some 11,.p (.mov (T 1)),none⟩,
 ⟨some 12,.call (.func 77) [(T 10),(T 11)],none⟩]
def xq97_3:List XO:=zZN
theorem xq97_3e:E3 xq97_3 zZN:=E3.rfl
abbrev zZO:List XO:=[
 ⟨some 13,.p (.mov (T 5)),none⟩,
 ⟨some 14,.call (.func 81) [(T 13)],none⟩,
 ⟨some 15,.a (.bslice [(.string (strOf []))] 1 [(0,1,(T 14))]),none⟩,
 ⟨some 16,.call (.func 160) [(C (.int .u8 71)),(T 15)],none⟩,
 ⟨some 4,.p (.mov (T 16)),none⟩]
def xq97_4:List XO:=zZO
theorem xq97_4e:E3 xq97_4 zZO:=E3.rfl
def xq97:XF:=⟨2,[.tmp 4],
 .seq (.ops xq97_0) (.seq (.ops xq97_1) (.seq (.ops xq97_2) (.seq (.ops xq97_3) (.seq (.ops xq97_4) (.ret)))))⟩
def yq97:=PLift.up (And.intro (And.intro (@xq97_0e) (@xq97_1e)) (And.intro (@xq97_2e) (And.intro (@xq97_3e) (@xq97_4e))))
theorem cq97:zX Tryz.prog Tryz.f97=some xq97:=by kernel_rfl
abbrev zZa:List XO:=[
 ⟨some 1,.a (.box (T 0)),none⟩,
 ⟨some 2,.a (.alloc [(.int .u64 0),(.string (strOf [])),(.string (strOf [])),(.string (strOf [])),(.slice none 0 0)]),none⟩]
def xq99_0:List XO:=zZa
theorem xq99_0e:E3 xq99_0 zZa:=E3.rfl
abbrev zZb:List XO:=[
 ⟨some 3,.p (.faddr 4 (T 1)),none⟩,
 ⟨some 4,.r (.load1 (T 3)),none⟩,
 ⟨some 5,.call (.func 59) [(T 4)],none⟩,
 ⟨some 6,.p (.faddr 4 (T 1)),none⟩,
 ⟨none,.e (.store 1 (T 6) (T 5)),none⟩]
def xq99_1:List XO:=zZb
theorem xq99_1e:E3 xq99_1 zZb:=E3.rfl
abbrev zZc:List XO:=[
 ⟨some 7,.r (.loadN 5 (T 1)),none⟩,
 ⟨none,.e (.store 5 (T 2) (T 7)),none⟩]
def xq99_2:List XO:=zZc
theorem xq99_2e:E3 xq99_2 zZc:=E3.rfl
def xq99:XF:=⟨1,[.cellN 2 5],
 .seq (.ops xq99_0) (.seq (.ops xq99_1) (.seq (.ops xq99_2) (.ret)))⟩
def yq99:=PLift.up (And.intro (@xq99_0e) (And.intro (@xq99_1e) (@xq99_2e)))
theorem cq99:zX Tryz.prog Tryz.f99=some xq99:=by kernel_rfl
abbrev zYJ:List XO:=[
 ⟨some 2,.p (.mov (C (.slice none 0 0))),none⟩]
def xq59_0:List XO:=zYJ
theorem xq59_0e:E3 xq59_0 zYJ:=E3.rfl
abbrev zYK:List XO:=[
 ⟨some 3,.p (.mov (T 0)),none⟩,
 ⟨some 4,.p (.eql false .nslice (T 3) (C (.slice none 0 0))),none⟩]
def xq59_1:List XO:=zYK
theorem xq59_1e:E3 xq59_1 zYK:=E3.rfl
abbrev zYL:List XO:=[
 ⟨some 2,.p (.mov (C (.slice none 0 0))),none⟩]
def xq59_2:List XO:=zYL
theorem xq59_2e:E3 xq59_2 zYL:=E3.rfl
abbrev zYM:List XO:=[
 ⟨some 5,.a (.bslice [] 0 []),none⟩,
 ⟨some 6,.p (.mov (T 0)),none⟩,
 ⟨some 7,.e (.append 1 8 (T 5) (T 6)),none⟩,
 ⟨some 2,.p (.mov (T 7)),none⟩]
def xq59_3:List XO:=zYM
theorem xq59_3e:E3 xq59_3 zYM:=E3.rfl
def xq59:XF:=⟨1,[.tmp 2],
 .seq (.ops xq59_0) (.seq (.seq (.ops xq59_1) (.cond (T 4) (.seq (.ops xq59_2) (.ret)) (.skip))) (.seq (.ops xq59_3) (.ret)))⟩
def yq59:=PLift.up (And.intro (And.intro (@xq59_0e) (@xq59_1e)) (And.intro (@xq59_2e) (@xq59_3e)))
theorem cq59:zX Tryz.prog Tryz.f59=some xq59:=by kernel_rfl
abbrev zRW:List XO:=[
 ⟨some 1,.a (.box (T 0)),none⟩,
 ⟨some 2,.p (.mov (C (.string (strOf [])))),none⟩]
def zRV:List XO:=zRW
theorem xq162_0e:E3 zRV zRW:=E3.rfl
abbrev zRY:List XO:=[
 ⟨some 3,.r (.loadN 5 (T 1)),none⟩,
 ⟨some 4,.call (.func 102) [(T 3)],none⟩,
 ⟨some 5,.a (.bslice [(.string (strOf []))] 1 [(0,1,(T 4))]),none⟩,
 ⟨some 6,.call (.func 160) [(C (.int .u8 67)),(T 5)],none⟩,
 ⟨some 2,.p (.mov (T 6)),none⟩]
def zRX:List XO:=zRY
theorem xq162_1e:E3 zRX zRY:=E3.rfl
def xq162:XF:=⟨1,[.tmp 2],
 .seq (.ops zRV) (.seq (.ops zRX) (.ret))⟩
def yq162:=PLift.up (And.intro (@xq162_0e) (@xq162_1e))
theorem cq162:zX Tryz.prog Tryz.f162=some xq162:=by kernel_rfl
abbrev zPn:List XO:=[
 ⟨some 4,.a (.box (T 1)),none⟩,
 ⟨some 5,.a (.box (T 2)),none⟩,
 ⟨some 6,.p (.mov (C (.bool false))),none⟩]
def zPm:List XO:=zPn
theorem xq127_0e:E3 zPm zPn:=E3.rfl
abbrev zPp:List XO:=[
 ⟨some 7,.r (.loadN 5 (T 4)),none⟩,
 ⟨some 8,.call (.func 64) [(T 7)],none⟩,
 ⟨some 9,.p (.eql false .int (T 8) (C (.int .i64 0))),none⟩,
 ⟨some 10,.p (.mov (T 9)),none⟩,
 ⟨some 11,.p (.mov (T 0)),some (10,true)⟩,
 ⟨some 12,.p (.faddr 0 (T 5)),some (10,true)⟩,
 ⟨some 13,.r (.load1 (T 12)),some (10,true)⟩,
 ⟨some 14,.r (.loadN 5 (T 4)),some (10,true)⟩,
 ⟨some 15,.call (.func 162) [(T 14)],some (10,true)⟩,
 ⟨some 16,.p (.faddr 1 (T 5)),some (10,true)⟩,
 ⟨some 17,.r (.load1 (T 16)),some (10,true)⟩,
 ⟨some 18,.call (.func 177) [(T 11),(T 13),(T 15),(T 17)],some (10,true)⟩,
 ⟨some 19,.p (.pick (T 10) (T 18) (C (.bool false))),none⟩,
 ⟨some 6,.p (.mov (T 19)),none⟩]
def zPo:List XO:=zPp
theorem xq127_1e:E3 zPo zPp:=E3.rfl
def xq127:XF:=⟨3,[.tmp 6],
 .seq (.ops zPm) (.seq (.draw zPo [(6,(11,[])),(10,(8,[]))]) (.ret))⟩
def yq127:=PLift.up (And.intro (@xq127_0e) (@xq127_1e))
theorem cq127:zX Tryz.prog Tryz.f127=some xq127:=by kernel_rfl
abbrev zSE:List XO:=[
 ⟨some 2,.p (.mov (C (.int .i64 0))),none⟩]
def zSD:List XO:=zSE
theorem xq178_0e:E3 zSD zSE:=E3.rfl
abbrev zSG:List XO:=[
 ⟨some 3,.p (.mov (T 0)),none⟩,
 ⟨some 4,.p (.bin .quo (T 3) (C (.int .i64 2))),none⟩,
 ⟨some 5,.p (.bin .add (T 4) (C (.int .i64 1))),none⟩,
 ⟨some 2,.p (.mov (T 5)),none⟩]
def zSF:List XO:=zSG
theorem xq178_1e:E3 zSF zSG:=E3.rfl
def xq178:XF:=⟨1,[.tmp 2],
 .seq (.ops zSD) (.seq (.ops zSF) (.ret))⟩
def yq178:=PLift.up (And.intro (@xq178_0e) (@xq178_1e))
theorem cq178:zX Tryz.prog Tryz.f178=some xq178:=by kernel_rfl
abbrev zPr:List XO:=[
 ⟨some 4,.p (.mov (C (.bool false))),none⟩]
def zPq:List XO:=zPr
theorem xq128_0e:E3 zPq zPr:=E3.rfl
abbrev zPt:List XO:=[
 ⟨some 5,.p (.mov (C (.int .i64 0))),none⟩]
def zPs:List XO:=zPt
theorem xq128_1e:E3 zPs zPt:=E3.rfl
abbrev zPv:List XO:=[
 ⟨some 8,.p (.mov (T 0)),none⟩,
 ⟨some 9,.p (.lenV (T 8)),none⟩,
 ⟨some 10,.p (.mov (C (.int .i64 0))),none⟩]
def zPu:List XO:=zPv
theorem xq128_2e:E3 zPu zPv:=E3.rfl
abbrev zPx:List XO:=[
 ⟨some 11,.p (.bin .lss (T 10) (T 9)),none⟩]
def zPw:List XO:=zPx
theorem xq128_3e:E3 zPw zPx:=E3.rfl
abbrev zPz:List XO:=[
 ⟨some 12,.p (.iaddrS 1 (T 8) (T 10)),none⟩,
 ⟨some 13,.r (.load1 (T 12)),none⟩,
 ⟨some 7,.p (.mov (T 13)),none⟩]
def zPy:List XO:=zPz
theorem xq128_4e:E3 zPy zPz:=E3.rfl
abbrev zP1:List XO:=[
 ⟨some 14,.p (.mov (T 1)),none⟩,
 ⟨some 15,.p (.mov (T 7)),none⟩,
 ⟨some 16,.r (.lookup (.bool false) false .int (T 14) (T 15)),none⟩]
def zP0:List XO:=zP1
theorem xq128_5e:E3 zP0 zP1:=E3.rfl
abbrev zP3:List XO:=[
 ⟨some 17,.p (.mov (T 5)),none⟩,
 ⟨some 18,.p (.bin .add (T 17) (C (.int .i64 1))),none⟩,
 ⟨some 5,.p (.mov (T 18)),none⟩]
def zP2:List XO:=zP3
theorem xq128_6e:E3 zP2 zP3:=E3.rfl
abbrev zP5:List XO:=[
 ⟨some 19,.p (.bin .add (T 10) (C (.int .i64 1))),none⟩,
 ⟨some 10,.p (.mov (T 19)),none⟩]
def zP4:List XO:=zP5
theorem xq128_7e:E3 zP4 zP5:=E3.rfl
def zJE:XC :=
 .seq (.ops zPw) (.seq (.cond (T 11) (.skip) (.exit 0)) (.seq (.block 1 (.seq (.ops zPy) (.seq (.ops zP0) (.cond (T 16) (.ops zP2) (.skip))))) (.ops zP4)))
def zP6:XC:=zJE
theorem xq128_8k {pr:Prog} {k:List KI} {Q:XE→Fr→Heap→Prop} {t:Fr} {h:Heap} (hw:wpk pr zJE k Q t h):wpk pr zP6 k Q t h:=hw
abbrev zP8:List XO:=[
 ⟨some 20,.p (.mov (T 0)),none⟩,
 ⟨some 21,.p (.lenV (T 20)),none⟩,
 ⟨some 22,.p (.bin .gtr (T 21) (C (.int .i64 0))),none⟩,
 ⟨some 23,.p (.mov (T 22)),none⟩,
 ⟨some 24,.p (.mov (T 5)),some (23,true)⟩,
 ⟨some 25,.p (.mov (T 0)),some (23,true)⟩,
 ⟨some 26,.p (.lenV (T 25)),some (23,true)⟩,
 ⟨some 27,.call (.func 178) [(T 26)],some (23,true)⟩,
 ⟨some 28,.p (.bin .geq (T 24) (T 27)),some (23,true)⟩,
 ⟨some 29,.p (.pick (T 23) (T 28) (C (.bool false))),none⟩,
 ⟨some 4,.p (.mov (T 29)),none⟩]
def zP7:List XO:=zP8
theorem xq128_9e:E3 zP7 zP8:=E3.rfl
def xq128:XF:=⟨2,[.tmp 4],
 .seq (.ops zPq) (.seq (.ops zPs) (.seq (.seq (.ops zPu) (.block 0 (.loop zP6))) (.seq (.ops zP7) (.ret))))⟩
def yq128:=PLift.up (And.intro (And.intro (And.intro (@xq128_0e) (@xq128_1e)) (And.intro (@xq128_2e) (@xq128_3e))) (And.intro (And.intro (@xq128_4e) (@xq128_5e)) (And.intro (@xq128_6e) (And.intro (@xq128_7e) (@xq128_9e)))))
theorem cq128:zX Tryz.prog Tryz.f128=some xq128:=by kernel_rfl
abbrev zXm:List XO:=[
 ⟨some 5,.a (.box (T 1)),none⟩,
 ⟨some 6,.a (.box (T 2)),none⟩,
 ⟨some 8,.p (.mov (C (.int .i64 0))),none⟩]
def xq51_0:List XO:=zXm
theorem xq51_0e:E3 xq51_0 zXm:=E3.rfl
abbrev zX2:List XO:=[
 ⟨some 13,.p (.mov (T 3)),none⟩,
 ⟨some 14,.call (.func 56) [(T 13)],none⟩,
 ⟨some 15,.p (.un .not (T 14)),none⟩]
def xq51_1:List XO:=zX2
theorem xq51_1e:E3 xq51_1 zX2:=E3.rfl
abbrev zX3:List XO:=[
 ⟨some 8,.p (.mov (C (.int .i64 1))),none⟩]
def xq51_2:List XO:=zX3
theorem xq51_2e:E3 xq51_2 zX3:=E3.rfl
abbrev zX4:List XO:=[
 ⟨some 16,.r (.loadN 5 (T 5)),none⟩,
 ⟨some 17,.call (.func 64) [(T 16)],none⟩,
 ⟨some 9,.p (.mov (T 17)),none⟩]
def xq51_3:List XO:=zX4
theorem xq51_3e:E3 xq51_3 zX4:=E3.rfl
abbrev zX5:List XO:=[
 ⟨some 18,.p (.mov (T 9)),none⟩,
 ⟨some 19,.p (.eql true .int (T 18) (C (.int .i64 0))),none⟩]
def xq51_4:List XO:=zX5
theorem xq51_4e:E3 xq51_4 zX5:=E3.rfl
abbrev zX6:List XO:=[
 ⟨some 20,.p (.mov (T 9)),none⟩,
 ⟨some 8,.p (.mov (T 20)),none⟩]
def xq51_5:List XO:=zX6
theorem xq51_5e:E3 xq51_5 zX6:=E3.rfl
abbrev zX7:List XO:=[
 ⟨some 21,.a (.mkmap),none⟩,
 ⟨some 10,.p (.mov (T 21)),none⟩]
def xq51_6:List XO:=zX7
theorem xq51_6e:E3 xq51_6 zX7:=E3.rfl
abbrev zX8:List XO:=[
 ⟨some 22,.p (.faddr 0 (T 6)),none⟩,
 ⟨some 23,.r (.load1 (T 22)),none⟩,
 ⟨some 24,.p (.lenV (T 23)),none⟩,
 ⟨some 25,.p (.mov (C (.int .i64 0))),none⟩]
def xq51_7:List XO:=zX8
theorem xq51_7e:E3 xq51_7 zX8:=E3.rfl
abbrev zX9:List XO:=[
 ⟨some 26,.p (.bin .lss (T 25) (T 24)),none⟩]
def xq51_8:List XO:=zX9
theorem xq51_8e:E3 xq51_8 zX9:=E3.rfl
abbrev zYA:List XO:=[
 ⟨some 27,.p (.mov (T 25)),none⟩,
 ⟨some 28,.p (.iaddrS 2 (T 23) (T 25)),none⟩,
 ⟨some 29,.r (.loadN 2 (T 28)),none⟩,
 ⟨some 12,.a (.alloc [(.int .i64 0),(.string (strOf []))]),none⟩,
 ⟨some 11,.p (.mov (T 27)),none⟩,
 ⟨none,.e (.store 2 (T 12) (T 29)),none⟩]
def xq51_9:List XO:=zYA
theorem xq51_9e:E3 xq51_9 zYA:=E3.rfl
abbrev zXo:List XO:=[
 ⟨some 30,.p (.mov (T 11)),none⟩,
 ⟨some 31,.p (.bin .gtr (T 30) (C (.int .i64 0))),none⟩,
 ⟨some 32,.p (.mov (T 31)),none⟩,
 ⟨some 33,.p (.faddr 0 (T 6)),some (32,true)⟩,
 ⟨some 34,.r (.load1 (T 33)),some (32,true)⟩,
 ⟨some 35,.p (.mov (T 11)),some (32,true)⟩,
 ⟨some 36,.p (.bin .sub (T 35) (C (.int .i64 1))),some (32,true)⟩,
 ⟨some 37,.p (.iaddrS 2 (T 34) (T 36)),some (32,true)⟩,
 ⟨some 38,.p (.faddr 0 (T 37)),some (32,true)⟩,
 ⟨some 39,.r (.load1 (T 38)),some (32,true)⟩,
 ⟨some 40,.p (.faddr 0 (T 12)),some (32,true)⟩,
 ⟨some 41,.r (.load1 (T 40)),some (32,true)⟩,
 ⟨some 42,.p (.bin .geq (T 39) (T 41)),some (32,true)⟩,
 ⟨some 43,.p (.pick (T 32) (T 42) (C (.bool false))),none⟩,
 ⟨some 44,.p (.mov (T 43)),none⟩,
 ⟨some 45,.p (.mov (T 0)),some (44,false)⟩,
 ⟨some 46,.r (.loadN 5 (T 5)),some (44,false)⟩,
 ⟨some 47,.r (.loadN 2 (T 12)),some (44,false)⟩,
 ⟨some 48,.call (.func 127) [(T 45),(T 46),(T 47)],some (44,false)⟩,
 ⟨some 49,.p (.un .not (T 48)),some (44,false)⟩,
 ⟨some 50,.p (.pick (T 44) (C (.bool true)) (T 49)),none⟩]
def zXn:List XO:=zXo
theorem xq51_10e:E3 zXn zXo:=E3.rfl
abbrev zXq:List XO:=[
 ⟨some 8,.p (.mov (C (.int .i64 170))),none⟩]
def zXp:List XO:=zXq
theorem xq51_11e:E3 zXp zXq:=E3.rfl
abbrev zXs:List XO:=[
 ⟨some 51,.p (.mov (T 10)),none⟩,
 ⟨some 52,.p (.faddr 0 (T 12)),none⟩,
 ⟨some 53,.r (.load1 (T 52)),none⟩,
 ⟨none,.e (.mupd .int (T 51) (T 53) (C (.bool true))),none⟩]
def zXr:List XO:=zXs
theorem xq51_12e:E3 zXr zXs:=E3.rfl
abbrev zXu:List XO:=[
 ⟨some 54,.p (.bin .add (T 25) (C (.int .i64 1))),none⟩,
 ⟨some 25,.p (.mov (T 54)),none⟩]
def zXt:List XO:=zXu
theorem xq51_13e:E3 zXt zXu:=E3.rfl
def zJi:XC :=
 .seq (.ops xq51_8) (.seq (.cond (T 26) (.skip) (.exit 0)) (.seq (.block 1 (.seq (.ops xq51_9) (.seq (.seq (.draw zXn []) (.cond (T 50) (.seq (.ops zXp) (.ret)) (.skip))) (.ops zXr)))) (.ops zXt)))
def zXv:XC:=zJi
theorem xq51_14k {pr:Prog} {k:List KI} {Q:XE→Fr→Heap→Prop} {t:Fr} {h:Heap} (hw:wpk pr zJi k Q t h):wpk pr zXv k Q t h:=hw
abbrev zXx:List XO:=[
 ⟨some 55,.p (.mov (T 3)),none⟩,
 ⟨some 56,.p (.mov (T 10)),none⟩,
 ⟨some 57,.call (.func 128) [(T 55),(T 56)],none⟩,
 ⟨some 58,.p (.un .not (T 57)),none⟩]
def zXw:List XO:=zXx
theorem xq51_15e:E3 zXw zXx:=E3.rfl
abbrev zXz:List XO:=[
 ⟨some 8,.p (.mov (C (.int .i64 170))),none⟩]
def zXy:List XO:=zXz
theorem xq51_16e:E3 zXy zXz:=E3.rfl
abbrev zX1:List XO:=[
 ⟨some 8,.p (.mov (C (.int .i64 0))),none⟩]
def zX0:List XO:=zX1
theorem xq51_17e:E3 zX0 zX1:=E3.rfl
def xq51:XF:=⟨4,[.tmp 8],
 .seq (.ops xq51_0) (.seq (.seq (.ops xq51_1) (.cond (T 15) (.seq (.ops xq51_2) (.ret)) (.skip))) (.seq (.seq (.ops xq51_3) (.seq (.ops xq51_4) (.cond (T 19) (.seq (.ops xq51_5) (.ret)) (.skip)))) (.seq (.ops xq51_6) (.seq (.seq (.ops xq51_7) (.block 0 (.loop zXv))) (.seq (.seq (.ops zXw) (.cond (T 58) (.seq (.ops zXy) (.ret)) (.skip))) (.seq (.ops zX0) (.ret)))))))⟩
def yq51:=PLift.up (And.intro (And.intro (And.intro (And.intro (@xq51_0e) (@xq51_1e)) (And.intro (@xq51_2e) (@xq51_3e))) (And.intro (And.intro (@xq51_4e) (@xq51_5e)) (And.intro (@xq51_6e) (@xq51_7e)))) (And.intro (And.intro (And.intro (@xq51_8e) (@xq51_9e)) (And.intro (@xq51_10e) (@xq51_11e))) (And.intro (And.intro (@xq51_12e) (@xq51_13e)) (And.intro (@xq51_15e) (And.intro (@xq51_16e) (@xq51_17e))))))
theorem cq51:zX Tryz.prog Tryz.f51=some xq51:=by kernel_rfl
abbrev zWR:List XO:=[
 ⟨some 0,.p (.mov (C (.pointer none))),none⟩]
def xq36_0:List XO:=zWR
theorem xq36_0e:E3 xq36_0 zWR:=E3.rfl
abbrev zWS:List XO:=[
 ⟨some 4,.call (.func 98) [(C (.string (strOf [115,101,101,100]))),(C (.int .i64 16))],none⟩,
 ⟨some 3,.p (.mov (T 4)),none⟩,
 ⟨some 5,.p (.ext (T 3) 0),none⟩,
 ⟨some 6,.p (.ext (T 3) 1),none⟩,
 ⟨some 1,.p (.mov (T 5)),none⟩,
 ⟨some 2,.p (.mov (T 6)),none⟩]
def xq36_1:List XO:=zWS
theorem xq36_1e:E3 xq36_1 zWS:=E3.rfl
abbrev zWT:List XO:=[
 ⟨some 7,.p (.mov (T 1)),none⟩,
 ⟨some 0,.p (.mov (T 7)),none⟩]
def xq36_2:List XO:=zWT
theorem xq36_2e:E3 xq36_2 zWT:=E3.rfl
def xq36:XF:=⟨0,[.tmp 0],
 .seq (.ops xq36_0) (.seq (.ops xq36_1) (.seq (.ops xq36_2) (.ret)))⟩
def yq36:=PLift.up (And.intro (@xq36_0e) (And.intro (@xq36_1e) (@xq36_2e)))
theorem cq36:zX Tryz.prog Tryz.f36=some xq36:=by kernel_rfl
abbrev zWN:List XO:=[
 ⟨some 6,.p (.mov (C (.pointer none))),none⟩,
 ⟨some 7,.p (.mov (C (.int .i64 0))),none⟩]
def xq35_0:List XO:=zWN
theorem xq35_0e:E3 xq35_0 zWN:=E3.rfl
abbrev zWO:List XO:=[
 ⟨some 8,.p (.mov (T 2)),none⟩,
 ⟨some 9,.p (.eql false .nptr (T 8) (C (.pointer none))),none⟩,
 ⟨some 10,.p (.mov (T 9)),none⟩,
 ⟨some 11,.p (.mov (T 1)),some (10,false)⟩,
 ⟨some 12,.call (.func 56) [(T 11)],some (10,false)⟩,
 ⟨some 13,.p (.un .not (T 12)),some (10,false)⟩,
 ⟨some 14,.p (.pick (T 10) (C (.bool true)) (T 13)),none⟩,
 ⟨some 15,.p (.mov (T 14)),none⟩,
 ⟨some 16,.p (.mov (T 0)),some (15,false)⟩,
 ⟨some 17,.p (.lenS (T 16)),some (15,false)⟩,
 ⟨some 18,.p (.bin .gtr (T 17) (C (.int .i64 32))),some (15,false)⟩,
 ⟨some 19,.p (.pick (T 15) (C (.bool true)) (T 18)),none⟩]
def xq35_1:List XO:=zWO
theorem xq35_1e:E3 xq35_1 zWO:=E3.rfl
abbrev zWP:List XO:=[
 ⟨some 6,.p (.mov (C (.pointer none))),none⟩,
 ⟨some 7,.p (.mov (C (.int .i64 1))),none⟩]
def xq35_2:List XO:=zWP
theorem xq35_2e:E3 xq35_2 zWP:=E3.rfl
abbrev zWQ:List XO:=[
 ⟨some 20,.p (.mov (T 2)),none⟩,
 ⟨some 21,.p (.mov (T 1)),none⟩,
 ⟨some 22,.call (.func 59) [(T 21)],none⟩,
 ⟨some 23,.p (.mov (T 1)),none⟩,
 ⟨some 24,.call (.func 59) [(T 23)],none⟩,
 ⟨some 25,.p (.mov (T 0)),none⟩,
 ⟨some 26,.p (.mov (T 1)),none⟩,
 ⟨some 27,.call (.func 97) [(T 25),(T 26)],none⟩,
 ⟨some 28,.p (.build [(.pointer none),(.slice none 0 0),(.slice none 0 0),(.string (strOf [])),(.slice none 0 0)] [(0,1,(T 20)),(1,1,(T 22)),(2,1,(T 24)),(3,1,(T 27))]),none⟩,
 ⟨some 29,.a (.box (T 28)),none⟩,
 ⟨some 6,.p (.mov (T 29)),none⟩,
 ⟨some 7,.p (.mov (C (.int .i64 0))),none⟩]
def xq35_3:List XO:=zWQ
theorem xq35_3e:E3 xq35_3 zWQ:=E3.rfl
def xq35:XF:=⟨3,[.tmp 6,.tmp 7],
 .seq (.ops xq35_0) (.seq (.seq (.ops xq35_1) (.cond (T 19) (.seq (.ops xq35_2) (.ret)) (.skip))) (.seq (.ops xq35_3) (.ret)))⟩
def yq35:=PLift.up (And.intro (And.intro (@xq35_0e) (@xq35_1e)) (And.intro (@xq35_2e) (@xq35_3e)))
theorem cq35:zX Tryz.prog Tryz.f35=some xq35:=by kernel_rfl
abbrev zUP:List XO:=[
 ⟨some 4,.a (.alloc [(.int .u64 0),(.string (strOf [])),(.string (strOf [])),(.string (strOf [])),(.slice none 0 0)]),none⟩,
 ⟨some 5,.p (.mov (C (.bool false))),none⟩]
def zUO:List XO:=zUP
theorem xq214_0e:E3 zUO zUP:=E3.rfl
abbrev zUR:List XO:=[
 ⟨some 6,.a (.alloc [(.int .u64 0),(.string (strOf [])),(.string (strOf [])),(.string (strOf [])),(.slice none 0 0)]),none⟩]
def zUQ:List XO:=zUR
theorem xq214_1e:E3 zUQ zUR:=E3.rfl
abbrev zUT:List XO:=[
 ⟨some 7,.p (.mov (T 1)),none⟩,
 ⟨some 8,.p (.bin .lss (T 7) (C (.int .u64 1))),none⟩,
 ⟨some 9,.p (.mov (T 8)),none⟩,
 ⟨some 10,.p (.mov (T 1)),some (9,false)⟩,
 ⟨some 11,.p (.mov (T 0)),some (9,false)⟩,
 ⟨some 12,.p (.lenV (T 11)),some (9,false)⟩,
 ⟨some 13,.p (.cint .u64 (T 12)),some (9,false)⟩,
 ⟨some 14,.p (.bin .gtr (T 10) (T 13)),some (9,false)⟩,
 ⟨some 15,.p (.pick (T 9) (C (.bool true)) (T 14)),none⟩]
def zUS:List XO:=zUT
theorem xq214_2e:E3 zUS zUT:=E3.rfl
abbrev zUV:List XO:=[
 ⟨some 16,.r (.loadN 5 (T 6)),none⟩,
 ⟨none,.e (.store 5 (T 4) (T 16)),none⟩,
 ⟨some 5,.p (.mov (C (.bool false))),none⟩]
def zUU:List XO:=zUV
theorem xq214_3e:E3 zUU zUV:=E3.rfl
abbrev zUX:List XO:=[
 ⟨some 17,.p (.mov (T 0)),none⟩,
 ⟨some 18,.p (.mov (T 1)),none⟩,
 ⟨some 19,.p (.bin .sub (T 18) (C (.int .u64 1))),none⟩,
 ⟨some 20,.p (.iaddrS 5 (T 17) (T 19)),none⟩,
 ⟨some 21,.r (.loadN 5 (T 20)),none⟩,
 ⟨none,.e (.store 5 (T 4) (T 21)),none⟩,
 ⟨some 5,.p (.mov (C (.bool true))),none⟩]
def zUW:List XO:=zUX
theorem xq214_4e:E3 zUW zUX:=E3.rfl
def xq214:XF:=⟨2,[.cellN 4 5,.tmp 5],
 .seq (.ops zUO) (.seq (.ops zUQ) (.seq (.seq (.ops zUS) (.cond (T 15) (.seq (.ops zUU) (.ret)) (.skip))) (.seq (.ops zUW) (.ret))))⟩
def yq214:=PLift.up (And.intro (And.intro (@xq214_0e) (@xq214_1e)) (And.intro (@xq214_2e) (And.intro (@xq214_3e) (@xq214_4e))))
theorem cq214:zX Tryz.prog Tryz.f214=some xq214:=by kernel_rfl
abbrev zRy:List XO:=[
 ⟨some 4,.a (.alloc [(.int .u64 0),(.string (strOf [])),(.string (strOf [])),(.string (strOf [])),(.slice none 0 0)]),none⟩,
 ⟨some 5,.p (.mov (C (.bool false))),none⟩]
def zRx:List XO:=zRy
theorem xq174_0e:E3 zRx zRy:=E3.rfl
abbrev zR0:List XO:=[
 ⟨some 8,.p (.mov (T 0)),none⟩,
 ⟨some 9,.p (.eql false .nptr (T 8) (C (.pointer none))),none⟩]
def zRz:List XO:=zR0
theorem xq174_1e:E3 zRz zR0:=E3.rfl
abbrev zR2:List XO:=[
 ⟨some 10,.p (.build [(.int .u64 0),(.string (strOf [])),(.string (strOf [])),(.string (strOf [])),(.slice none 0 0)] []),none⟩,
 ⟨none,.e (.store 5 (T 4) (T 10)),none⟩,
 ⟨some 5,.p (.mov (C (.bool false))),none⟩]
def zR1:List XO:=zR2
theorem xq174_2e:E3 zR1 zR2:=E3.rfl
abbrev zR4:List XO:=[
 ⟨some 12,.p (.mov (T 0)),none⟩,
 ⟨some 13,.p (.nilc (T 12)),none⟩,
 ⟨some 14,.p (.faddr 4 (T 13)),none⟩,
 ⟨some 15,.r (.load1 (T 14)),none⟩,
 ⟨some 16,.p (.mov (T 1)),none⟩,
 ⟨some 17,.call (.func 214) [(T 15),(T 16)],none⟩,
 ⟨some 11,.p (.mov (T 17)),none⟩,
 ⟨some 18,.p (.ext (T 11) 0),none⟩,
 ⟨some 19,.p (.ext (T 11) 1),none⟩,
 ⟨some 6,.a (.alloc [(.int .u64 0),(.string (strOf [])),(.string (strOf [])),(.string (strOf [])),(.slice none 0 0)]),none⟩,
 ⟨none,.e (.store 5 (T 6) (T 18)),none⟩,
 ⟨some 7,.p (.mov (T 19)),none⟩]
def zR3:List XO:=zR4
theorem xq174_3e:E3 zR3 zR4:=E3.rfl
abbrev zR6:List XO:=[
 ⟨some 20,.r (.loadN 5 (T 6)),none⟩,
 ⟨some 21,.call (.func 99) [(T 20)],none⟩,
 ⟨some 22,.p (.mov (T 7)),none⟩,
 ⟨none,.e (.store 5 (T 4) (T 21)),none⟩,
 ⟨some 5,.p (.mov (T 22)),none⟩]
def zR5:List XO:=zR6
theorem xq174_4e:E3 zR5 zR6:=E3.rfl
def xq174:XF:=⟨2,[.cellN 4 5,.tmp 5],
 .seq (.ops zRx) (.seq (.seq (.ops zRz) (.cond (T 9) (.seq (.ops zR1) (.ret)) (.skip))) (.seq (.ops zR3) (.seq (.ops zR5) (.ret))))⟩
def yq174:=PLift.up (And.intro (And.intro (@xq174_0e) (@xq174_1e)) (And.intro (@xq174_2e) (And.intro (@xq174_3e) (@xq174_4e))))
theorem cq174:zX Tryz.prog Tryz.f174=some xq174:=by kernel_rfl
abbrev zXi:List XO:=[
 ⟨some 2,.p (.mov (C (.int .u64 0))),none⟩]
def xq50_0:List XO:=zXi
theorem xq50_0e:E3 xq50_0 zXi:=E3.rfl
abbrev zXj:List XO:=[
 ⟨some 3,.p (.mov (T 0)),none⟩,
 ⟨some 4,.p (.eql false .nptr (T 3) (C (.pointer none))),none⟩]
def xq50_1:List XO:=zXj
theorem xq50_1e:E3 xq50_1 zXj:=E3.rfl
abbrev zXk:List XO:=[
 ⟨some 2,.p (.mov (C (.int .u64 0))),none⟩]
def xq50_2:List XO:=zXk
theorem xq50_2e:E3 xq50_2 zXk:=E3.rfl
abbrev zXl:List XO:=[
 ⟨some 5,.p (.mov (T 0)),none⟩,
 ⟨some 6,.p (.nilc (T 5)),none⟩,
 ⟨some 7,.p (.faddr 4 (T 6)),none⟩,
 ⟨some 8,.r (.load1 (T 7)),none⟩,
 ⟨some 9,.p (.lenV (T 8)),none⟩,
 ⟨some 10,.p (.cint .u64 (T 9)),none⟩,
 ⟨some 2,.p (.mov (T 10)),none⟩]
def xq50_3:List XO:=zXl
theorem xq50_3e:E3 xq50_3 zXl:=E3.rfl
def xq50:XF:=⟨1,[.tmp 2],
 .seq (.ops xq50_0) (.seq (.seq (.ops xq50_1) (.cond (T 4) (.seq (.ops xq50_2) (.ret)) (.skip))) (.seq (.ops xq50_3) (.ret)))⟩
def yq50:=PLift.up (And.intro (And.intro (@xq50_0e) (@xq50_1e)) (And.intro (@xq50_2e) (@xq50_3e)))
theorem cq50:zX Tryz.prog Tryz.f50=some xq50:=by kernel_rfl
abbrev zWm:List XO:=[
 ⟨some 2,.p (.mov (C (.string (strOf [])))),none⟩]
def xq41_0:List XO:=zWm
theorem xq41_0e:E3 xq41_0 zWm:=E3.rfl
abbrev zWn:List XO:=[
 ⟨some 3,.p (.mov (T 0)),none⟩,
 ⟨some 4,.p (.eql false .nptr (T 3) (C (.pointer none))),none⟩]
def xq41_1:List XO:=zWn
theorem xq41_1e:E3 xq41_1 zWn:=E3.rfl
abbrev zWo:List XO:=[
 ⟨some 2,.p (.mov (C (.string (strOf [])))),none⟩]
def xq41_2:List XO:=zWo
theorem xq41_2e:E3 xq41_2 zWo:=E3.rfl
abbrev zWp:List XO:=[
 ⟨some 5,.p (.mov (T 0)),none⟩,
 ⟨some 6,.p (.nilc (T 5)),none⟩,
 ⟨some 7,.p (.faddr 4 (T 6)),none⟩,
 ⟨some 8,.r (.load1 (T 7)),none⟩,
 ⟨some 9,.p (.lenV (T 8)),none⟩,
 ⟨some 10,.p (.eql false .int (T 9) (C (.int .i64 0))),none⟩]
def xq41_3:List XO:=zWp
theorem xq41_3e:E3 xq41_3 zWp:=E3.rfl
abbrev zWq:List XO:=[
 ⟨some 11,.p (.mov (T 0)),none⟩,
 ⟨some 12,.p (.nilc (T 11)),none⟩,
 ⟨some 13,.p (.faddr 3 (T 12)),none⟩,
 ⟨some 14,.r (.load1 (T 13)),none⟩,
 ⟨some 2,.p (.mov (T 14)),none⟩]
def xq41_4:List XO:=zWq
theorem xq41_4e:E3 xq41_4 zWq:=E3.rfl
abbrev zWr:List XO:=[
 ⟨some 15,.p (.mov (T 0)),none⟩,
 ⟨some 16,.p (.nilc (T 15)),none⟩,
 ⟨some 17,.p (.faddr 4 (T 16)),none⟩,
 ⟨some 18,.r (.load1 (T 17)),none⟩,
 ⟨some 19,.p (.mov (T 0)),none⟩,
 ⟨some 20,.p (.nilc (T 19)),none⟩,
 ⟨some 21,.p (.faddr 4 (T 20)),none⟩,
 ⟨some 22,.r (.load1 (T 21)),none⟩,
 ⟨some 23,.p (.lenV (T 22)),none⟩,
 ⟨some 24,.p (.bin .sub (T 23) (C (.int .i64 1))),none⟩,
 ⟨some 25,.p (.iaddrS 5 (T 18) (T 24)),none⟩,
 ⟨some 26,.r (.loadN 5 (T 25)),none⟩,
 ⟨some 27,.call (.func 102) [(T 26)],none⟩,
 ⟨some 2,.p (.mov (T 27)),none⟩]
def xq41_5:List XO:=zWr
theorem xq41_5e:E3 xq41_5 zWr:=E3.rfl
def xq41:XF:=⟨1,[.tmp 2],
 .seq (.ops xq41_0) (.seq (.seq (.ops xq41_1) (.cond (T 4) (.seq (.ops xq41_2) (.ret)) (.skip))) (.seq (.seq (.ops xq41_3) (.cond (T 10) (.seq (.ops xq41_4) (.ret)) (.skip))) (.seq (.draw xq41_5 []) (.ret))))⟩
def yq41:=PLift.up (And.intro (And.intro (@xq41_0e) (And.intro (@xq41_1e) (@xq41_2e))) (And.intro (@xq41_3e) (And.intro (@xq41_4e) (@xq41_5e))))
theorem cq41:zX Tryz.prog Tryz.f41=some xq41:=by kernel_rfl
abbrev zPd:List XO:=[
 ⟨some 3,.a (.box (T 1)),none⟩,
 ⟨some 4,.p (.mov (C (.slice none 0 0))),none⟩,
 ⟨some 5,.p (.mov (C (.int .i64 0))),none⟩]
def zPc:List XO:=zPd
theorem xq125_0e:E3 zPc zPd:=E3.rfl
abbrev zPf:List XO:=[
 ⟨some 9,.p (.mov (T 0)),none⟩,
 ⟨some 10,.p (.faddr 0 (T 3)),none⟩,
 ⟨some 11,.r (.load1 (T 10)),none⟩,
 ⟨some 12,.call (.func 174) [(T 9),(T 11)],none⟩,
 ⟨some 8,.p (.mov (T 12)),none⟩,
 ⟨some 13,.p (.ext (T 8) 0),none⟩,
 ⟨some 14,.p (.ext (T 8) 1),none⟩,
 ⟨some 6,.a (.alloc [(.int .u64 0),(.string (strOf [])),(.string (strOf [])),(.string (strOf [])),(.slice none 0 0)]),none⟩,
 ⟨none,.e (.store 5 (T 6) (T 13)),none⟩,
 ⟨some 7,.p (.mov (T 14)),none⟩]
def zPe:List XO:=zPf
theorem xq125_1e:E3 zPe zPf:=E3.rfl
abbrev zPh:List XO:=[
 ⟨some 15,.p (.mov (T 7)),none⟩,
 ⟨some 16,.p (.un .not (T 15)),none⟩,
 ⟨some 17,.p (.mov (T 16)),none⟩,
 ⟨some 18,.r (.loadN 5 (T 6)),some (17,false)⟩,
 ⟨some 19,.r (.loadN 5 (T 3)),some (17,false)⟩,
 ⟨some 20,.call (.func 70) [(T 18),(T 19)],some (17,false)⟩,
 ⟨some 21,.p (.un .not (T 20)),some (17,false)⟩,
 ⟨some 22,.p (.pick (T 17) (C (.bool true)) (T 21)),none⟩]
def zPg:List XO:=zPh
theorem xq125_2e:E3 zPg zPh:=E3.rfl
abbrev zPj:List XO:=[
 ⟨some 4,.p (.mov (C (.slice none 0 0))),none⟩,
 ⟨some 5,.p (.mov (C (.int .i64 80))),none⟩]
def zPi:List XO:=zPj
theorem xq125_3e:E3 zPi zPj:=E3.rfl
abbrev zPl:List XO:=[
 ⟨some 23,.p (.mov (T 0)),none⟩,
 ⟨some 24,.p (.faddr 0 (T 3)),none⟩,
 ⟨some 25,.r (.load1 (T 24)),none⟩,
 ⟨some 26,.call (.func 175) [(T 23),(T 25)],none⟩,
 ⟨some 4,.p (.mov (T 26)),none⟩,
 ⟨some 5,.p (.mov (C (.int .i64 0))),none⟩]
def zPk:List XO:=zPl
theorem xq125_4e:E3 zPk zPl:=E3.rfl
def xq125:XF:=⟨2,[.tmp 4,.tmp 5],
 .seq (.ops zPc) (.seq (.ops zPe) (.seq (.seq (.ops zPg) (.cond (T 22) (.seq (.ops zPi) (.ret)) (.skip))) (.seq (.ops zPk) (.ret))))⟩
def yq125:=PLift.up (And.intro (And.intro (@xq125_0e) (@xq125_1e)) (And.intro (@xq125_2e) (And.intro (@xq125_3e) (@xq125_4e))))
theorem cq125:zX Tryz.prog Tryz.f125=some xq125:=by kernel_rfl
abbrev zXS:List XO:=[
 ⟨some 4,.a (.alloc [(.int .u64 0),(.string (strOf [])),(.string (strOf [])),(.string (strOf [])),(.slice none 0 0),(.slice none 0 0),(.string (strOf [])),(.bool false),(.string (strOf [])),(.slice none 0 0),(.bool false),(.string (strOf [])),(.string (strOf []))]),none⟩,
 ⟨some 5,.p (.mov (C (.int .i64 0))),none⟩]
def xq49_0:List XO:=zXS
theorem xq49_0e:E3 xq49_0 zXS:=E3.rfl
abbrev zXZ:List XO:=[
 ⟨some 10,.p (.mov (T 0)),none⟩,
 ⟨some 11,.p (.eql false .nptr (T 10) (C (.pointer none))),none⟩]
def xq49_1:List XO:=zXZ
theorem xq49_1e:E3 xq49_1 zXZ:=E3.rfl
abbrev zXa:List XO:=[
 ⟨some 12,.p (.build [(.int .u64 0),(.string (strOf [])),(.string (strOf [])),(.string (strOf [])),(.slice none 0 0),(.slice none 0 0),(.string (strOf [])),(.bool false),(.string (strOf [])),(.slice none 0 0),(.bool false),(.string (strOf [])),(.string (strOf []))] []),none⟩,
 ⟨none,.e (.store 13 (T 4) (T 12)),none⟩,
 ⟨some 5,.p (.mov (C (.int .i64 1))),none⟩]
def xq49_2:List XO:=zXa
theorem xq49_2e:E3 xq49_2 zXa:=E3.rfl
abbrev zXb:List XO:=[
 ⟨some 14,.p (.mov (T 1)),none⟩,
 ⟨some 15,.call (.func 42) [(T 14)],none⟩,
 ⟨some 13,.p (.mov (T 15)),none⟩,
 ⟨some 16,.p (.ext (T 13) 0),none⟩,
 ⟨some 17,.p (.ext (T 13) 1),none⟩,
 ⟨some 6,.a (.alloc [(.int .u64 0),(.string (strOf [])),(.string (strOf [])),(.string (strOf [])),(.slice none 0 0),(.slice none 0 0),(.string (strOf [])),(.bool false),(.string (strOf [])),(.slice none 0 0),(.bool false),(.string (strOf [])),(.string (strOf []))]),none⟩,
 ⟨none,.e (.store 13 (T 6) (T 16)),none⟩,
 ⟨some 7,.p (.mov (T 17)),none⟩]
def xq49_3:List XO:=zXb
theorem xq49_3e:E3 xq49_3 zXb:=E3.rfl
abbrev zXc:List XO:=[
 ⟨some 18,.p (.mov (T 7)),none⟩,
 ⟨some 19,.p (.eql true .int (T 18) (C (.int .i64 0))),none⟩]
def xq49_4:List XO:=zXc
theorem xq49_4e:E3 xq49_4 zXc:=E3.rfl
abbrev zXd:List XO:=[
 ⟨some 20,.p (.build [(.int .u64 0),(.string (strOf [])),(.string (strOf [])),(.string (strOf [])),(.slice none 0 0),(.slice none 0 0),(.string (strOf [])),(.bool false),(.string (strOf [])),(.slice none 0 0),(.bool false),(.string (strOf [])),(.string (strOf []))] []),none⟩,
 ⟨some 21,.p (.mov (T 7)),none⟩,
 ⟨none,.e (.store 13 (T 4) (T 20)),none⟩,
 ⟨some 5,.p (.mov (T 21)),none⟩]
def xq49_5:List XO:=zXd
theorem xq49_5e:E3 xq49_5 zXd:=E3.rfl
abbrev zXe:List XO:=[
 ⟨some 23,.p (.mov (T 0)),none⟩,
 ⟨some 24,.p (.faddr 0 (T 6)),none⟩,
 ⟨some 25,.r (.loadN 5 (T 24)),none⟩,
 ⟨some 26,.call (.func 125) [(T 23),(T 25)],none⟩,
 ⟨some 22,.p (.mov (T 26)),none⟩,
 ⟨some 27,.p (.ext (T 22) 0),none⟩,
 ⟨some 28,.p (.ext (T 22) 1),none⟩,
 ⟨some 8,.p (.mov (T 27)),none⟩,
 ⟨some 7,.p (.mov (T 28)),none⟩]
def xq49_6:List XO:=zXe
theorem xq49_6e:E3 xq49_6 zXe:=E3.rfl
abbrev zXf:List XO:=[
 ⟨some 29,.p (.mov (T 7)),none⟩,
 ⟨some 30,.p (.eql true .int (T 29) (C (.int .i64 0))),none⟩]
def xq49_7:List XO:=zXf
theorem xq49_7e:E3 xq49_7 zXf:=E3.rfl
abbrev zXg:List XO:=[
 ⟨some 31,.p (.build [(.int .u64 0),(.string (strOf [])),(.string (strOf [])),(.string (strOf [])),(.slice none 0 0),(.slice none 0 0),(.string (strOf [])),(.bool false),(.string (strOf [])),(.slice none 0 0),(.bool false),(.string (strOf [])),(.string (strOf []))] []),none⟩,
 ⟨some 32,.p (.mov (T 7)),none⟩,
 ⟨none,.e (.store 13 (T 4) (T 31)),none⟩,
 ⟨some 5,.p (.mov (T 32)),none⟩]
def xq49_8:List XO:=zXg
theorem xq49_8e:E3 xq49_8 zXg:=E3.rfl
abbrev zXh:List XO:=[
 ⟨some 33,.p (.mov (T 0)),none⟩,
 ⟨some 34,.p (.nilc (T 33)),none⟩,
 ⟨some 35,.p (.faddr 0 (T 34)),none⟩,
 ⟨some 36,.r (.load1 (T 35)),none⟩,
 ⟨some 37,.p (.mov (T 8)),none⟩,
 ⟨some 38,.r (.loadN 13 (T 6)),none⟩,
 ⟨some 39,.call (.func 113) [(T 36),(T 37),(T 38)],none⟩,
 ⟨some 9,.p (.mov (T 39)),none⟩]
def xq49_9:List XO:=zXh
theorem xq49_9e:E3 xq49_9 zXh:=E3.rfl
abbrev zXU:List XO:=[
 ⟨some 40,.p (.mov (T 9)),none⟩,
 ⟨some 41,.p (.eql true .int (T 40) (C (.int .i64 0))),none⟩]
def zXT:List XO:=zXU
theorem xq49_10e:E3 zXT zXU:=E3.rfl
abbrev zXW:List XO:=[
 ⟨some 42,.p (.build [(.int .u64 0),(.string (strOf [])),(.string (strOf [])),(.string (strOf [])),(.slice none 0 0),(.slice none 0 0),(.string (strOf [])),(.bool false),(.string (strOf [])),(.slice none 0 0),(.bool false),(.string (strOf [])),(.string (strOf []))] []),none⟩,
 ⟨some 43,.p (.mov (T 9)),none⟩,
 ⟨none,.e (.store 13 (T 4) (T 42)),none⟩,
 ⟨some 5,.p (.mov (T 43)),none⟩]
def zXV:List XO:=zXW
theorem xq49_11e:E3 zXV zXW:=E3.rfl
abbrev zXY:List XO:=[
 ⟨some 44,.r (.loadN 13 (T 6)),none⟩,
 ⟨none,.e (.store 13 (T 4) (T 44)),none⟩,
 ⟨some 5,.p (.mov (C (.int .i64 0))),none⟩]
def zXX:List XO:=zXY
theorem xq49_12e:E3 zXX zXY:=E3.rfl
def xq49:XF:=⟨2,[.cellN 4 13,.tmp 5],
 .seq (.ops xq49_0) (.seq (.seq (.ops xq49_1) (.cond (T 11) (.seq (.ops xq49_2) (.ret)) (.skip))) (.seq (.ops xq49_3) (.seq (.seq (.ops xq49_4) (.cond (T 19) (.seq (.ops xq49_5) (.ret)) (.skip))) (.seq (.ops xq49_6) (.seq (.seq (.ops xq49_7) (.cond (T 30) (.seq (.ops xq49_8) (.ret)) (.skip))) (.seq (.seq (.draw xq49_9 []) (.seq (.ops zXT) (.cond (T 41) (.seq (.ops zXV) (.ret)) (.skip)))) (.seq (.ops zXX) (.ret))))))))⟩
def yq49:=PLift.up (And.intro (And.intro (And.intro (@xq49_0e) (And.intro (@xq49_1e) (@xq49_2e))) (And.intro (@xq49_3e) (And.intro (@xq49_4e) (@xq49_5e)))) (And.intro (And.intro (@xq49_6e) (And.intro (@xq49_7e) (@xq49_8e))) (And.intro (And.intro (@xq49_9e) (@xq49_10e)) (And.intro (@xq49_11e) (@xq49_12e)))))
theorem cq49:zX Tryz.prog Tryz.f49=some xq49:=by kernel_rfl
abbrev zXC:List XO:=[
 ⟨some 4,.a (.alloc [(.int .u64 0),(.string (strOf [])),(.string (strOf [])),(.string (strOf [])),(.slice none 0 0),(.slice none 0 0),(.int .u64 0),(.int .u64 0),(.slice none 0 0),(.int .i64 0),(.int .i64 0),(.slice none 0 0)]),none⟩,
 ⟨some 5,.p (.mov (C (.int .i64 0))),none⟩]
def xq48_0:List XO:=zXC
theorem xq48_0e:E3 xq48_0 zXC:=E3.rfl
abbrev zXJ:List XO:=[
 ⟨some 10,.p (.mov (T 0)),none⟩,
 ⟨some 11,.p (.eql false .nptr (T 10) (C (.pointer none))),none⟩]
def xq48_1:List XO:=zXJ
theorem xq48_1e:E3 xq48_1 zXJ:=E3.rfl
abbrev zXK:List XO:=[
 ⟨some 12,.p (.build [(.int .u64 0),(.string (strOf [])),(.string (strOf [])),(.string (strOf [])),(.slice none 0 0),(.slice none 0 0),(.int .u64 0),(.int .u64 0),(.slice none 0 0),(.int .i64 0),(.int .i64 0),(.slice none 0 0)] []),none⟩,
 ⟨none,.e (.store 12 (T 4) (T 12)),none⟩,
 ⟨some 5,.p (.mov (C (.int .i64 1))),none⟩]
def xq48_2:List XO:=zXK
theorem xq48_2e:E3 xq48_2 zXK:=E3.rfl
abbrev zXL:List XO:=[
 ⟨some 14,.p (.mov (T 1)),none⟩,
 ⟨some 15,.call (.func 43) [(T 14)],none⟩,
 ⟨some 13,.p (.mov (T 15)),none⟩,
 ⟨some 16,.p (.ext (T 13) 0),none⟩,
 ⟨some 17,.p (.ext (T 13) 1),none⟩,
 ⟨some 6,.a (.alloc [(.int .u64 0),(.string (strOf [])),(.string (strOf [])),(.string (strOf [])),(.slice none 0 0),(.slice none 0 0),(.int .u64 0),(.int .u64 0),(.slice none 0 0),(.int .i64 0),(.int .i64 0),(.slice none 0 0)]),none⟩,
 ⟨none,.e (.store 12 (T 6) (T 16)),none⟩,
 ⟨some 7,.p (.mov (T 17)),none⟩]
def xq48_3:List XO:=zXL
theorem xq48_3e:E3 xq48_3 zXL:=E3.rfl
abbrev zXM:List XO:=[
 ⟨some 18,.p (.mov (T 7)),none⟩,
 ⟨some 19,.p (.eql true .int (T 18) (C (.int .i64 0))),none⟩]
def xq48_4:List XO:=zXM
theorem xq48_4e:E3 xq48_4 zXM:=E3.rfl
abbrev zXN:List XO:=[
 ⟨some 20,.p (.build [(.int .u64 0),(.string (strOf [])),(.string (strOf [])),(.string (strOf [])),(.slice none 0 0),(.slice none 0 0),(.int .u64 0),(.int .u64 0),(.slice none 0 0),(.int .i64 0),(.int .i64 0),(.slice none 0 0)] []),none⟩,
 ⟨some 21,.p (.mov (T 7)),none⟩,
 ⟨none,.e (.store 12 (T 4) (T 20)),none⟩,
 ⟨some 5,.p (.mov (T 21)),none⟩]
def xq48_5:List XO:=zXN
theorem xq48_5e:E3 xq48_5 zXN:=E3.rfl
abbrev zXO:List XO:=[
 ⟨some 23,.p (.mov (T 0)),none⟩,
 ⟨some 24,.p (.faddr 0 (T 6)),none⟩,
 ⟨some 25,.r (.loadN 5 (T 24)),none⟩,
 ⟨some 26,.call (.func 125) [(T 23),(T 25)],none⟩,
 ⟨some 22,.p (.mov (T 26)),none⟩,
 ⟨some 27,.p (.ext (T 22) 0),none⟩,
 ⟨some 28,.p (.ext (T 22) 1),none⟩,
 ⟨some 8,.p (.mov (T 27)),none⟩,
 ⟨some 7,.p (.mov (T 28)),none⟩]
def xq48_6:List XO:=zXO
theorem xq48_6e:E3 xq48_6 zXO:=E3.rfl
abbrev zXP:List XO:=[
 ⟨some 29,.p (.mov (T 7)),none⟩,
 ⟨some 30,.p (.eql true .int (T 29) (C (.int .i64 0))),none⟩]
def xq48_7:List XO:=zXP
theorem xq48_7e:E3 xq48_7 zXP:=E3.rfl
abbrev zXQ:List XO:=[
 ⟨some 31,.p (.build [(.int .u64 0),(.string (strOf [])),(.string (strOf [])),(.string (strOf [])),(.slice none 0 0),(.slice none 0 0),(.int .u64 0),(.int .u64 0),(.slice none 0 0),(.int .i64 0),(.int .i64 0),(.slice none 0 0)] []),none⟩,
 ⟨some 32,.p (.mov (T 7)),none⟩,
 ⟨none,.e (.store 12 (T 4) (T 31)),none⟩,
 ⟨some 5,.p (.mov (T 32)),none⟩]
def xq48_8:List XO:=zXQ
theorem xq48_8e:E3 xq48_8 zXQ:=E3.rfl
abbrev zXR:List XO:=[
 ⟨some 33,.p (.mov (T 0)),none⟩,
 ⟨some 34,.p (.nilc (T 33)),none⟩,
 ⟨some 35,.p (.faddr 0 (T 34)),none⟩,
 ⟨some 36,.r (.load1 (T 35)),none⟩,
 ⟨some 37,.p (.mov (T 8)),none⟩,
 ⟨some 38,.r (.loadN 12 (T 6)),none⟩,
 ⟨some 39,.call (.func 126) [(T 36),(T 37),(T 38)],none⟩,
 ⟨some 9,.p (.mov (T 39)),none⟩]
def xq48_9:List XO:=zXR
theorem xq48_9e:E3 xq48_9 zXR:=E3.rfl
abbrev zXE:List XO:=[
 ⟨some 40,.p (.mov (T 9)),none⟩,
 ⟨some 41,.p (.eql true .int (T 40) (C (.int .i64 0))),none⟩]
def zXD:List XO:=zXE
theorem xq48_10e:E3 zXD zXE:=E3.rfl
abbrev zXG:List XO:=[
 ⟨some 42,.p (.build [(.int .u64 0),(.string (strOf [])),(.string (strOf [])),(.string (strOf [])),(.slice none 0 0),(.slice none 0 0),(.int .u64 0),(.int .u64 0),(.slice none 0 0),(.int .i64 0),(.int .i64 0),(.slice none 0 0)] []),none⟩,
 ⟨some 43,.p (.mov (T 9)),none⟩,
 ⟨none,.e (.store 12 (T 4) (T 42)),none⟩,
 ⟨some 5,.p (.mov (T 43)),none⟩]
def zXF:List XO:=zXG
theorem xq48_11e:E3 zXF zXG:=E3.rfl
abbrev zXI:List XO:=[
 ⟨some 44,.r (.loadN 12 (T 6)),none⟩,
 ⟨none,.e (.store 12 (T 4) (T 44)),none⟩,
 ⟨some 5,.p (.mov (C (.int .i64 0))),none⟩]
def zXH:List XO:=zXI
theorem xq48_12e:E3 zXH zXI:=E3.rfl
def xq48:XF:=⟨2,[.cellN 4 12,.tmp 5],
 .seq (.ops xq48_0) (.seq (.seq (.ops xq48_1) (.cond (T 11) (.seq (.ops xq48_2) (.ret)) (.skip))) (.seq (.ops xq48_3) (.seq (.seq (.ops xq48_4) (.cond (T 19) (.seq (.ops xq48_5) (.ret)) (.skip))) (.seq (.ops xq48_6) (.seq (.seq (.ops xq48_7) (.cond (T 30) (.seq (.ops xq48_8) (.ret)) (.skip))) (.seq (.seq (.draw xq48_9 []) (.seq (.ops zXD) (.cond (T 41) (.seq (.ops zXF) (.ret)) (.skip)))) (.seq (.ops zXH) (.ret))))))))⟩
def yq48:=PLift.up (And.intro (And.intro (And.intro (@xq48_0e) (And.intro (@xq48_1e) (@xq48_2e))) (And.intro (@xq48_3e) (And.intro (@xq48_4e) (@xq48_5e)))) (And.intro (And.intro (@xq48_6e) (And.intro (@xq48_7e) (@xq48_8e))) (And.intro (And.intro (@xq48_9e) (@xq48_10e)) (And.intro (@xq48_11e) (@xq48_12e)))))
theorem cq48:zX Tryz.prog Tryz.f48=some xq48:=by kernel_rfl
abbrev zWU:List XO:=[
 ⟨some 4,.a (.box (T 1)),none⟩,
 ⟨some 5,.a (.box (T 2)),none⟩,
 ⟨some 6,.p (.mov (C (.int .i64 0))),none⟩]
def xq39_0:List XO:=zWU
theorem xq39_0e:E3 xq39_0 zWU:=E3.rfl
abbrev zWd:List XO:=[
 ⟨some 9,.p (.mov (T 0)),none⟩,
 ⟨some 10,.p (.eql false .nptr (T 9) (C (.pointer none))),none⟩]
def xq39_1:List XO:=zWd
theorem xq39_1e:E3 xq39_1 zWd:=E3.rfl
abbrev zWe:List XO:=[
 ⟨some 6,.p (.mov (C (.int .i64 1))),none⟩]
def xq39_2:List XO:=zWe
theorem xq39_2e:E3 xq39_2 zWe:=E3.rfl
abbrev zWf:List XO:=[
 ⟨some 11,.r (.loadN 5 (T 4)),none⟩,
 ⟨some 12,.call (.func 64) [(T 11)],none⟩,
 ⟨some 7,.p (.mov (T 12)),none⟩]
def xq39_3:List XO:=zWf
theorem xq39_3e:E3 xq39_3 zWf:=E3.rfl
abbrev zWg:List XO:=[
 ⟨some 13,.p (.mov (T 7)),none⟩,
 ⟨some 14,.p (.eql true .int (T 13) (C (.int .i64 0))),none⟩]
def xq39_4:List XO:=zWg
theorem xq39_4e:E3 xq39_4 zWg:=E3.rfl
abbrev zWh:List XO:=[
 ⟨some 15,.p (.mov (T 7)),none⟩,
 ⟨some 6,.p (.mov (T 15)),none⟩]
def xq39_5:List XO:=zWh
theorem xq39_5e:E3 xq39_5 zWh:=E3.rfl
abbrev zWi:List XO:=[
 ⟨some 16,.p (.faddr 0 (T 4)),none⟩,
 ⟨some 17,.r (.load1 (T 16)),none⟩,
 ⟨some 18,.p (.mov (T 0)),none⟩,
 ⟨some 19,.call (.func 50) [(T 18)],none⟩,
 ⟨some 20,.p (.bin .add (T 19) (C (.int .u64 1))),none⟩,
 ⟨some 21,.p (.eql true .int (T 17) (T 20)),none⟩,
 ⟨some 22,.p (.mov (T 21)),none⟩,
 ⟨some 23,.p (.faddr 1 (T 4)),some (22,false)⟩,
 ⟨some 24,.r (.load1 (T 23)),some (22,false)⟩,
 ⟨some 25,.p (.mov (T 0)),some (22,false)⟩,
 ⟨some 26,.call (.func 41) [(T 25)],some (22,false)⟩,
 ⟨some 27,.p (.eql true .str (T 24) (T 26)),some (22,false)⟩,
 ⟨some 28,.p (.pick (T 22) (C (.bool true)) (T 27)),none⟩]
def xq39_6:List XO:=zWi
theorem xq39_6e:E3 xq39_6 zWi:=E3.rfl
abbrev zWj:List XO:=[
 ⟨some 6,.p (.mov (C (.int .i64 80))),none⟩]
def xq39_7:List XO:=zWj
theorem xq39_7e:E3 xq39_7 zWj:=E3.rfl
abbrev zWk:List XO:=[
 ⟨some 29,.p (.mov (T 0)),none⟩,
 ⟨some 30,.p (.nilc (T 29)),none⟩,
 ⟨some 31,.p (.faddr 0 (T 30)),none⟩,
 ⟨some 32,.r (.load1 (T 31)),none⟩,
 ⟨some 33,.r (.loadN 5 (T 4)),none⟩,
 ⟨some 34,.r (.loadN 1 (T 5)),none⟩,
 ⟨some 35,.p (.mov (T 0)),none⟩,
 ⟨some 36,.p (.nilc (T 35)),none⟩,
 ⟨some 37,.p (.faddr 2 (T 36)),none⟩,
 ⟨some 38,.r (.load1 (T 37)),none⟩,
 ⟨some 39,.call (.func 51) [(T 32),(T 33),(T 34),(T 38)],none⟩,
 ⟨some 8,.p (.mov (T 39)),none⟩]
def xq39_8:List XO:=zWk
theorem xq39_8e:E3 xq39_8 zWk:=E3.rfl
abbrev zWl:List XO:=[
 ⟨some 40,.p (.mov (T 8)),none⟩,
 ⟨some 41,.p (.eql true .int (T 40) (C (.int .i64 0))),none⟩]
def xq39_9:List XO:=zWl
theorem xq39_9e:E3 xq39_9 zWl:=E3.rfl
abbrev zWW:List XO:=[
 ⟨some 42,.p (.mov (T 8)),none⟩,
 ⟨some 6,.p (.mov (T 42)),none⟩]
def zWV:List XO:=zWW
theorem xq39_10e:E3 zWV zWW:=E3.rfl
abbrev zWY:List XO:=[
 ⟨some 43,.p (.mov (T 0)),none⟩,
 ⟨some 44,.p (.mov (T 0)),none⟩,
 ⟨some 45,.p (.nilc (T 44)),none⟩,
 ⟨some 46,.p (.faddr 4 (T 45)),none⟩,
 ⟨some 47,.r (.load1 (T 46)),none⟩,
 ⟨some 48,.r (.loadN 5 (T 4)),none⟩,
 ⟨some 49,.call (.func 99) [(T 48)],none⟩,
 ⟨some 50,.a (.bslice [(.int .u64 0),(.string (strOf [])),(.string (strOf [])),(.string (strOf [])),(.slice none 0 0)] 1 [(0,5,(T 49))]),none⟩,
 ⟨some 51,.e (.append 5 80 (T 47) (T 50)),none⟩,
 ⟨some 52,.p (.nilc (T 43)),none⟩,
 ⟨some 53,.p (.faddr 4 (T 52)),none⟩,
 ⟨none,.e (.store 1 (T 53) (T 51)),none⟩]
def zWX:List XO:=zWY
theorem xq39_11e:E3 zWX zWY:=E3.rfl
abbrev zWa:List XO:=[
 ⟨some 54,.p (.mov (T 0)),none⟩,
 ⟨some 55,.p (.faddr 4 (T 4)),none⟩,
 ⟨some 56,.r (.load1 (T 55)),none⟩,
 ⟨some 57,.call (.func 59) [(T 56)],none⟩,
 ⟨some 58,.p (.nilc (T 54)),none⟩,
 ⟨some 59,.p (.faddr 2 (T 58)),none⟩,
 ⟨none,.e (.store 1 (T 59) (T 57)),none⟩]
def zWZ:List XO:=zWa
theorem xq39_12e:E3 zWZ zWa:=E3.rfl
abbrev zWc:List XO:=[
 ⟨some 6,.p (.mov (C (.int .i64 0))),none⟩]
def zWb:List XO:=zWc
theorem xq39_13e:E3 zWb zWc:=E3.rfl
def xq39:XF:=⟨3,[.tmp 6],
 .seq (.ops xq39_0) (.seq (.seq (.ops xq39_1) (.cond (T 10) (.seq (.ops xq39_2) (.ret)) (.skip))) (.seq (.seq (.ops xq39_3) (.seq (.ops xq39_4) (.cond (T 14) (.seq (.ops xq39_5) (.ret)) (.skip)))) (.seq (.seq (.draw xq39_6 [(1,(10,[])),(8,(13,[]))]) (.cond (T 28) (.seq (.ops xq39_7) (.ret)) (.skip))) (.seq (.seq (.draw xq39_8 []) (.seq (.ops xq39_9) (.cond (T 41) (.seq (.ops zWV) (.ret)) (.skip)))) (.seq (.draw zWX [(4,(8,[]))]) (.seq (.ops zWZ) (.seq (.ops zWb) (.ret))))))))⟩
def yq39:=PLift.up (And.intro (And.intro (And.intro (@xq39_0e) (And.intro (@xq39_1e) (@xq39_2e))) (And.intro (And.intro (@xq39_3e) (@xq39_4e)) (And.intro (@xq39_5e) (@xq39_6e)))) (And.intro (And.intro (@xq39_7e) (And.intro (@xq39_8e) (@xq39_9e))) (And.intro (And.intro (@xq39_10e) (@xq39_11e)) (And.intro (@xq39_12e) (@xq39_13e)))))
theorem cq39:zX Tryz.prog Tryz.f39=some xq39:=by kernel_rfl
abbrev zO2:List XO:=[
 ⟨some 4,.a (.box (T 1)),none⟩,
 ⟨some 5,.a (.box (T 2)),none⟩,
 ⟨some 6,.p (.mov (C (.bool false))),none⟩]
def xq10_0:List XO:=zO2
theorem xq10_0e:E3 xq10_0 zO2:=E3.rfl
abbrev zO7:List XO:=[
 ⟨some 15,.a (.bslice [(.int .i64 0),(.int .i64 0)] 2 [(0,1,(C (.int .i64 0))),(1,1,(C (.int .i64 1)))]),none⟩,
 ⟨some 16,.call (.func 36) [],none⟩,
 ⟨some 17,.call (.func 35) [(C (.string (strOf [120]))),(T 15),(T 16)],none⟩,
 ⟨some 14,.p (.mov (T 17)),none⟩,
 ⟨some 18,.p (.ext (T 14) 0),none⟩,
 ⟨some 19,.p (.ext (T 14) 1),none⟩,
 ⟨some 7,.p (.mov (T 18)),none⟩,
 ⟨some 8,.p (.mov (T 19)),none⟩]
def xq10_1:List XO:=zO7
theorem xq10_1e:E3 xq10_1 zO7:=E3.rfl
abbrev zO8:List XO:=[
 ⟨some 20,.call (.func 37) [],none⟩,
 ⟨some 21,.p (.un .not (T 20)),none⟩,
 ⟨some 22,.p (.mov (T 21)),none⟩,
 ⟨some 23,.p (.mov (T 8)),some (22,false)⟩,
 ⟨some 24,.p (.eql true .int (T 23) (C (.int .i64 0))),some (22,false)⟩,
 ⟨some 25,.p (.pick (T 22) (C (.bool true)) (T 24)),none⟩]
def xq10_2:List XO:=zO8
theorem xq10_2e:E3 xq10_2 zO8:=E3.rfl
abbrev zO9:List XO:=[
 ⟨some 6,.p (.mov (C (.bool false))),none⟩]
def xq10_3:List XO:=zO9
theorem xq10_3e:E3 xq10_3 zO9:=E3.rfl
abbrev zPA:List XO:=[
 ⟨some 27,.p (.mov (T 7)),none⟩,
 ⟨some 28,.p (.mov (T 0)),none⟩,
 ⟨some 29,.call (.func 49) [(T 27),(T 28)],none⟩,
 ⟨some 26,.p (.mov (T 29)),none⟩,
 ⟨some 30,.p (.ext (T 26) 0),none⟩,
 ⟨some 31,.p (.ext (T 26) 1),none⟩,
 ⟨some 9,.a (.alloc [(.int .u64 0),(.string (strOf [])),(.string (strOf [])),(.string (strOf [])),(.slice none 0 0),(.slice none 0 0),(.string (strOf [])),(.bool false),(.string (strOf [])),(.slice none 0 0),(.bool false),(.string (strOf [])),(.string (strOf []))]),none⟩,
 ⟨none,.e (.store 13 (T 9) (T 30)),none⟩,
 ⟨some 10,.p (.mov (T 31)),none⟩]
def xq10_4:List XO:=zPA
theorem xq10_4e:E3 xq10_4 zPA:=E3.rfl
abbrev zPB:List XO:=[
 ⟨some 33,.p (.mov (T 7)),none⟩,
 ⟨some 34,.p (.mov (T 0)),none⟩,
 ⟨some 35,.call (.func 48) [(T 33),(T 34)],none⟩,
 ⟨some 32,.p (.mov (T 35)),none⟩,
 ⟨some 36,.p (.ext (T 32) 0),none⟩,
 ⟨some 37,.p (.ext (T 32) 1),none⟩,
 ⟨some 11,.a (.alloc [(.int .u64 0),(.string (strOf [])),(.string (strOf [])),(.string (strOf [])),(.slice none 0 0),(.slice none 0 0),(.int .u64 0),(.int .u64 0),(.slice none 0 0),(.int .i64 0),(.int .i64 0),(.slice none 0 0)]),none⟩,
 ⟨none,.e (.store 12 (T 11) (T 36)),none⟩,
 ⟨some 12,.p (.mov (T 37)),none⟩]
def xq10_5:List XO:=zPB
theorem xq10_5e:E3 xq10_5 zPB:=E3.rfl
abbrev zPC:List XO:=[
 ⟨some 38,.p (.mov (T 10)),none⟩,
 ⟨some 39,.p (.eql false .int (T 38) (C (.int .i64 0))),none⟩,
 ⟨some 40,.p (.mov (T 39)),none⟩,
 ⟨some 41,.p (.mov (T 12)),some (40,false)⟩,
 ⟨some 42,.p (.eql false .int (T 41) (C (.int .i64 0))),some (40,false)⟩,
 ⟨some 43,.p (.pick (T 40) (C (.bool true)) (T 42)),none⟩,
 ⟨some 44,.p (.mov (T 43)),none⟩,
 ⟨some 45,.p (.faddr 6 (T 9)),some (44,false)⟩,
 ⟨some 46,.r (.load1 (T 45)),some (44,false)⟩,
 ⟨some 47,.p (.eql true .str (T 46) (C (.string (strOf [])))),some (44,false)⟩,
 ⟨some 48,.p (.pick (T 44) (C (.bool true)) (T 47)),none⟩,
 ⟨some 49,.p (.mov (T 48)),none⟩,
 ⟨some 50,.p (.faddr 10 (T 11)),some (49,false)⟩,
 ⟨some 51,.r (.load1 (T 50)),some (49,false)⟩,
 ⟨some 52,.p (.eql true .int (T 51) (C (.int .i64 0))),some (49,false)⟩,
 ⟨some 53,.p (.pick (T 49) (C (.bool true)) (T 52)),none⟩]
def xq10_6:List XO:=zPC
theorem xq10_6e:E3 xq10_6 zPC:=E3.rfl
abbrev zPD:List XO:=[
 ⟨some 6,.p (.mov (C (.bool false))),none⟩]
def xq10_7:List XO:=zPD
theorem xq10_7e:E3 xq10_7 zPD:=E3.rfl
abbrev zPE:List XO:=[
 ⟨some 54,.p (.mov (T 7)),none⟩,
 ⟨some 55,.r (.loadN 5 (T 4)),none⟩,
 ⟨some 56,.r (.loadN 1 (T 5)),none⟩,
 ⟨some 57,.call (.func 39) [(T 54),(T 55),(T 56)],none⟩,
 ⟨some 13,.p (.mov (T 57)),none⟩]
def xq10_8:List XO:=zPE
theorem xq10_8e:E3 xq10_8 zPE:=E3.rfl
abbrev zPF:List XO:=[
 ⟨some 58,.p (.mov (T 13)),none⟩,
 ⟨some 59,.p (.eql true .int (T 58) (C (.int .i64 0))),none⟩]
def xq10_9:List XO:=zPF
theorem xq10_9e:E3 xq10_9 zPF:=E3.rfl
abbrev zO4:List XO:=[
 ⟨some 60,.p (.mov (T 7)),none⟩,
 ⟨some 61,.call (.func 50) [(T 60)],none⟩,
 ⟨some 62,.p (.eql false .int (T 61) (C (.int .u64 0))),none⟩,
 ⟨some 6,.p (.mov (T 62)),none⟩]
def zO3:List XO:=zO4
theorem xq10_10e:E3 zO3 zO4:=E3.rfl
abbrev zO6:List XO:=[
 ⟨some 63,.call (.func 36) [],none⟩,
 ⟨some 64,.r (.loadN 5 (T 4)),none⟩,
 ⟨some 65,.r (.loadN 1 (T 5)),none⟩,
 ⟨some 66,.a (.bslice [(.int .i64 0),(.int .i64 0)] 2 [(0,1,(C (.int .i64 0))),(1,1,(C (.int .i64 1)))]),none⟩,
 ⟨some 67,.call (.func 51) [(T 63),(T 64),(T 65),(T 66)],none⟩,
 ⟨some 68,.p (.eql false .int (T 67) (C (.int .i64 0))),none⟩,
 ⟨some 69,.p (.mov (T 68)),none⟩,
 ⟨some 70,.p (.mov (T 7)),some (69,true)⟩,
 ⟨some 71,.call (.func 50) [(T 70)],some (69,true)⟩,
 ⟨some 72,.p (.eql false .int (T 71) (C (.int .u64 1))),some (69,true)⟩,
 ⟨some 73,.p (.pick (T 69) (T 72) (C (.bool false))),none⟩,
 ⟨some 6,.p (.mov (T 73)),none⟩]
def zO5:List XO:=zO6
theorem xq10_11e:E3 zO5 zO6:=E3.rfl
def xq10:XF:=⟨3,[.tmp 6],
 .seq (.ops xq10_0) (.seq (.ops xq10_1) (.seq (.seq (.ops xq10_2) (.cond (T 25) (.seq (.ops xq10_3) (.ret)) (.skip))) (.seq (.ops xq10_4) (.seq (.ops xq10_5) (.seq (.seq (.ops xq10_6) (.cond (T 53) (.seq (.ops xq10_7) (.ret)) (.skip))) (.seq (.ops xq10_8) (.seq (.seq (.ops xq10_9) (.cond (T 59) (.seq (.ops zO3) (.ret)) (.skip))) (.seq (.draw zO5 [(1,(0,[])),(1,(4,[])),(2,(0,[])),(2,(4,[]))]) (.ret)))))))))⟩
def yq10:=PLift.up (And.intro (And.intro (And.intro (@xq10_0e) (And.intro (@xq10_1e) (@xq10_2e))) (And.intro (@xq10_3e) (And.intro (@xq10_4e) (@xq10_5e)))) (And.intro (And.intro (@xq10_6e) (And.intro (@xq10_7e) (@xq10_8e))) (And.intro (@xq10_9e) (And.intro (@xq10_10e) (@xq10_11e)))))
theorem cq10:zX Tryz.prog Tryz.f10=some xq10:=by kernel_rfl
end Go.X
end
section
open Go Go.X
namespace Go.X
set_option linter.unusedVariables false
def zDh (x:Hdr):List UInt8:=tagged 67 [zCs x]
def zFH:Prim:=fun args h=>match args with
 | [.agg c]=>match hdrL h c.toList with|some (x,_)=>some (.string (strOf (zDh x)),h)|none=>none
 | _=>none
theorem zbv {h:Heap} {x:Hdr} {mv:Value} (hx:HdAt h x mv):zFH [.agg (hcells x mv).toArray] h=some (.string (strOf (zDh x)),h):=by
 simp only[zFH,zHl hx]
theorem saidC_ok (pr:Prog) (hb:pr.prim 102=some zEr) (ht:pr.prim 160=some zBn) (h:Heap) (wf:HWF h) (x:Hdr) (mv:Value) (hx:HdAt h x mv):Comes pr xq162 [.agg (hcells x mv).toArray] h (.string (strOf (zDh x))):=by
 apply Comes.of
 unfold xq162
 dsimp only[zY]
 have hr64:zT=140737488355328:=rfl
 obtain⟨g,hg,gg,gx,lN,_⟩:=zHk hx wf
 have b1:=zAr hb (zay gx)
 have hl:(zCs x).length=32:=zIl _ _
 have tg:=zAr ht (zGg (p:=67) (zIG (h:=g) (a:=zCs x)) (by decide) (by simp[zAe,zDa,zBD];omega))
 have tg:cfi pr 160 [.int .u8 67,.slice (some ⟨g.next,0,none⟩) 1 1] (g.new [.string (strOf (zCs x))])=some (.string (strOf (zDh x)),_):=tg
 (repeat (first|refine zS ?_|refine zK ?_|refine zR ?_|refine zD ?_|refine zB ?_|refine zI ?_|refine zJ ?_|refine zP ?_|refine zE ?_|refine zG ?_|refine zF ?_|refine zH (by decide) ?_|refine zQ ?_|((first|refine zC ?_|refine zM ?_|refine zO rfl rfl ?_|refine zN rfl ?_|refine zL ?_);simp only[yq162.down,zA,lemS.down,lemC.down,zdO,zdN,zdL,reduceIte,zdM,zdP,zdQ,zdR,zdS,zdT,zdU,zdV,zdW,reduceCtorEq,lemH.down,zAa,hg,lN,b1,zHd,tg])))
 exact⟨.inr rfl,by simp only[yq162.down,zA,lemS.down,lemC.down,zdO,zdN,zdL,reduceIte,zdM,zdP,zdQ,zdR,zdS,zdT,zdU,zdV,zdW,reduceCtorEq],gg.trans Grows.new⟩
theorem zbw (x:Hdr):(zDh x).length=32:=zIl _ _
theorem zKX {r:Int} {t:List UInt8}:cellsOf (tagV r t)=[.int .i64 r,.string (strOf t)]:=rfl
def zD6 (l:List (List UInt8)) (x:Hdr) (r:Int) (t:List UInt8):Bool:=decide (zAP x=0)&&zEk l r (zDh x) t
def zEp:Prim:=fun args h=>match args with
 | [.pointer (some a),.agg c,.agg ⟨[.int .i64 r,.string t]⟩]=>match zAl h a,hdrL h c.toList with
  | some l,some (x,_)=>if zBS l=true then some (.bool (zD6 l x r t.data.toList),h) else none
  | _,_=>none
 | _=>none
theorem goodG_at {h:Heap} {a:Addr} {l:List (List UInt8)} {x:Hdr} {mv:Value} {r:Int} {t:List UInt8} (hr:zAl h a=some l) (hk:zBS l=true) (hx:HdAt h x mv):zEp [.pointer (some a),.agg (hcells x mv).toArray,tagV r t] h=some (.bool (zD6 l x r t),h):=by
 simp only[zEp,tagV,hr,zHl hx,zAx]
 rw[if_pos hk]
theorem good_ok (pr:Prog) (hc:pr.prim 64=some zCS) (hs:pr.prim 162=some zFH) (ht:pr.prim 177=some zEP) (h:Heap) (wf:HWF h) (a:Addr) (l:List (List UInt8)) (hr:zAl h a=some l) (hk:zBS l=true) (r:Int) (tg:List UInt8) (x:Hdr) (mv:Value) (hx:HdAt h x mv) :
  Comes pr xq127 [.pointer (some a),.agg (hcells x mv).toArray,tagV r tg] h (.bool (zD6 l x r tg)):=by
 apply Comes.of
 unfold xq127
 dsimp only[zY]
 have hr64:zT=140737488355328:=rfl
 obtain⟨g,hg,gg,gx,lN,_⟩:=zHk hx wf
 have hv:Var g h.next (hcells x mv):=by rw[←hg];exact Var.new_self
 have gnx:g.next=h.next+1:=by rw[←hg];rfl
 obtain⟨g1,hg1,v1,gg1⟩:∃g1,g.new [.int .i64 r,.string (strOf tg)]=g1∧Var g1 g.next [.int .i64 r,.string (strOf tg)]∧Grows g g1:=⟨_,rfl,Var.new_self,Grows.new⟩
 have g01:=gg.trans gg1
 have gx1:=hx.grow wf g01
 have lN1:∀sp,g1.loadN ⟨h.next,0,sp⟩ 5=some (hcells x mv):=fun sp=>(hv.grow gg1).loadAll rfl
 have l0:∀sp,g1.load ⟨g.next,0,sp⟩=some (.int .i64 r):=fun sp=>v1.load
 have l1:∀sp,g1.load ⟨g.next,1,sp⟩=some (.string (strOf tg)):=fun sp=>v1.load
 have cc:=zAr hc (zFw gx1.w)
 unfold zD6
 by_cases h0:zAP x=0
 ·have b0:((zAP x:Int)==0)=true:=by rw[h0];rfl
  have d0:decide (zAP x=0)=true:=by simpa using h0
  rw[d0,Bool.true_and]
  have sd:=zAr hs (zbv gx1)
  have ch:=zAr ht (zbk (i:=r) (s:=zDh x) (t:=tg) (zL5 wf g01 hr) hk (by rw[zbw];omega))
  (repeat (first|refine zS ?_|refine zK ?_|refine zR ?_|refine zD ?_|refine zB ?_|refine zI ?_|refine zJ ?_|refine zP ?_|refine zE ?_|refine zG ?_|refine zF ?_|refine zH (by decide) ?_|refine zQ ?_|((first|refine zC ?_|refine zM ?_|refine zO rfl rfl ?_|refine zN rfl ?_|refine zL ?_);simp only[yq127.down,zA,lemS.down,lemC.down,zdO,zdN,zdL,reduceIte,zdM,zdP,zdQ,zdR,zdS,zdT,zdU,zdV,zdW,reduceCtorEq,lemH.down,zAa,zKX,hg,hg1,lN1,l0,l1,cc,b0,sd,ch])))
  exact⟨.inr rfl,by simp only[yq127.down,zA,lemS.down,lemC.down,zdO,zdN,zdL,reduceIte,zdM,zdP,zdQ,zdR,zdS,zdT,zdU,zdV,zdW,reduceCtorEq],g01⟩
 ·have b0:((zAP x:Int)==0)=false:=by rw[beq_eq_false_iff_ne];omega
  have d0:decide (zAP x=0)=false:=by simpa using h0
  rw[d0,Bool.false_and]
  (repeat (first|refine zS ?_|refine zK ?_|refine zR ?_|refine zD ?_|refine zB ?_|refine zI ?_|refine zJ ?_|refine zP ?_|refine zE ?_|refine zG ?_|refine zF ?_|refine zH (by decide) ?_|refine zQ ?_|((first|refine zC ?_|refine zM ?_|refine zO rfl rfl ?_|refine zN rfl ?_|refine zL ?_);simp only[yq127.down,zA,lemS.down,lemC.down,zdO,zdN,zdL,reduceIte,zdM,zdP,zdQ,zdR,zdS,zdT,zdU,zdV,zdW,reduceCtorEq,lemH.down,zAa,zKX,hg,hg1,lN1,l0,l1,cc,b0,zc])))
  exact⟨.inr rfl,by simp only[yq127.down,zA,lemS.down,lemC.down,zdO,zdN,zdL,reduceIte,zdM,zdP,zdQ,zdR,zdS,zdT,zdU,zdV,zdW,reduceCtorEq],g01⟩
end Go.X
end
section
open Go Go.X
namespace Go.X
set_option linter.unusedVariables false
def zBN (ks:List Int):List (Value×Value):=ks.map fun k=>(.int .i64 k,.bool true)
def MapAt (h:Heap) (r:Nat) (es:List (Value×Value)):Prop:=h.blks.get r=some (.map es)
theorem zFs:∀ (ks:List Int) (x:Int) (i:Nat),(x∉ks→zBQ .int (.int .i64 x) (zBN ks) i=some none)∧(x∈ks→∃j,zBQ .int (.int .i64 x) (zBN ks) i=some (some (j,.bool true)))
 | [],x,i=>⟨fun _=>rfl,fun h=>by simp at h⟩
 | k::ks,x,i=>by
  have ih:=zFs ks x (i+1)
  unfold zBN at ih ⊢
  simp only[List.map_cons,zBQ,eqX_i]
  by_cases e:x=k
  ·subst e
   simp
  ·have hb:(x==k)=false:=by rw[beq_eq_false_iff_ne];exact e
   rw[hb]
   refine⟨fun h=>?_,fun h=>?_⟩
   ·exact ih.1 (fun q=>h (by simp[q]))
   ·rcases List.mem_cons.1 h with q|q
    ·exact absurd q e
    ·exact ih.2 q
def zF7 (h:Heap) (z:Value) (ok:Bool) (k:EqK) (m key:Value):Option Value:=match m with
 | .map none=>some (if ok then .tuple #[z,.bool false] else z)
 | .map (some r)=>(match h.blks.get r with
  | some (.map es)=>(match zBQ k key es 0 with
   | some (some (_,v))=>some (if ok then .tuple #[v,.bool true] else v)
   | some none=>some (if ok then .tuple #[z,.bool false] else z)
   | none=>none)
  | _=>none)
 | _=>none
theorem zLy {t:Fr} {h:Heap} {z:Value} {ok:Bool} {k:EqK} {m key:Operand}:zu t h (.lookup z ok k m key)=zF7 h z ok k (t.eval m) (t.eval key):=by
 simp only[zu,zF7]
 cases t.eval m<;>first|rfl|(rename_i r;cases r<;>rfl)
theorem zbJ {h:Heap} {r:Nat} {ks:List Int} (hm:MapAt h r (zBN ks)) (x:Int):zF7 h (.bool false) false .int (.map (some r)) (.int .i64 x)=some (.bool (ks.contains x)):=by
 unfold MapAt at hm
 simp only[zF7,hm]
 by_cases hx:x∈ks
 ·obtain⟨j,e⟩:=(zFs ks x 0).2 hx
  rw[e]
  simp[hx]
 ·rw[(zFs ks x 0).1 hx]
  simp[hx]
def mupdV (h:Heap) (k:EqK) (m key v:Value):Option (Value×Heap):=match m with
 | .map (some r)=>match h.blks.get r with
  | some (.map es)=>(match zBQ k key es 0 with
   | some (some (i,_))=>some (.tuple #[],h.setBlk r (.map (es.set i (key,v))))
   | some none=>some (.tuple #[],h.setBlk r (.map (es++[(key,v)])))
   | none=>none)
  | _=>none
 | _=>none
theorem zKf {t:Fr} {h:Heap} {k:EqK} {m key v:Operand}:effX t h (.mupd k m key v)=mupdV h k (t.eval m) (t.eval key) (t.eval v):=by
 simp only[effX,mupdV]
 cases t.eval m<;>first|rfl|(rename_i r;cases r<;>rfl)
theorem zbT {h:Heap} {r:Nat} {ks:List Int} (hm:MapAt h r (zBN ks)) {x:Int} (hx:x∉ks):mupdV h .int (.map (some r)) (.int .i64 x) (.bool true)=some (.tuple #[],h.setBlk r (.map (zBN (ks++[x])))):=by
 unfold MapAt at hm
 simp only[mupdV,hm,(zFs ks x 0).1 hx]
 simp[zBN]
theorem MapAt.set {h:Heap} {r:Nat} {es:List (Value×Value)}:MapAt (h.setBlk r (.map es)) r es:=PT.get_set_eq _ _ _
theorem Keeps.setMap {h:Heap} {r:Nat} {b:Blk}:Keeps (fun A=>A=r) h (h.setBlk r b):=⟨Nat.le_refl _,fun A _ hn=>PT.get_set_ne _ _ hn,fun A _ _=>rfl⟩
theorem zbV {h:Heap}:h.newMap.next=h.next+1:=rfl
theorem Grows.newMap {h:Heap}:Grows h h.newMap:=⟨Nat.le_succ _,fun A hA=>PT.get_set_ne _ _ (by omega),fun A _=>rfl⟩
theorem MapAt.keep {h h':Heap} {r:Nat} {es:List (Value×Value)} {K:Nat→Prop} (hm:MapAt h r es) (hr:r<h.next) (hk:Keeps K h h') (hn:¬K r):MapAt h' r es:=by
 unfold MapAt
 rw[hk.blks r hr hn]
 exact hm
theorem val_map {id:Nat}:Mk.val id .map=.map (some id):=rfl
theorem al_mkmap {t:Fr}:zAg t .mkmap=some (.map,.map):=rfl
def zE3:List Value→Option Value
 | [.int .i64 n]=>if 0≤n∧n≤1000000 then some (.int .i64 (n / 2+1)) else none
 | _=>none
theorem most_ok (pr:Prog) (n:Int) (h0:0≤n∧n≤1000000) (h:Heap):Comes pr xq178 [.int .i64 n] h (.int .i64 (n / 2+1)):=by
 apply Comes.of
 unfold xq178
 dsimp only[zY]
 have q:=bin_quo (k:=.i64) (a:=n) (b:=2) (by decide)
 rw[Int.tdiv_eq_ediv_of_nonneg h0.1,wrap_i64 (by omega) (by omega)] at q
 have w:IntKind.i64.wrap (n / 2+1)=n / 2+1:=wrap_i64 (by omega) (by omega)
 (repeat (first|refine zS ?_|refine zK ?_|refine zR ?_|refine zD ?_|refine zB ?_|refine zI ?_|refine zJ ?_|refine zP ?_|refine zE ?_|refine zG ?_|refine zF ?_|refine zH (by decide) ?_|refine zQ ?_|((first|refine zC ?_|refine zM ?_|refine zO rfl rfl ?_|refine zN rfl ?_|refine zL ?_);simp only[yq178.down,zA,lemS.down,lemC.down,zdO,zdN,zdL,reduceIte,zdM,zdP,zdQ,zdR,zdS,zdT,zdU,zdV,zdW,reduceCtorEq,q,w])))
 exact⟨.inr rfl,by simp only[yq178.down,zA,lemS.down,lemC.down,zdO,zdN,zdL,reduceIte,zdM,zdP,zdQ,zdR,zdS,zdT,zdU,zdV,zdW,reduceCtorEq],Grows.refl h⟩
def zCE (ms ks:List Int):Bool:=decide (0<ms.length)&&decide (ms.length / 2+1≤(ms.filter (fun m=>ks.contains m)).length)
def zED:List (Value×Value)→Option (List Int)
 | []=>some []
 | (.int .i64 k,.bool true)::r=>match zED r with|some l=>some (k::l)|none=>none
 | _::_=>none
theorem zLH:∀ks:List Int,zED (zBN ks)=some ks
 | []=>rfl
 | k::ks=>by
  have:=zLH ks
  unfold zBN at this ⊢
  simp only[List.map_cons,zED,this]
theorem zLG:∀ {es:List (Value×Value)} {ks:List Int},zED es=some ks→es=zBN ks
 | [],ks,h=>by cases h;rfl
 | e::es,ks,h=>by
  unfold zED at h
  split at h
  ·rename_i heq;cases heq
  ·rename_i k r heq
   cases heq
   split at h
   ·rename_i l hl
    cases h
    rw[zLG hl]
    rfl
   ·cases h
  ·cases h
def zE2:Prim:=fun args h=>match args with
 | [mv,.map (some r)]=>match zAH h mv,h.blks.get r with
  | some ms,some (.map es)=>match zED es with
   | some ks=>if ms.length≤1000000 then some (.bool (zCE ms ks),h) else none
   | none=>none
  | _,_=>none
 | _=>none
theorem mostG_at {h:Heap} {mv:Value} {r:Nat} {ms ks:List Int} (hs:zAH h mv=some ms) (hm:MapAt h r (zBN ks)) (hl:ms.length≤1000000):zE2 [mv,.map (some r)] h=some (.bool (zCE ms ks),h):=by
 unfold MapAt at hm
 simp only[zE2,hs,hm,zLH]
 rw[if_pos hl]
theorem cmost_ok (pr:Prog) (hh:pr.prim 178=some (zh zE3)) (h:Heap) (mv:Value) (r:Nat) (ms ks:List Int) (hs:zAH h mv=some ms) (hm:MapAt h r (zBN ks)) (hl:ms.length≤1000000):Comes pr xq128 [mv,.map (some r)] h (.bool (zCE ms ks)):=by
 apply Comes.of
 unfold xq128
 dsimp only[zY]
 obtain⟨hb,a,cap,rfl,hel⟩:=zCU hs
 (repeat (first|refine zS ?_|refine zK ?_|refine zR ?_|refine zD ?_|refine zB ?_|refine zI ?_|refine zJ ?_|refine zP ?_|refine zE ?_|refine zG ?_|refine zF ?_|refine zH (by decide) ?_|refine zQ ?_|((first|refine zC ?_|refine zM ?_|refine zO rfl rfl ?_|refine zN rfl ?_|refine zL ?_);simp only[yq128.down,zA,lemS.down,lemC.down,zdO,zdN,zdL,reduceIte,zdM,zdP,zdQ,zdR,zdS,zdT,zdU,zdV,zdW,reduceCtorEq,lemH.down])))
 refine zAU (fun m t g=>∃i,m=ms.length - i∧i≤ms.length∧g=h∧t.get 0=.slice a ms.length cap∧t.get 1=.map (some r)∧t.get 5=.int .i64 (((ms.take i).filter (fun m=>ks.contains m)).length:Int)∧t.get 8=.slice a ms.length cap∧t.get 9=.int .i64 (ms.length:Int)∧t.get 10=.int .i64 (i:Int)) ?_ ms.length _ _ ⟨0,rfl,by omega,rfl,by simp only[yq128.down,zA,lemS.down,lemC.down,zdO,zdN,zdL,reduceIte,zdM,zdP,zdQ,zdR,zdS,zdT,zdU,zdV,zdW,reduceCtorEq],by simp only[yq128.down,zA,lemS.down,lemC.down,zdO,zdN,zdL,reduceIte,zdM,zdP,zdQ,zdR,zdS,zdT,zdU,zdV,zdW,reduceCtorEq],by (simp only[yq128.down,zA,lemS.down,lemC.down,zdO,zdN,zdL,reduceIte,zdM,zdP,zdQ,zdR,zdS,zdT,zdU,zdV,zdW,reduceCtorEq])<;>rfl,by simp only[yq128.down,zA,lemS.down,lemC.down,zdO,zdN,zdL,reduceIte,zdM,zdP,zdQ,zdR,zdS,zdT,zdU,zdV,zdW,reduceCtorEq],by simp only[yq128.down,zA,lemS.down,lemC.down,zdO,zdN,zdL,reduceIte,zdM,zdP,zdQ,zdR,zdS,zdT,zdU,zdV,zdW,reduceCtorEq],by (simp only[yq128.down,zA,lemS.down,lemC.down,zdO,zdN,zdL,reduceIte,zdM,zdP,zdQ,zdR,zdS,zdT,zdU,zdV,zdW,reduceCtorEq])<;>rfl⟩
 rintro m t g ⟨i,rfl,hi,rfl,t0,t1,t5,t8,t9,t10⟩ hnext
 refine xq128_8k ?_
 dsimp only[zJE]
 (repeat (first|refine zS ?_|refine zK ?_|refine zR ?_|refine zD ?_|refine zB ?_|refine zI ?_|refine zJ ?_|refine zP ?_|refine zE ?_|refine zG ?_|refine zF ?_|refine zH (by decide) ?_|refine zQ ?_|((first|refine zC ?_|refine zM ?_|refine zO rfl rfl ?_|refine zN rfl ?_|refine zL ?_);simp only[yq128.down,zA,lemS.down,lemC.down,zdO,zdN,zdL,reduceIte,zdM,zdP,zdQ,zdR,zdS,zdT,zdU,zdV,zdW,reduceCtorEq,lemH.down,t0,t1,t5,t8,t9,t10])))
 refine⟨fun hlt=>?_,fun hge=>?_⟩
 ·have hi':i<ms.length:=by omega
  obtain⟨B,o,ia,ld⟩:=hel i hi'
  have ld:∀sp,g.load ⟨B,o,sp⟩=some (.int .i64 (ms.getD i 0)):=fun sp=>ld
  have lk:=zbJ hm (ms.getD i 0)
  have ww:IntKind.i64.wrap ((i:Int)+1)=((i+1:Nat):Int):=by rw[wrap_i64 (by omega) (by omega)];omega
  have hle:((ms.take i).filter (fun m=>ks.contains m)).length≤ms.length:=Nat.le_trans (List.length_filter_le _ _) (by rw[List.length_take];omega)
  have w5:IntKind.i64.wrap ((((ms.take i).filter (fun m=>ks.contains m)).length:Int)+1)=((((ms.take i).filter (fun m=>ks.contains m)).length+1:Nat):Int):=by rw[wrap_i64 (by omega) (by omega)];omega
  have ht:ms.take (i+1)=ms.take i++[ms.getD i 0]:=by
   rw[List.take_succ_eq_append_getElem hi']
   simp[List.getD_eq_getElem?_getD,List.getElem?_eq_getElem hi']
  cases hc:ks.contains (ms.getD i 0)
  ·rw[hc] at lk
   (repeat (first|refine zS ?_|refine zK ?_|refine zR ?_|refine zD ?_|refine zB ?_|refine zI ?_|refine zJ ?_|refine zP ?_|refine zE ?_|refine zG ?_|refine zF ?_|refine zH (by decide) ?_|refine zQ ?_|((first|refine zC ?_|refine zM ?_|refine zO rfl rfl ?_|refine zN rfl ?_|refine zL ?_);simp only[yq128.down,zA,lemS.down,lemC.down,zdO,zdN,zdL,reduceIte,zdM,zdP,zdQ,zdR,zdS,zdT,zdU,zdV,zdW,reduceCtorEq,lemH.down,t0,t1,t5,t8,t9,t10,zAd,ia,ld,zLy,lk,ww])))
   exact hnext (ms.length - (i+1)) _ g (by omega) ⟨i+1,rfl,by omega,rfl,by simp only[yq128.down,zA,lemS.down,lemC.down,zdO,zdN,zdL,reduceIte,zdM,zdP,zdQ,zdR,zdS,zdT,zdU,zdV,zdW,reduceCtorEq,t0],by simp only[yq128.down,zA,lemS.down,lemC.down,zdO,zdN,zdL,reduceIte,zdM,zdP,zdQ,zdR,zdS,zdT,zdU,zdV,zdW,reduceCtorEq,t1],by rw[ht,List.filter_append,List.filter_cons_of_neg (by rw[hc];decide),List.filter_nil,List.append_nil];simp only[yq128.down,zA,lemS.down,lemC.down,zdO,zdN,zdL,reduceIte,zdM,zdP,zdQ,zdR,zdS,zdT,zdU,zdV,zdW,reduceCtorEq,t5],by simp only[yq128.down,zA,lemS.down,lemC.down,zdO,zdN,zdL,reduceIte,zdM,zdP,zdQ,zdR,zdS,zdT,zdU,zdV,zdW,reduceCtorEq,t8],by simp only[yq128.down,zA,lemS.down,lemC.down,zdO,zdN,zdL,reduceIte,zdM,zdP,zdQ,zdR,zdS,zdT,zdU,zdV,zdW,reduceCtorEq,t9],by simp only[yq128.down,zA,lemS.down,lemC.down,zdO,zdN,zdL,reduceIte,zdM,zdP,zdQ,zdR,zdS,zdT,zdU,zdV,zdW,reduceCtorEq]⟩
  ·rw[hc] at lk
   (repeat (first|refine zS ?_|refine zK ?_|refine zR ?_|refine zD ?_|refine zB ?_|refine zI ?_|refine zJ ?_|refine zP ?_|refine zE ?_|refine zG ?_|refine zF ?_|refine zH (by decide) ?_|refine zQ ?_|((first|refine zC ?_|refine zM ?_|refine zO rfl rfl ?_|refine zN rfl ?_|refine zL ?_);simp only[yq128.down,zA,lemS.down,lemC.down,zdO,zdN,zdL,reduceIte,zdM,zdP,zdQ,zdR,zdS,zdT,zdU,zdV,zdW,reduceCtorEq,lemH.down,t0,t1,t5,t8,t9,t10,zAd,ia,ld,zLy,lk,ww,w5])))
   exact hnext (ms.length - (i+1)) _ g (by omega) ⟨i+1,rfl,by omega,rfl,by simp only[yq128.down,zA,lemS.down,lemC.down,zdO,zdN,zdL,reduceIte,zdM,zdP,zdQ,zdR,zdS,zdT,zdU,zdV,zdW,reduceCtorEq,t0],by simp only[yq128.down,zA,lemS.down,lemC.down,zdO,zdN,zdL,reduceIte,zdM,zdP,zdQ,zdR,zdS,zdT,zdU,zdV,zdW,reduceCtorEq,t1],by rw[ht,List.filter_append,List.filter_cons_of_pos (by rw[hc]),List.filter_nil,List.length_append,List.length_singleton];simp only[yq128.down,zA,lemS.down,lemC.down,zdO,zdN,zdL,reduceIte,zdM,zdP,zdQ,zdR,zdS,zdT,zdU,zdV,zdW,reduceCtorEq],by simp only[yq128.down,zA,lemS.down,lemC.down,zdO,zdN,zdL,reduceIte,zdM,zdP,zdQ,zdR,zdS,zdT,zdU,zdV,zdW,reduceCtorEq,t8],by simp only[yq128.down,zA,lemS.down,lemC.down,zdO,zdN,zdL,reduceIte,zdM,zdP,zdQ,zdR,zdS,zdT,zdU,zdV,zdW,reduceCtorEq,t9],by simp only[yq128.down,zA,lemS.down,lemC.down,zdO,zdN,zdL,reduceIte,zdM,zdP,zdQ,zdR,zdS,zdT,zdU,zdV,zdW,reduceCtorEq]⟩
 ·obtain rfl:i=ms.length:=by omega
  rw[List.take_length] at t5
  have hm1:=zAR (h:=g) hh (s:=zE3) (args:=[.int .i64 (ms.length:Int)]) (v:=.int .i64 ((ms.length:Int) / 2+1)) (by simp only[zE3];rw[if_pos ⟨by omega,by omega⟩])
  unfold zCE
  by_cases h0:0<ms.length
  ·have d1:decide ((ms.length:Int)>0)=true:=decide_eq_true (by omega)
   have d2:decide (0<ms.length)=true:=by simpa using h0
   have d3:decide (((ms.filter (fun m=>ks.contains m)).length:Int)≥(ms.length:Int) / 2+1)=decide (ms.length / 2+1≤(ms.filter (fun m=>ks.contains m)).length):=by
    generalize (ms.filter (fun m=>ks.contains m)).length=c
    rw[Bool.eq_iff_iff]
    simp only[ge_iff_le,decide_eq_true_eq]
    omega
   rw[d2,Bool.true_and]
   (repeat (first|refine zS ?_|refine zK ?_|refine zR ?_|refine zD ?_|refine zB ?_|refine zI ?_|refine zJ ?_|refine zP ?_|refine zE ?_|refine zG ?_|refine zF ?_|refine zH (by decide) ?_|refine zQ ?_|((first|refine zC ?_|refine zM ?_|refine zO rfl rfl ?_|refine zN rfl ?_|refine zL ?_);simp only[yq128.down,zA,lemS.down,lemC.down,zdO,zdN,zdL,reduceIte,zdM,zdP,zdQ,zdR,zdS,zdT,zdU,zdV,zdW,reduceCtorEq,lemH.down,t0,t1,t5,t8,t9,t10,d1,hm1,d3])))
   exact⟨.inr rfl,by simp only[yq128.down,zA,lemS.down,lemC.down,zdO,zdN,zdL,reduceIte,zdM,zdP,zdQ,zdR,zdS,zdT,zdU,zdV,zdW,reduceCtorEq],Grows.refl _⟩
  ·have d1:decide ((ms.length:Int)>0)=false:=decide_eq_false (by omega)
   have d2:decide (0<ms.length)=false:=by simpa using h0
   rw[d2,Bool.false_and]
   (repeat (first|refine zS ?_|refine zK ?_|refine zR ?_|refine zD ?_|refine zB ?_|refine zI ?_|refine zJ ?_|refine zP ?_|refine zE ?_|refine zG ?_|refine zF ?_|refine zH (by decide) ?_|refine zQ ?_|((first|refine zC ?_|refine zM ?_|refine zO rfl rfl ?_|refine zN rfl ?_|refine zL ?_);simp only[yq128.down,zA,lemS.down,lemC.down,zdO,zdN,zdL,reduceIte,zdM,zdP,zdQ,zdR,zdS,zdT,zdU,zdV,zdW,reduceCtorEq,lemH.down,t0,t1,t5,t8,t9,t10,d1,zc])))
   exact⟨.inr rfl,by simp only[yq128.down,zA,lemS.down,lemC.down,zdO,zdN,zdL,reduceIte,zdM,zdP,zdQ,zdR,zdS,zdT,zdU,zdV,zdW,reduceCtorEq],Grows.refl _⟩
end Go.X
end
section
open Go Go.X
namespace Go.X
set_option linter.unusedVariables false
def zAu (keys:List (List UInt8)) (x:Hdr) (l:TagL) (i:Nat):Bool:=!(decide (0<i)&&decide ((l.getD (i - 1) (0,[])).1≥(l.getD i (0,[])).1))&&zD6 keys x (l.getD i (0,[])).1 (l.getD i (0,[])).2
def zDQ (keys:List (List UInt8)) (x:Hdr) (l:TagL) (ms:List Int):Nat :=
 if zAt ms=false then 1 else if zAP x≠0 then zAP x else if (List.range l.length).all (zAu keys x l)=false then 170 else if zCE ms (l.map (·.1)) then 0 else 170
theorem zKy {l:TagL} {i:Nat} (hi:i<l.length):l.getD i (0,[])=l[i]:=by simp[List.getD_eq_getElem?_getD,List.getElem?_eq_getElem hi]
theorem okTag_lt {keys:List (List UInt8)} {x:Hdr} {l:TagL} {i:Nat} (h:∀j,j≤i→zAu keys x l j=true):∀j,j<i→(l.getD j (0,[])).1<(l.getD i (0,[])).1:=by
 induction i with
 | zero=>intro j hj;omega
 | succ i ih =>
  have h1:=h (i+1) (Nat.le_refl _)
  simp only[zAu,Nat.zero_lt_succ,decide_true,Bool.true_and,Nat.add_sub_cancel,Bool.and_eq_true,Bool.not_eq_true',decide_eq_false_iff_not] at h1
  intro j hj
  rcases Nat.lt_or_ge j i with q|q
  ·have:=ih (fun k hk=>h k (by omega)) j q
   omega
  ·obtain rfl:j=i:=by omega
   omega
theorem zbZ {keys:List (List UInt8)} {x:Hdr} {l:TagL} {i:Nat} (hi:i<l.length) (h:∀j,j≤i→zAu keys x l j=true):(l.getD i (0,[])).1∉(l.take i).map (·.1):=by
 intro hm
 rw[List.mem_map] at hm
 obtain⟨q,hq,e⟩:=hm
 obtain⟨j,hj,rfl⟩:=List.getElem_of_mem hq
 rw[List.length_take] at hj
 have:=okTag_lt h j (by omega)
 rw[List.getElem_take] at e
 rw[zKy (by omega:j<l.length)] at this
 omega
structure CheckTab (pr:Prog):Prop where
 mem:pr.prim 56=some zCX
 chk:pr.prim 64=some zCS
 good:pr.prim 127=some zEp
 most:pr.prim 128=some zE2
set_option maxHeartbeats 2000000 in
theorem zZ4 (pr:Prog) (T:CheckTab pr) (h:Heap) (wf:HWF h) (a:Addr) (keys:List (List UInt8)) (hr:zAl h a=some keys) (hk:zBS keys=true) (x:Hdr) (mv:Value) (hx:HdW h x mv) (tv:Value) (l:TagL) (hs:zBP h tv=some l) (hl:l.length≤9223372036854775807) (msv:Value) (ms:List Int) (hms:zAH h msv=some ms) (hml:ms.length≤1000000) :
  Comes pr xq51 [.pointer (some a),.agg (hcells x mv).toArray,.agg [tv].toArray,msv] h (.int .i64 (zDQ keys x l ms:Int)):=by
 apply Comes.of
 unfold xq51
 dsimp only[zY]
 have hr64:zT=140737488355328:=rfl
 obtain⟨g,hg,gg,gx,lN,_⟩:=zK4 hx wf
 have v5:Var g h.next (hcells x mv):=by rw[←hg];exact Var.new_self
 have gn:g.next=h.next+1:=by rw[←hg];rfl
 obtain⟨g0,hg0,v6,gg0,gn0⟩:=box1 (h:=g) (zIn hs).1
 have e6:g.next=h.next+1:=gn
 have gA:=gg.trans gg0
 have wf0:HWF g0:=by rw[←hg0,←hg];exact (wf.push (.cells _)).push (.cells _)
 have v50:=v5.grow gg0
 have l5:∀sp,g0.loadN ⟨h.next,0,sp⟩ 5=some (hcells x mv):=fun sp=>v50.loadAll rfl
 have cm:=zAr T.mem (zGA (zEu wf gA hms) (by omega))
 have cc:=zAr T.chk (zFw (hx.grow wf gA))
 obtain⟨hb,b,cap,rfl,_⟩:=zDk hs
 unfold zDQ
 cases hmp:zAt ms
 ·rw[if_pos rfl]
  rw[hmp] at cm
  (repeat (first|refine zS ?_|refine zK ?_|refine zR ?_|refine zD ?_|refine zB ?_|refine zI ?_|refine zJ ?_|refine zP ?_|refine zE ?_|refine zG ?_|refine zF ?_|refine zH (by decide) ?_|refine zQ ?_|((first|refine zC ?_|refine zM ?_|refine zO rfl rfl ?_|refine zN rfl ?_|refine zL ?_);simp only[yq51.down,zA,lemS.down,lemC.down,zdO,zdN,zdL,reduceIte,zdM,zdP,zdQ,zdR,zdS,zdT,zdU,zdV,zdW,reduceCtorEq,lemH.down,zAa,zB8,hg,hg0,cm])))
  exact⟨.inr rfl,by (simp only[yq51.down,zA,lemS.down,lemC.down,zdO,zdN,zdL,reduceIte,zdM,zdP,zdQ,zdR,zdS,zdT,zdU,zdV,zdW,reduceCtorEq])<;>rfl,gA⟩
 rw[if_neg (by decide)]
 rw[hmp] at cm
 by_cases h0:zAP x=0
 rotate_left
 ·have b0:((zAP x:Int)==0)=false:=by rw[beq_eq_false_iff_ne];omega
  rw[if_pos h0]
  (repeat (first|refine zS ?_|refine zK ?_|refine zR ?_|refine zD ?_|refine zB ?_|refine zI ?_|refine zJ ?_|refine zP ?_|refine zE ?_|refine zG ?_|refine zF ?_|refine zH (by decide) ?_|refine zQ ?_|((first|refine zC ?_|refine zM ?_|refine zO rfl rfl ?_|refine zN rfl ?_|refine zL ?_);simp only[yq51.down,zA,lemS.down,lemC.down,zdO,zdN,zdL,reduceIte,zdM,zdP,zdQ,zdR,zdS,zdT,zdU,zdV,zdW,reduceCtorEq,lemH.down,zAa,zB8,hg,hg0,cm,l5,cc,b0])))
  exact⟨.inr rfl,by simp only[yq51.down,zA,lemS.down,lemC.down,zdO,zdN,zdL,reduceIte,zdM,zdP,zdQ,zdR,zdS,zdT,zdU,zdV,zdW,reduceCtorEq],gA⟩
 have b0:((zAP x:Int)==0)=true:=by rw[h0];rfl
 rw[if_neg (by omega)]
 obtain⟨g1,hg1,gg1,gn1,m1⟩:∃g1,g0.newMap=g1∧Grows g0 g1∧g1.next=g0.next+1∧MapAt g1 g0.next (zBN []):=⟨_,rfl,Grows.newMap,rfl,PT.get_set_eq _ _ _⟩
 have gB:=gA.trans gg1
 have v51:=v50.grow gg1
 have v61:=v6.grow gg1
 have l6:∀sp,g1.load ⟨g.next,0,sp⟩=some (.slice b l.length cap):=fun sp=>v61.load
 (repeat (first|refine zS ?_|refine zK ?_|refine zR ?_|refine zD ?_|refine zB ?_|refine zI ?_|refine zJ ?_|refine zP ?_|refine zE ?_|refine zG ?_|refine zF ?_|refine zH (by decide) ?_|refine zQ ?_|((first|refine zC ?_|refine zM ?_|refine zO rfl rfl ?_|refine zN rfl ?_|refine zL ?_);simp only[yq51.down,zA,lemS.down,lemC.down,zdO,zdN,zdL,reduceIte,zdM,zdP,zdQ,zdR,zdS,zdT,zdU,zdV,zdW,reduceCtorEq,lemH.down,zAa,zB8,hg,hg0,cm,l5,cc,b0,mkH_map,val_map,al_mkmap,zbV,hg1,l6])))
 have hbad:∀i,i<l.length→zAu keys x l i=false→(if (List.range l.length).all (zAu keys x l)=false then 170 else if zCE ms (l.map (·.1))=true then 0 else 170)=170:=fun i hi hf=>by
  rw[if_pos]
  rw[List.all_eq_false]
  exact⟨i,by simpa using hi,by simp[hf]⟩
 have hgood:(∀j,j<l.length→zAu keys x l j=true)→(if (List.range l.length).all (zAu keys x l)=false then 170 else if zCE ms (l.map (·.1))=true then 0 else 170)=if zCE ms (l.map (·.1))=true then 0 else 170:=fun hf=>by
  rw[if_neg]
  have:(List.range l.length).all (zAu keys x l)=true:=by
   rw[List.all_eq_true]
   intro j hj
   exact hf j (by simpa using hj)
  rw[this]
  decide
 generalize hX:(if (List.range l.length).all (zAu keys x l)=false then 170 else if zCE ms (l.map (·.1))=true then 0 else 170)=X at *
 refine zAU (fun m t g'=>∃i,m=l.length - i∧i≤l.length∧(∀j,j<i→zAu keys x l j=true)∧Keeps (fun A=>A=g0.next) g1 g'∧MapAt g' g0.next (zBN ((l.take i).map (·.1)))∧t.get 0=.pointer (some a)∧t.get 3=msv∧t.get 5=.pointer (some ⟨h.next,0,none⟩)∧t.get 6=.pointer (some ⟨g.next,0,none⟩)∧t.get 10=.map (some g0.next)∧t.get 23=.slice b l.length cap∧t.get 24=.int .i64 (l.length:Int)∧t.get 25=.int .i64 (i:Int)) ?_ l.length _ _ ⟨0,rfl,by omega,by simp,Keeps.refl,m1,by simp only[yq51.down,zA,lemS.down,lemC.down,zdO,zdN,zdL,reduceIte,zdM,zdP,zdQ,zdR,zdS,zdT,zdU,zdV,zdW,reduceCtorEq],by simp only[yq51.down,zA,lemS.down,lemC.down,zdO,zdN,zdL,reduceIte,zdM,zdP,zdQ,zdR,zdS,zdT,zdU,zdV,zdW,reduceCtorEq],by simp only[yq51.down,zA,lemS.down,lemC.down,zdO,zdN,zdL,reduceIte,zdM,zdP,zdQ,zdR,zdS,zdT,zdU,zdV,zdW,reduceCtorEq],by simp only[yq51.down,zA,lemS.down,lemC.down,zdO,zdN,zdL,reduceIte,zdM,zdP,zdQ,zdR,zdS,zdT,zdU,zdV,zdW,reduceCtorEq],by simp only[yq51.down,zA,lemS.down,lemC.down,zdO,zdN,zdL,reduceIte,zdM,zdP,zdQ,zdR,zdS,zdT,zdU,zdV,zdW,reduceCtorEq],by simp only[yq51.down,zA,lemS.down,lemC.down,zdO,zdN,zdL,reduceIte,zdM,zdP,zdQ,zdR,zdS,zdT,zdU,zdV,zdW,reduceCtorEq],by simp only[yq51.down,zA,lemS.down,lemC.down,zdO,zdN,zdL,reduceIte,zdM,zdP,zdQ,zdR,zdS,zdT,zdU,zdV,zdW,reduceCtorEq],by (simp only[yq51.down,zA,lemS.down,lemC.down,zdO,zdN,zdL,reduceIte,zdM,zdP,zdQ,zdR,zdS,zdT,zdU,zdV,zdW,reduceCtorEq])<;>rfl⟩
 rintro m t q ⟨i,rfl,hi,hall,qk,qm,t0,t3,t5,t6,t10,t23,t24,t25⟩ hnext
 refine xq51_14k ?_
 dsimp only[zJi]
 (repeat (first|refine zS ?_|refine zK ?_|refine zR ?_|refine zD ?_|refine zB ?_|refine zI ?_|refine zJ ?_|refine zP ?_|refine zE ?_|refine zG ?_|refine zF ?_|refine zH (by decide) ?_|refine zQ ?_|((first|refine zC ?_|refine zM ?_|refine zO rfl rfl ?_|refine zN rfl ?_|refine zL ?_);simp only[yq51.down,zA,lemS.down,lemC.down,zdO,zdN,zdL,reduceIte,zdM,zdP,zdQ,zdR,zdS,zdT,zdU,zdV,zdW,reduceCtorEq,lemH.down,t0,t3,t5,t6,t10,t23,t24,t25])))
 have gQ:Grows h q:=gB.then qk (fun A hA e=>by omega)
 have qn:=qk.next
 refine⟨fun hlt=>?_,fun hge=>?_⟩
 ·have hi':i<l.length:=by omega
  obtain⟨_,_,_,_,hel⟩:=zDk (zIm wf gQ hs)
  obtain⟨B,o,ia,ld,_⟩:=hel i hi'
  obtain⟨q1,hq1,w1,gq1,qn1⟩:∃q1,q.new [.int .i64 0,.string (strOf [])]=q1∧Var q1 q.next [.int .i64 0,.string (strOf [])]∧Grows q q1∧q1.next=q.next+1:=⟨_,rfl,Var.new_self,Grows.new,rfl⟩
  have st:zj q1 2 (.pointer (some ⟨q.next,0,none⟩)) (.agg [.int .i64 (l.getD i (0,[])).1,.string (strOf (l.getD i (0,[])).2)].toArray)=some (.tuple #[],q1.wr q.next [.int .i64 (l.getD i (0,[])).1,.string (strOf (l.getD i (0,[])).2)]):=w1.storeAll rfl rfl (by decide) rfl
  obtain⟨q2,hq2,w2,gq2⟩:∃q2,q1.wr q.next [.int .i64 (l.getD i (0,[])).1,.string (strOf (l.getD i (0,[])).2)]=q2∧Var q2 q.next [.int .i64 (l.getD i (0,[])).1,.string (strOf (l.getD i (0,[])).2)]∧Grows q q2:=⟨_,rfl,w1.wr,gq1.wr (Nat.le_refl _)⟩
  rw[hq2] at st
  have gQ2:=gQ.trans gq2
  have k2:Keeps (fun A=>A=g0.next) g1 q2:=qk.trans (gq2.keeps (W:=zCZ)) (fun A hA (e:zCZ A)=>False.elim e)
  have u5:∀sp,q2.loadN ⟨h.next,0,sp⟩ 5=some (hcells x mv):=fun sp=>(v51.keep k2 (by omega)).loadAll rfl
  have u6:∀sp,q2.load ⟨g.next,0,sp⟩=some (.slice b l.length cap):=fun sp=>(v61.keep k2 (by omega)).load
  have u0:∀sp,q2.load ⟨q.next,0,sp⟩=some (.int .i64 (l.getD i (0,[])).1):=fun sp=>w2.load
  have uN:∀sp,q2.loadN ⟨q.next,0,sp⟩ 2=some [.int .i64 (l.getD i (0,[])).1,.string (strOf (l.getD i (0,[])).2)]:=fun sp=>w2.loadAll rfl
  have gd:=zAr T.good (goodG_at (r:=(l.getD i (0,[])).1) (t:=(l.getD i (0,[])).2) (zL5 wf gQ2 hr) hk ((hx.small h0).grow wf gQ2))
  have gd:cfi pr 127 [.pointer (some a),.agg (hcells x mv).toArray,.agg [.int .i64 (l.getD i (0,[])).1,.string (strOf (l.getD i (0,[])).2)].toArray] q2=_:=gd
  have ww:IntKind.i64.wrap ((i:Int)+1)=((i+1:Nat):Int):=by rw[wrap_i64 (by omega) (by omega)];omega
  have wm:IntKind.i64.wrap ((i:Int) - 1)=(i:Int) - 1:=wrap_i64 (by omega) (by omega)
  have qm2:=qm.keep (by have:=qk.next;omega) (gq2.keeps (W:=zCZ)) id
  have htk:l.take (i+1)=l.take i++[l.getD i (0,[])]:=by
   rw[List.take_succ_eq_append_getElem hi',zKy hi']
  have fin:=fun (hm:zAu keys x l i=true) (t':Fr) (s0:t'.get 0=.pointer (some a)) (s3:t'.get 3=msv) (s5:t'.get 5=.pointer (some ⟨h.next,0,none⟩)) (s6:t'.get 6=.pointer (some ⟨g.next,0,none⟩)) (s10:t'.get 10=.map (some g0.next)) (s23:t'.get 23=.slice b l.length cap) (s24:t'.get 24=.int .i64 (l.length:Int)) (s25:t'.get 25=.int .i64 ((i+1:Nat):Int))=>hnext (l.length - (i+1)) t' (q2.setBlk g0.next (.map (zBN ((l.take i).map (·.1)++[(l.getD i (0,[])).1])))) (by omega) ⟨i+1,rfl,by omega,fun j hj=>by
   rcases Nat.lt_or_ge j i with h|h
   ·exact hall j h
   ·obtain rfl:j=i:=by omega
    exact hm,k2.trans Keeps.setMap (fun A _ e=>e),by rw[htk,List.map_append];exact MapAt.set,s0,s3,s5,s6,s10,s23,s24,s25⟩
  have mu:=fun (hm:zAu keys x l i=true)=>zbT qm2 (zbZ (keys:=keys) (x:=x) hi' (fun j hj=>by
   rcases Nat.lt_or_ge j i with h|h
   ·exact hall j h
   ·obtain rfl:j=i:=by omega
    exact hm))
  cases hgd:zD6 keys x (l.getD i (0,[])).1 (l.getD i (0,[])).2
  ·rw[hgd] at gd
   have hb1:=hbad i hi' (by simp only[zAu,hgd,Bool.and_false])
   by_cases c3:0<i
   ·have d3:decide ((i:Int)>0)=true:=decide_eq_true (by omega)
    obtain⟨_,_,_,_,hel2⟩:=zDk (zIm wf gQ2 hs)
    obtain⟨B2,o2,ia2,_,ld2,_⟩:=hel2 (i - 1) (by omega)
    rw[show ((i - 1:Nat):Int)=(i:Int) - 1 by omega] at ia2
    cases d4:decide ((l.getD (i - 1) (0,[])).1≥(l.getD i (0,[])).1)
    ·(repeat (first|refine zS ?_|refine zK ?_|refine zR ?_|refine zD ?_|refine zB ?_|refine zI ?_|refine zJ ?_|refine zP ?_|refine zE ?_|refine zG ?_|refine zF ?_|refine zH (by decide) ?_|refine zQ ?_|((first|refine zC ?_|refine zM ?_|refine zO rfl rfl ?_|refine zN rfl ?_|refine zL ?_);simp only[yq51.down,zA,lemS.down,lemC.down,zdO,zdN,zdL,reduceIte,zdM,zdP,zdQ,zdR,zdS,zdT,zdU,zdV,zdW,reduceCtorEq,lemH.down,t0,t3,t5,t6,t10,t23,t24,t25,zAd,ia,ld,hq1,st,d3,u6,wm,ia2,ld2,u0,d4,u5,uN,gd,Nat.add_zero])))
     exact⟨.inr rfl,by (simp only[yq51.down,zA,lemS.down,lemC.down,zdO,zdN,zdL,reduceIte,zdM,zdP,zdQ,zdR,zdS,zdT,zdU,zdV,zdW,reduceCtorEq])<;>(rw[hb1];rfl),gQ2⟩
    ·(repeat (first|refine zS ?_|refine zK ?_|refine zR ?_|refine zD ?_|refine zB ?_|refine zI ?_|refine zJ ?_|refine zP ?_|refine zE ?_|refine zG ?_|refine zF ?_|refine zH (by decide) ?_|refine zQ ?_|((first|refine zC ?_|refine zM ?_|refine zO rfl rfl ?_|refine zN rfl ?_|refine zL ?_);simp only[yq51.down,zA,lemS.down,lemC.down,zdO,zdN,zdL,reduceIte,zdM,zdP,zdQ,zdR,zdS,zdT,zdU,zdV,zdW,reduceCtorEq,lemH.down,t0,t3,t5,t6,t10,t23,t24,t25,zAd,ia,ld,hq1,st,d3,u6,wm,ia2,ld2,u0,d4,zc,Nat.add_zero])))
     exact⟨.inr rfl,by (simp only[yq51.down,zA,lemS.down,lemC.down,zdO,zdN,zdL,reduceIte,zdM,zdP,zdQ,zdR,zdS,zdT,zdU,zdV,zdW,reduceCtorEq])<;>(rw[hb1];rfl),gQ2⟩
   ·have d3:decide ((i:Int)>0)=false:=decide_eq_false (by omega)
    (repeat (first|refine zS ?_|refine zK ?_|refine zR ?_|refine zD ?_|refine zB ?_|refine zI ?_|refine zJ ?_|refine zP ?_|refine zE ?_|refine zG ?_|refine zF ?_|refine zH (by decide) ?_|refine zQ ?_|((first|refine zC ?_|refine zM ?_|refine zO rfl rfl ?_|refine zN rfl ?_|refine zL ?_);simp only[yq51.down,zA,lemS.down,lemC.down,zdO,zdN,zdL,reduceIte,zdM,zdP,zdQ,zdR,zdS,zdT,zdU,zdV,zdW,reduceCtorEq,lemH.down,t0,t3,t5,t6,t10,t23,t24,t25,zAd,ia,ld,hq1,st,d3,u5,uN,gd,zc,Nat.add_zero])))
    exact⟨.inr rfl,by (simp only[yq51.down,zA,lemS.down,lemC.down,zdO,zdN,zdL,reduceIte,zdM,zdP,zdQ,zdR,zdS,zdT,zdU,zdV,zdW,reduceCtorEq])<;>(rw[hb1];rfl),gQ2⟩
  ·rw[hgd] at gd
   by_cases c3:0<i
   ·have d3:decide ((i:Int)>0)=true:=decide_eq_true (by omega)
    obtain⟨_,_,_,_,hel2⟩:=zDk (zIm wf gQ2 hs)
    obtain⟨B2,o2,ia2,_,ld2,_⟩:=hel2 (i - 1) (by omega)
    rw[show ((i - 1:Nat):Int)=(i:Int) - 1 by omega] at ia2
    cases d4:decide ((l.getD (i - 1) (0,[])).1≥(l.getD i (0,[])).1)
    ·have hok:zAu keys x l i=true:=by simp only[zAu,hgd,d4,Bool.and_false];rfl
     have mu:=mu hok
     (repeat (first|refine zS ?_|refine zK ?_|refine zR ?_|refine zD ?_|refine zB ?_|refine zI ?_|refine zJ ?_|refine zP ?_|refine zE ?_|refine zG ?_|refine zF ?_|refine zH (by decide) ?_|refine zQ ?_|((first|refine zC ?_|refine zM ?_|refine zO rfl rfl ?_|refine zN rfl ?_|refine zL ?_);simp only[yq51.down,zA,lemS.down,lemC.down,zdO,zdN,zdL,reduceIte,zdM,zdP,zdQ,zdR,zdS,zdT,zdU,zdV,zdW,reduceCtorEq,lemH.down,t0,t3,t5,t6,t10,t23,t24,t25,zAd,ia,ld,hq1,st,d3,u6,wm,ia2,ld2,u0,d4,u5,uN,gd,Nat.add_zero,zKf,mu,ww])))
     exact fin hok _ (by simp only[yq51.down,zA,lemS.down,lemC.down,zdO,zdN,zdL,reduceIte,zdM,zdP,zdQ,zdR,zdS,zdT,zdU,zdV,zdW,reduceCtorEq,t0]) (by simp only[yq51.down,zA,lemS.down,lemC.down,zdO,zdN,zdL,reduceIte,zdM,zdP,zdQ,zdR,zdS,zdT,zdU,zdV,zdW,reduceCtorEq,t3]) (by simp only[yq51.down,zA,lemS.down,lemC.down,zdO,zdN,zdL,reduceIte,zdM,zdP,zdQ,zdR,zdS,zdT,zdU,zdV,zdW,reduceCtorEq,t5]) (by simp only[yq51.down,zA,lemS.down,lemC.down,zdO,zdN,zdL,reduceIte,zdM,zdP,zdQ,zdR,zdS,zdT,zdU,zdV,zdW,reduceCtorEq,t6]) (by simp only[yq51.down,zA,lemS.down,lemC.down,zdO,zdN,zdL,reduceIte,zdM,zdP,zdQ,zdR,zdS,zdT,zdU,zdV,zdW,reduceCtorEq,t10]) (by simp only[yq51.down,zA,lemS.down,lemC.down,zdO,zdN,zdL,reduceIte,zdM,zdP,zdQ,zdR,zdS,zdT,zdU,zdV,zdW,reduceCtorEq,t23]) (by simp only[yq51.down,zA,lemS.down,lemC.down,zdO,zdN,zdL,reduceIte,zdM,zdP,zdQ,zdR,zdS,zdT,zdU,zdV,zdW,reduceCtorEq,t24]) (by simp only[yq51.down,zA,lemS.down,lemC.down,zdO,zdN,zdL,reduceIte,zdM,zdP,zdQ,zdR,zdS,zdT,zdU,zdV,zdW,reduceCtorEq])
    ·have hb1:=hbad i hi' (by simp only[zAu,d4,decide_eq_true c3,Bool.and_self,Bool.not_true,Bool.false_and])
     (repeat (first|refine zS ?_|refine zK ?_|refine zR ?_|refine zD ?_|refine zB ?_|refine zI ?_|refine zJ ?_|refine zP ?_|refine zE ?_|refine zG ?_|refine zF ?_|refine zH (by decide) ?_|refine zQ ?_|((first|refine zC ?_|refine zM ?_|refine zO rfl rfl ?_|refine zN rfl ?_|refine zL ?_);simp only[yq51.down,zA,lemS.down,lemC.down,zdO,zdN,zdL,reduceIte,zdM,zdP,zdQ,zdR,zdS,zdT,zdU,zdV,zdW,reduceCtorEq,lemH.down,t0,t3,t5,t6,t10,t23,t24,t25,zAd,ia,ld,hq1,st,d3,u6,wm,ia2,ld2,u0,d4,zc,Nat.add_zero])))
     exact⟨.inr rfl,by (simp only[yq51.down,zA,lemS.down,lemC.down,zdO,zdN,zdL,reduceIte,zdM,zdP,zdQ,zdR,zdS,zdT,zdU,zdV,zdW,reduceCtorEq])<;>(rw[hb1];rfl),gQ2⟩
   ·have d3:decide ((i:Int)>0)=false:=decide_eq_false (by omega)
    have hok:zAu keys x l i=true:=by simp only[zAu,hgd,decide_eq_false c3,Bool.false_and,Bool.not_false,Bool.and_self]
    have mu:=mu hok
    (repeat (first|refine zS ?_|refine zK ?_|refine zR ?_|refine zD ?_|refine zB ?_|refine zI ?_|refine zJ ?_|refine zP ?_|refine zE ?_|refine zG ?_|refine zF ?_|refine zH (by decide) ?_|refine zQ ?_|((first|refine zC ?_|refine zM ?_|refine zO rfl rfl ?_|refine zN rfl ?_|refine zL ?_);simp only[yq51.down,zA,lemS.down,lemC.down,zdO,zdN,zdL,reduceIte,zdM,zdP,zdQ,zdR,zdS,zdT,zdU,zdV,zdW,reduceCtorEq,lemH.down,t0,t3,t5,t6,t10,t23,t24,t25,zAd,ia,ld,hq1,st,d3,u0,u5,uN,gd,zc,Nat.add_zero,zKf,mu,ww])))
    exact fin hok _ (by simp only[yq51.down,zA,lemS.down,lemC.down,zdO,zdN,zdL,reduceIte,zdM,zdP,zdQ,zdR,zdS,zdT,zdU,zdV,zdW,reduceCtorEq,t0]) (by simp only[yq51.down,zA,lemS.down,lemC.down,zdO,zdN,zdL,reduceIte,zdM,zdP,zdQ,zdR,zdS,zdT,zdU,zdV,zdW,reduceCtorEq,t3]) (by simp only[yq51.down,zA,lemS.down,lemC.down,zdO,zdN,zdL,reduceIte,zdM,zdP,zdQ,zdR,zdS,zdT,zdU,zdV,zdW,reduceCtorEq,t5]) (by simp only[yq51.down,zA,lemS.down,lemC.down,zdO,zdN,zdL,reduceIte,zdM,zdP,zdQ,zdR,zdS,zdT,zdU,zdV,zdW,reduceCtorEq,t6]) (by simp only[yq51.down,zA,lemS.down,lemC.down,zdO,zdN,zdL,reduceIte,zdM,zdP,zdQ,zdR,zdS,zdT,zdU,zdV,zdW,reduceCtorEq,t10]) (by simp only[yq51.down,zA,lemS.down,lemC.down,zdO,zdN,zdL,reduceIte,zdM,zdP,zdQ,zdR,zdS,zdT,zdU,zdV,zdW,reduceCtorEq,t23]) (by simp only[yq51.down,zA,lemS.down,lemC.down,zdO,zdN,zdL,reduceIte,zdM,zdP,zdQ,zdR,zdS,zdT,zdU,zdV,zdW,reduceCtorEq,t24]) (by simp only[yq51.down,zA,lemS.down,lemC.down,zdO,zdN,zdL,reduceIte,zdM,zdP,zdQ,zdR,zdS,zdT,zdU,zdV,zdW,reduceCtorEq])
 ·obtain rfl:i=l.length:=by omega
  rw[List.take_length] at qm
  have mo:=zAr T.most (mostG_at (zEu wf gQ hms) qm hml)
  have hX2:=hgood hall
  cases hmo:zCE ms (l.map (·.1))
  ·rw[hmo] at mo hX2
   rw[if_neg (by decide)] at hX2
   (repeat (first|refine zS ?_|refine zK ?_|refine zR ?_|refine zD ?_|refine zB ?_|refine zI ?_|refine zJ ?_|refine zP ?_|refine zE ?_|refine zG ?_|refine zF ?_|refine zH (by decide) ?_|refine zQ ?_|((first|refine zC ?_|refine zM ?_|refine zO rfl rfl ?_|refine zN rfl ?_|refine zL ?_);simp only[yq51.down,zA,lemS.down,lemC.down,zdO,zdN,zdL,reduceIte,zdM,zdP,zdQ,zdR,zdS,zdT,zdU,zdV,zdW,reduceCtorEq,lemH.down,t0,t3,t5,t6,t10,t23,t24,t25,mo])))
   exact⟨.inr rfl,by (simp only[yq51.down,zA,lemS.down,lemC.down,zdO,zdN,zdL,reduceIte,zdM,zdP,zdQ,zdR,zdS,zdT,zdU,zdV,zdW,reduceCtorEq])<;>(rw[hX2];rfl),gQ⟩
  ·rw[hmo] at mo hX2
   rw[if_pos rfl] at hX2
   (repeat (first|refine zS ?_|refine zK ?_|refine zR ?_|refine zD ?_|refine zB ?_|refine zI ?_|refine zJ ?_|refine zP ?_|refine zE ?_|refine zG ?_|refine zF ?_|refine zH (by decide) ?_|refine zQ ?_|((first|refine zC ?_|refine zM ?_|refine zO rfl rfl ?_|refine zN rfl ?_|refine zL ?_);simp only[yq51.down,zA,lemS.down,lemC.down,zdO,zdN,zdL,reduceIte,zdM,zdP,zdQ,zdR,zdS,zdT,zdU,zdV,zdW,reduceCtorEq,lemH.down,t0,t3,t5,t6,t10,t23,t24,t25,mo])))
   exact⟨.inr rfl,by (simp only[yq51.down,zA,lemS.down,lemC.down,zdO,zdN,zdL,reduceIte,zdM,zdP,zdQ,zdR,zdS,zdT,zdU,zdV,zdW,reduceCtorEq])<;>(rw[hX2];rfl),gQ⟩
def zEj:Prim:=fun args h=>match args with
 | [.pointer (some a),.agg c,.agg ⟨[tv]⟩,msv]=>match zAl h a,hdrW h c.toList,zBP h tv,zAH h msv with
  | some keys,some (x,_),some l,some ms=>if zBS keys=true∧l.length≤9223372036854775807∧ms.length≤1000000 then some (.int .i64 (zDQ keys x l ms:Int),h) else none
  | _,_,_,_=>none
 | _=>none
theorem zKZ {h:Heap} {a:Addr} {keys:List (List UInt8)} (hr:zAl h a=some keys) (hk:zBS keys=true) {x:Hdr} {mv:Value} (hx:HdW h x mv) {tv:Value} {l:TagL} (hs:zBP h tv=some l) (hl:l.length≤9223372036854775807) {msv:Value} {ms:List Int} (hms:zAH h msv=some ms) (hml:ms.length≤1000000) :
  zEj [.pointer (some a),.agg (hcells x mv).toArray,.agg [tv].toArray,msv] h=some (.int .i64 (zDQ keys x l ms:Int),h):=by
 simp only[zEj,hr,zK5 hx,hs,hms]
 rw[if_pos ⟨hk,hl,hml⟩]
end Go.X
end
