/- Any bytes are taken or refused. -/
import Derived.Test.YtnppabpbdobaiaaGreatProg
import Derived.WalkKit
import Derived.ChangeSlices
import Derived.Test.YtnppabpbdobaiaaGreatXC
import Derived.Test.YtnppabpbdobaiaaGreatXG
import Derived.Test.YtnppabpbdobaiaaGreatXH
import Derived.Test.YtnppabpbdobaiaaGreatXI
import Derived.Test.YtnppabpbdobaiaaGreatXK
import Derived.Test.YtnppabpbdobaiaaGreatXL
import Derived.Test.YtnppabpbdobaiaaGreatXM
set_option linter.unusedSimpArgs false
set_option linter.unusedVariables false
set_option maxHeartbeats 2000000
open Nat renaming reduceLeDiff → zdL, reduceEqDiff → zdM, reduceAdd → zdN
open Int renaming reduceBEq → zdO, reduceLT → zdP, reduceLE → zdQ, reduceGT → zdR, reduceGE → zdS, reduceEq → zdT, reduceAdd → zdU, reduceSub → zdV, reduceMul → zdW
section
open Go Go.X
namespace Go.X
set_option linter.unusedVariables false
structure LTab (pr:Prog):Prop where
 wire:zAL pr
 d:DTab pr
 mem:pr.prim 56=some zCX
 chk:pr.prim 64=some zCS
 cchk:pr.prim 51=some zEj
 tagged:pr.prim 160=some zBn
 pm:pr.prim 77=none
 pmC:pr.code 77=some xq77
 cl:pr.prim 59=none
 clC:pr.code 59=some xq59
 gen:pr.prim 97=none
 genC:pr.code 97=some xq97
 hcl:pr.prim 99=none
 hclC:pr.code 99=some xq99
 nr:pr.prim 98=none
 nrC:pr.code 98=some xq98
 ring:pr.prim 36=none
 ringC:pr.code 36=some xq36
 new:pr.prim 35=none
 newC:pr.code 35=some xq35
 at_:pr.prim 214=none
 atC:pr.code 214=some xq214
 hd:pr.prim 174=none
 hdC:pr.code 174=some xq174
 ht:pr.prim 50=none
 htC:pr.code 50=some xq50
 hs:pr.prim 41=none
 hsC:pr.code 41=some xq41
 kn:pr.prim 125=none
 knC:pr.code 125=some xq125
 st:pr.prim 49=none
 stC:pr.code 49=some xq49
 tx:pr.prim 48=none
 txC:pr.code 48=some xq48
 ad:pr.prim 39=none
 adC:pr.code 39=some xq39
theorem eqX_ns {a:Option Addr} {n c:Nat}:eqX .nslice (.slice a n c) (.slice none 0 0)=some a.isNone:=by simp[eqX]
theorem zbB {h:Heap} {v:Value} {l:List Int} (hs:zAH h v=some l) {s:Value}:zAi h 1 8 s v=h.append 1 8 s l.length (zAA l):=by
 unfold zAH at hs
 split at hs
 ·rename_i n c
  split at hs
  ·rename_i h0
   cases hs
   simp[zAi,h0,zAA]
  ·cases hs
 ·rename_i a n c
  split at hs
  ·rename_i h0
   cases hs
   simp[zAi,h0,zAA]
  ·rename_i h0
   split at hs
   ·rename_i cs hcs
    obtain⟨rfl,_⟩:=zHr hs
    have hn:l.length=n:=by
     have:=zF5 hcs
     rw[zDy] at this
     exact this
    simp only[zAi]
    rw[if_neg h0,Nat.mul_one,hcs,hn]
   ·cases hs
 ·cases hs
theorem zZ6 (l:List Int):(zAA l).all oneC=true:=by
 rw[List.all_eq_true]
 intro x hx
 unfold zAA at hx
 obtain⟨i,_,rfl⟩:=List.mem_map.1 hx
 rfl
theorem zFx {pr:Prog} (T:LTab pr) {h:Heap} {v:Value} {l:List Int} (hs:RdInts h v l) (hl:l.length≤1000000) :
  ∃v' h',cfi pr 59 [v] h=some (v',h')∧Own h' (fun A=>h.next≤A) 1 v' l.length (zAA l)∧Grows h h':=by
 have hr64:zT=140737488355328:=rfl
 refine zq T.cl T.clC rfl ?_
 unfold xq59
 dsimp only[zY]
 refine wpk.out (k:=[]) ?_
 obtain⟨hb,a,cap,rfl,hel⟩:=zCU hs.now
 cases a with
 | none =>
  have h0:l.length=0:=by
   have hs:=hs.now
   unfold zAH at hs
   simp only at hs
   split at hs
   ·assumption
   ·cases hs
  obtain rfl:=List.eq_nil_of_length_eq_zero h0
  (repeat (first|refine zS ?_|refine zK ?_|refine zR ?_|refine zD ?_|refine zB ?_|refine zI ?_|refine zJ ?_|refine zP ?_|refine zE ?_|refine zG ?_|refine zF ?_|refine zH (by decide) ?_|refine zQ ?_|((first|refine zC ?_|refine zM ?_|refine zO rfl rfl ?_|refine zN rfl ?_|refine zL ?_);simp only[yq59.down,zA,lemS.down,lemC.down,zdO,zdN,zdL,reduceIte,zdM,zdP,zdQ,zdR,zdS,zdT,zdU,zdV,zdW,reduceCtorEq,lemH.down,eqX_ns])))
  exact⟨.inr rfl,_,by simp only[yq59.down,zA,lemS.down,lemC.down,zdO,zdN,zdL,reduceIte,zdM,zdP,zdQ,zdR,zdS,zdT,zdU,zdV,zdW,reduceCtorEq],Own.nil,Grows.refl _⟩
 | some a =>
  have hO:=Own.newSlice (h:=h) (l:=[]) (n:=0) (esz:=1) (sp:=none) rfl (.inl rfl)
  obtain⟨v2,h2,e2,hO2,k2⟩:=hO.append (bytes:=8) (m:=l.length) (new:=zAA l) (by rw[zDy,Nat.mul_one]) (zZ6 l) (by decide) (by decide) (by omega)
  have hsrc:=zbB (hs _ (Grows.new (l:=[]))) (s:=.slice (some ⟨h.next,0,none⟩) 0 0)
  rw[←hsrc] at e2
  (repeat (first|refine zS ?_|refine zK ?_|refine zR ?_|refine zD ?_|refine zB ?_|refine zI ?_|refine zJ ?_|refine zP ?_|refine zE ?_|refine zG ?_|refine zF ?_|refine zH (by decide) ?_|refine zQ ?_|((first|refine zC ?_|refine zM ?_|refine zO rfl rfl ?_|refine zN rfl ?_|refine zL ?_);simp only[yq59.down,zA,lemS.down,lemC.down,zdO,zdN,zdL,reduceIte,zdM,zdP,zdQ,zdR,zdS,zdT,zdU,zdV,zdW,reduceCtorEq,lemH.down,eqX_ns,zAs,e2])))
  refine⟨.inr rfl,v2,by simp only[yq59.down,zA,lemS.down,lemC.down,zdO,zdN,zdL,reduceIte,zdM,zdP,zdQ,zdR,zdS,zdT,zdU,zdV,zdW,reduceCtorEq],?_,Grows.new.then k2 (fun A hA q=>by omega)⟩
  rw[Nat.zero_add,List.nil_append] at hO2
  exact hO2.mono fun A hA=>by
   rcases hA with q|q
   ·omega
   ·have:(h.new []).next=h.next+1:=rfl
    omega
theorem zZg {pr:Prog} (T:LTab pr) {h:Heap} {b:List UInt8} (hb:b.length≤1000000) {v:Value} {l:List Int} (hs:RdInts h v l) (hl:l.length≤1000000) :
  ∃s h',cfi pr 97 [.string (strOf b),v] h=some (.string (strOf s),h')∧Grows h h':=by
 have hr64:zT=140737488355328:=rfl
 have:∃w h',cfi pr 97 [.string (strOf b),v] h=some (w,h')∧∃s,w=.string (strOf s)∧Grows h h':=by
  refine zq T.gen T.genC rfl ?_
  unfold xq97
  dsimp only[zY]
  refine wpk.out (k:=[]) ?_
  obtain⟨g1,e1,w1,k1⟩:=zJs T.wire h
  obtain⟨g2,e2,w2,k2⟩:=WTextS T.wire w1 (fun A hA=>by have:=k1.next;show h.next≤A;omega) b (by show 0+b.length+8≤zT;omega)
  have k12:Grows h g2:=k1.then k2 (fun A hA q=>by omega)
  obtain⟨g3,e3,w3,k3⟩:=zJu T.wire T.pm T.pmC (h0:=h) k12 (S:=fun A=>h.next≤A) (fun A hA q=>by omega) w2 (fun A hA=>by have:=k12.next;show h.next≤A;omega) hs hl (by simp only[List.length_append,zBK,List.length_nil];omega)
  have e4:=zJy T.wire (N:=h.next) w3
  obtain⟨B,hB⟩:∃B,[]++numB b.length 4++b++zEI l=B:=⟨_,rfl⟩
  have hBl:B.length≤3000000:=by rw[←hB];simp only[List.length_append,zEI,zH7,zBK,List.length_nil];omega
  rw[hB] at e4
  have tg:=zAr T.tagged (zGg (p:=71) (zIG (h:=g3) (a:=B)) (by decide) (by simp[zAe,zDa,zBD];omega))
  have tg:cfi pr 160 [.int .u8 71,.slice (some ⟨g3.next,0,none⟩) 1 1] (g3.new [.string (strOf B)])=some (.string (strOf (tagged 71 [B])),_):=tg
  (repeat (first|refine zS ?_|refine zK ?_|refine zR ?_|refine zD ?_|refine zB ?_|refine zI ?_|refine zJ ?_|refine zP ?_|refine zE ?_|refine zG ?_|refine zF ?_|refine zH (by decide) ?_|refine zQ ?_|((first|refine zC ?_|refine zM ?_|refine zO rfl rfl ?_|refine zN rfl ?_|refine zL ?_);simp only[yq97.down,zA,lemS.down,lemC.down,zdO,zdN,zdL,reduceIte,zdM,zdP,zdQ,zdR,zdS,zdT,zdU,zdV,zdW,reduceCtorEq,lemH.down,e1,e2,e3,e4,zHd,tg])))
  exact⟨.inr rfl,_,by simp only[yq97.down,zA,lemS.down,lemC.down,zdO,zdN,zdL,reduceIte,zdM,zdP,zdQ,zdR,zdS,zdT,zdU,zdV,zdW,reduceCtorEq],tagged 71 [B],rfl,((k12.then k3 (fun A hA q=>by omega)).trans Grows.new)⟩
 obtain⟨w,h',e,s,rfl,r⟩:=this
 exact⟨s,h',e,r⟩
theorem zK3 {pr:Prog} (T:LTab pr) {h:Heap} {x:Hdr} {mv:Value} (hs:RdInts h mv x.m) (hl:x.m.length≤1000000) :
  ∃a c h',cfi pr 99 [.agg (hcells x mv).toArray] h=some (.agg (hcells x (.slice a x.m.length c)).toArray,h')∧RdInts h' (.slice a x.m.length c) x.m∧Grows h h':=by
 have:∃w h',cfi pr 99 [.agg (hcells x mv).toArray] h=some (w,h')∧∃a c,w=.agg (hcells x (.slice a x.m.length c)).toArray∧RdInts h' (.slice a x.m.length c) x.m∧Grows h h':=by
  refine zq T.hcl T.hclC rfl ?_
  unfold xq99
  dsimp only[zY]
  refine wpk.out (k:=[]) ?_
  obtain⟨hb,_⟩:=zCU hs.now
  obtain⟨g,hg,v0,gg,gn⟩:=box5 (h:=h) (hcells x mv)
  obtain⟨g1,hg1,v1,gg1,gn1⟩:=box5 (h:=g) (hcells zeroH (.slice none 0 0))
  have hg1:g.new [.int .u64 0,.string (strOf []),.string (strOf []),.string (strOf []),.slice none 0 0]=g1:=hg1
  have l4:∀sp,g1.load ⟨h.next,4,sp⟩=some mv:=fun sp=>(v0.grow gg1).load
  obtain⟨v2,h2,e2,o2,k2⟩:=zFx T (hs.grow (gg.trans gg1)) hl
  have va:=(v0.grow gg1).grow k2
  have vb:=v1.grow k2
  obtain⟨a2,c2,rfl,_⟩:=o2.shape
  have st:zj h2 1 (.pointer (some ⟨h.next,4,none⟩)) (.slice a2 x.m.length c2)=some (.tuple #[],h2.wr h.next (hcells x (.slice a2 x.m.length c2))):=o2.store va (by show 4<5;decide)
  obtain⟨h3,hh3⟩:∃h3,h2.wr h.next (hcells x (.slice a2 x.m.length c2))=h3:=⟨_,rfl⟩
  have va3:Var h3 h.next (hcells x (.slice a2 x.m.length c2)):=by rw[←hh3];exact va.wr
  have k3:Keeps (fun A=>A=h.next) h2 h3:=by rw[←hh3];exact Keeps.wr
  rw[hh3] at st
  have vb3:=vb.keep k3 (fun q=>by omega)
  have lN:∀sp,h3.loadN ⟨h.next,0,sp⟩ 5=some (hcells x (.slice a2 x.m.length c2)):=fun sp=>va3.loadAll rfl
  have s3:zj h3 5 (.pointer (some ⟨g.next,0,none⟩)) (.agg (hcells x (.slice a2 x.m.length c2)).toArray)=some (.tuple #[],h3.wr g.next (hcells x (.slice a2 x.m.length c2))):=vb3.storeAll rfl rfl (by decide) rfl
  have gAll:Grows h h3:=((gg.trans gg1).trans k2).then k3 (fun A hA q=>by omega)
  (repeat (first|refine zS ?_|refine zK ?_|refine zR ?_|refine zD ?_|refine zB ?_|refine zI ?_|refine zJ ?_|refine zP ?_|refine zE ?_|refine zG ?_|refine zF ?_|refine zH (by decide) ?_|refine zQ ?_|((first|refine zC ?_|refine zM ?_|refine zO rfl rfl ?_|refine zN rfl ?_|refine zL ?_);simp only[yq99.down,zA,lemS.down,lemC.down,zdO,zdN,zdL,reduceIte,zdM,zdP,zdQ,zdR,zdS,zdT,zdU,zdV,zdW,reduceCtorEq,lemH.down,zAa,hg,hg1,l4,e2,st,lN,s3])))
  refine⟨.inr rfl,_,zAv (a:=⟨g.next,0,none⟩) (by simp only[yq99.down,zA,lemS.down,lemC.down,zdO,zdN,zdL,reduceIte,zdM,zdP,zdQ,zdR,zdS,zdT,zdU,zdV,zdW,reduceCtorEq]) (vb3.wr.loadAll rfl),a2,c2,rfl,?_,gAll.wr (by omega)⟩
  have n2:=k2.next
  exact ((o2.keep k3 (fun A hA q=>by omega)).keep Keeps.wr (fun A hA q=>by omega)).rdInts hb
 obtain⟨w,h',e,a,c,rfl,r⟩:=this
 exact⟨a,c,h',e,r⟩
abbrev seedB:List UInt8:=[115,101,101,100]
abbrev keys20:List (List UInt8):=zCH seedB 16
theorem ring20 {pr:Prog} (T:LTab pr) (h:Heap):∃h',cfi pr 36 [] h=some (.pointer (some ⟨h.next,0,none⟩),h')∧RdRing h' ⟨h.next,0,none⟩ keys20∧Grows h h':=by
 have:∃v h',cfi pr 36 [] h=some (v,h')∧v=.pointer (some ⟨h.next,0,none⟩)∧Ring h' h.next h.next keys20∧Grows h h':=by
  refine zq T.ring T.ringC rfl ?_
  unfold xq36
  dsimp only[zY]
  refine wpk.out (k:=[]) ?_
  obtain⟨v,h',e,rfl,⟨w,h1,h2⟩,g⟩:=zZi pr T.tagged T.nr T.nrC h seedB 16 (by decide) (by decide)
  have e:cfi pr 98 [.string (strOf [115,101,101,100]),.int .i64 16] h=_:=e
  (repeat (first|refine zS ?_|refine zK ?_|refine zR ?_|refine zD ?_|refine zB ?_|refine zI ?_|refine zJ ?_|refine zP ?_|refine zE ?_|refine zG ?_|refine zF ?_|refine zH (by decide) ?_|refine zQ ?_|((first|refine zC ?_|refine zM ?_|refine zO rfl rfl ?_|refine zN rfl ?_|refine zL ?_);simp only[yq36.down,zA,lemS.down,lemC.down,zdO,zdN,zdL,reduceIte,zdM,zdP,zdQ,zdR,zdS,zdT,zdU,zdV,zdW,reduceCtorEq,e])))
  exact⟨.inr rfl,_,by simp only[yq36.down,zA,lemS.down,lemC.down,zdO,zdN,zdL,reduceIte,zdM,zdP,zdQ,zdR,zdS,zdT,zdU,zdV,zdW,reduceCtorEq],rfl,⟨w,h1,by rw[zbm];exact h2⟩,g⟩
 obtain⟨v,h',e,rfl,⟨w,r1,r2⟩,g⟩:=this
 exact⟨h',e,fun h2 g2=>Ring.at ⟨w,r1.grow g2,r2.grow g2⟩,g⟩
end Go.X
end
section
open Go Go.X
namespace Go.X
set_option linter.unusedVariables false
def zAk (R:Nat) (ov mv lv:Value) (s:List UInt8):List Value:=[.pointer (some ⟨R,0,none⟩),ov,mv,.string (strOf s),lv]
theorem LNew_run {pr:Prog} (T:LTab pr) {h:Heap} {b:List UInt8} (hb:b.length≤32) {v:Value} {l:List Int} (hs:RdInts h v l) (hl:l.length≤1000000) (hm:zAt l=true) (R:Nat) :
  ∃L ov mv s h',cfi pr 35 [.string (strOf b),v,.pointer (some ⟨R,0,none⟩)] h=some (.tuple #[.pointer (some ⟨L,0,none⟩),.int .i64 0],h')∧Var h' L (zAk R ov mv (.slice none 0 0) s)∧RdInts h' mv l∧h.next≤L∧Grows h h':=by
 have hr64:zT=140737488355328:=rfl
 have:∃w h',cfi pr 35 [.string (strOf b),v,.pointer (some ⟨R,0,none⟩)] h=some (w,h')∧∃L ov mv s,w=.tuple #[.pointer (some ⟨L,0,none⟩),.int .i64 0]∧Var h' L (zAk R ov mv (.slice none 0 0) s)∧RdInts h' mv l∧h.next≤L∧Grows h h':=by
  refine zq T.new T.newC rfl ?_
  unfold xq35
  dsimp only[zY]
  refine wpk.out (k:=[]) ?_
  obtain⟨hbd,_⟩:=zCU hs.now
  have cm:=zAr T.mem (zGA hs.now (by omega))
  rw[hm] at cm
  have d1:decide ((b.length:Int)>32)=false:=decide_eq_false (by omega)
  obtain⟨v1,g1,e1,o1,k1⟩:=zFx T hs hl
  obtain⟨v2,g2,e2,o2,k2⟩:=zFx T (hs.grow k1) hl
  obtain⟨s,g3,e3,k3⟩:=zZg T (b:=b) (by omega) (hs.grow (k1.trans k2)) hl
  obtain⟨a1,c1,rfl,_⟩:=o1.shape
  obtain⟨a2,c2,rfl,_⟩:=o2.shape
  have fl:z8 [.pointer none,.slice none 0 0,.slice none 0 0,.string (strOf []),.slice none 0 0] [(0,1,.pointer (some ⟨R,0,none⟩)),(1,1,.slice a1 l.length c1),(2,1,.slice a2 l.length c2),(3,1,.string (strOf s))]=some (zAk R (.slice a1 l.length c1) (.slice a2 l.length c2) (.slice none 0 0) s):=rfl
  obtain⟨g4,hg4,v4,k4,n4⟩:=box5 (h:=g3) (zAk R (.slice a1 l.length c1) (.slice a2 l.length c2) (.slice none 0 0) s)
  (repeat (first|refine zS ?_|refine zK ?_|refine zR ?_|refine zD ?_|refine zB ?_|refine zI ?_|refine zJ ?_|refine zP ?_|refine zE ?_|refine zG ?_|refine zF ?_|refine zH (by decide) ?_|refine zQ ?_|((first|refine zC ?_|refine zM ?_|refine zO rfl rfl ?_|refine zN rfl ?_|refine zL ?_);simp only[yq35.down,zA,lemS.down,lemC.down,zdO,zdN,zdL,reduceIte,zdM,zdP,zdQ,zdR,zdS,zdT,zdU,zdV,zdW,reduceCtorEq,lemH.down,zAT,cm,d1,zc,e1,e2,e3,fl,zHO,hg4,Bool.not_true,Bool.not_false])))
  have n1:=k1.next
  have n2:=k2.next
  have n3:=k3.next
  exact⟨.inr rfl,_,by simp only[yq35.down,zA,lemS.down,lemC.down,zdO,zdN,zdL,reduceIte,zdM,zdP,zdQ,zdR,zdS,zdT,zdU,zdV,zdW,reduceCtorEq],g3.next,_,_,s,rfl,v4,((o2.grow k3).grow k4).rdInts hbd,by omega,((k1.trans k2).trans k3).trans k4⟩
 obtain⟨w,h',e,L,ov,mv,s,rfl,r⟩:=this
 exact⟨L,ov,mv,s,h',e,r⟩
theorem lenV0:zEF (.slice none 0 0)=some (.int .i64 0):=rfl
theorem at_run {pr:Prog} (T:LTab pr) {h:Heap} (n:Nat) :
  ∃h',cfi pr 214 [.slice none 0 0,.int .u64 (n:Int)] h=some (.tuple #[.agg (hcells zeroH (.slice none 0 0)).toArray,.bool false],h')∧Grows h h':=by
 have:∃w h',cfi pr 214 [.slice none 0 0,.int .u64 (n:Int)] h=some (w,h')∧w=.tuple #[.agg (hcells zeroH (.slice none 0 0)).toArray,.bool false]∧Grows h h':=by
  refine zq T.at_ T.atC rfl ?_
  unfold xq214
  dsimp only[zY]
  refine wpk.out (k:=[]) ?_
  obtain⟨g,hg,v0,gg,gn⟩:=box5 (h:=h) (hcells zeroH (.slice none 0 0))
  have hg:h.new [.int .u64 0,.string (strOf []),.string (strOf []),.string (strOf []),.slice none 0 0]=g:=hg
  obtain⟨g1,hg1,v1,gg1,gn1⟩:=box5 (h:=g) (hcells zeroH (.slice none 0 0))
  have hg1:g.new [.int .u64 0,.string (strOf []),.string (strOf []),.string (strOf []),.slice none 0 0]=g1:=hg1
  have va:=v0.grow gg1
  have lN:∀sp,g1.loadN ⟨g.next,0,sp⟩ 5=some (hcells zeroH (.slice none 0 0)):=fun sp=>v1.loadAll rfl
  have st:zj g1 5 (.pointer (some ⟨h.next,0,none⟩)) (.agg (hcells zeroH (.slice none 0 0)).toArray)=some (.tuple #[],g1.wr h.next (hcells zeroH (.slice none 0 0))):=va.storeAll rfl rfl (by decide) rfl
  have w0:zAn .u64 (.int .i64 0)=some (.int .u64 0):=rfl
  by_cases c:n<1
  ·have d1:decide ((n:Int)<1)=true:=decide_eq_true (by omega)
   (repeat (first|refine zS ?_|refine zK ?_|refine zR ?_|refine zD ?_|refine zB ?_|refine zI ?_|refine zJ ?_|refine zP ?_|refine zE ?_|refine zG ?_|refine zF ?_|refine zH (by decide) ?_|refine zQ ?_|((first|refine zC ?_|refine zM ?_|refine zO rfl rfl ?_|refine zN rfl ?_|refine zL ?_);simp only[yq214.down,zA,lemS.down,lemC.down,zdO,zdN,zdL,reduceIte,zdM,zdP,zdQ,zdR,zdS,zdT,zdU,zdV,zdW,reduceCtorEq,lemH.down,hg,hg1,d1,zc,lN,st])))
   exact⟨.inr rfl,_,res2 (a:=⟨h.next,0,none⟩) (by simp only[yq214.down,zA,lemS.down,lemC.down,zdO,zdN,zdL,reduceIte,zdM,zdP,zdQ,zdR,zdS,zdT,zdU,zdV,zdW,reduceCtorEq]) (va.wr.loadAll rfl) (by simp only[yq214.down,zA,lemS.down,lemC.down,zdO,zdN,zdL,reduceIte,zdM,zdP,zdQ,zdR,zdS,zdT,zdU,zdV,zdW,reduceCtorEq]),rfl,(gg.trans gg1).wr (by omega)⟩
  ·have d1:decide ((n:Int)<1)=false:=decide_eq_false (by omega)
   have d2:decide ((n:Int)>0)=true:=decide_eq_true (by omega)
   (repeat (first|refine zS ?_|refine zK ?_|refine zR ?_|refine zD ?_|refine zB ?_|refine zI ?_|refine zJ ?_|refine zP ?_|refine zE ?_|refine zG ?_|refine zF ?_|refine zH (by decide) ?_|refine zQ ?_|((first|refine zC ?_|refine zM ?_|refine zO rfl rfl ?_|refine zN rfl ?_|refine zL ?_);simp only[yq214.down,zA,lemS.down,lemC.down,zdO,zdN,zdL,reduceIte,zdM,zdP,zdQ,zdR,zdS,zdT,zdU,zdV,zdW,reduceCtorEq,lemH.down,hg,hg1,d1,lenV0,w0,d2,zc,lN,st])))
   exact⟨.inr rfl,_,res2 (a:=⟨h.next,0,none⟩) (by simp only[yq214.down,zA,lemS.down,lemC.down,zdO,zdN,zdL,reduceIte,zdM,zdP,zdQ,zdR,zdS,zdT,zdU,zdV,zdW,reduceCtorEq]) (va.wr.loadAll rfl) (by simp only[yq214.down,zA,lemS.down,lemC.down,zdO,zdN,zdL,reduceIte,zdM,zdP,zdQ,zdR,zdS,zdT,zdU,zdV,zdW,reduceCtorEq]),rfl,(gg.trans gg1).wr (by omega)⟩
 obtain⟨w,h',e,rfl,r⟩:=this
 exact⟨h',e,r⟩
theorem zZh {pr:Prog} (T:LTab pr) {h:Heap} {L R:Nat} {ov mv:Value} {s:List UInt8} (hv:Var h L (zAk R ov mv (.slice none 0 0) s)) (n:Nat) :
  ∃a c h',cfi pr 174 [.pointer (some ⟨L,0,none⟩),.int .u64 (n:Int)] h=some (.tuple #[.agg (hcells zeroH (.slice a 0 c)).toArray,.bool false],h')∧Grows h h':=by
 have:∃w h',cfi pr 174 [.pointer (some ⟨L,0,none⟩),.int .u64 (n:Int)] h=some (w,h')∧∃a c,w=.tuple #[.agg (hcells zeroH (.slice a 0 c)).toArray,.bool false]∧Grows h h':=by
  refine zq T.hd T.hdC rfl ?_
  unfold xq174
  dsimp only[zY]
  refine wpk.out (k:=[]) ?_
  obtain⟨g,hg,v0,gg,gn⟩:=box5 (h:=h) (hcells zeroH (.slice none 0 0))
  have hg:h.new [.int .u64 0,.string (strOf []),.string (strOf []),.string (strOf []),.slice none 0 0]=g:=hg
  have l4:∀sp,g.load ⟨L,4,sp⟩=some (.slice none 0 0):=fun sp=>(hv.grow gg).load
  obtain⟨g1,e1,k1⟩:=at_run T (h:=g) n
  obtain⟨g2,hg2,v2,gg2,gn2⟩:=box5 (h:=g1) (hcells zeroH (.slice none 0 0))
  have hg2:g1.new [.int .u64 0,.string (strOf []),.string (strOf []),.string (strOf []),.slice none 0 0]=g2:=hg2
  have s2:zj g2 5 (.pointer (some ⟨g1.next,0,none⟩)) (.agg (hcells zeroH (.slice none 0 0)).toArray)=some (.tuple #[],g2.wr g1.next (hcells zeroH (.slice none 0 0))):=v2.storeAll rfl rfl (by decide) rfl
  obtain⟨g3,hg3⟩:∃g3,g2.wr g1.next (hcells zeroH (.slice none 0 0))=g3:=⟨_,rfl⟩
  have v3:Var g3 g1.next (hcells zeroH (.slice none 0 0)):=by rw[←hg3];exact v2.wr
  have k3:Grows g1 g3:=by rw[←hg3];exact gg2.wr (Nat.le_refl _)
  rw[hg3] at s2
  have lN:∀sp,g3.loadN ⟨g1.next,0,sp⟩ 5=some (hcells zeroH (.slice none 0 0)):=fun sp=>v3.loadAll rfl
  obtain⟨a,c,g4,e4,_,k4⟩:=zK3 T (h:=g3) (x:=zeroH) (mv:=.slice none 0 0) (fun _ _=>rfl) (by decide)
  have va:=((v0.grow k1).grow k3).grow k4
  have s4:zj g4 5 (.pointer (some ⟨h.next,0,none⟩)) (.agg (hcells zeroH (.slice a zeroH.m.length c)).toArray)=some (.tuple #[],g4.wr h.next (hcells zeroH (.slice a zeroH.m.length c))):=va.storeAll rfl rfl (by decide) rfl
  (repeat (first|refine zS ?_|refine zK ?_|refine zR ?_|refine zD ?_|refine zB ?_|refine zI ?_|refine zJ ?_|refine zP ?_|refine zE ?_|refine zG ?_|refine zF ?_|refine zH (by decide) ?_|refine zQ ?_|((first|refine zC ?_|refine zM ?_|refine zO rfl rfl ?_|refine zN rfl ?_|refine zL ?_);simp only[yq174.down,zA,lemS.down,lemC.down,zdO,zdN,zdL,reduceIte,zdM,zdP,zdQ,zdR,zdS,zdT,zdU,zdV,zdW,reduceCtorEq,lemH.down,hg,zAT,l4,e1,hg2,s2,lN,e4,s4])))
  exact⟨.inr rfl,_,res2 (a:=⟨h.next,0,none⟩) (by simp only[yq174.down,zA,lemS.down,lemC.down,zdO,zdN,zdL,reduceIte,zdM,zdP,zdQ,zdR,zdS,zdT,zdU,zdV,zdW,reduceCtorEq]) (va.wr.loadAll rfl) (by simp only[yq174.down,zA,lemS.down,lemC.down,zdO,zdN,zdL,reduceIte,zdM,zdP,zdQ,zdR,zdS,zdT,zdU,zdV,zdW,reduceCtorEq]),a,c,rfl,(((gg.trans k1).trans k3).trans k4).wr (Nat.le_refl _)⟩
 obtain⟨w,h',e,a,c,rfl,r⟩:=this
 exact⟨a,c,h',e,r⟩
theorem zLK {pr:Prog} (T:LTab pr) {h:Heap} {L R:Nat} {ov mv:Value} {s:List UInt8} (hv:Var h L (zAk R ov mv (.slice none 0 0) s)) {x:Hdr} {xv:Value} :
  ∃h',cfi pr 125 [.pointer (some ⟨L,0,none⟩),.agg (hcells x xv).toArray] h=some (.tuple #[.slice none 0 0,.int .i64 80],h')∧Grows h h':=by
 have:∃w h',cfi pr 125 [.pointer (some ⟨L,0,none⟩),.agg (hcells x xv).toArray] h=some (w,h')∧w=.tuple #[.slice none 0 0,.int .i64 80]∧Grows h h':=by
  refine zq T.kn T.knC rfl ?_
  unfold xq125
  dsimp only[zY]
  refine wpk.out (k:=[]) ?_
  obtain⟨g,hg,v0,gg,gn⟩:=box5 (h:=h) (hcells x xv)
  have l0:∀sp,g.load ⟨h.next,0,sp⟩=some (.int .u64 (x.n:Int)):=fun sp=>v0.load
  obtain⟨a,c,g1,e1,k1⟩:=zZh T (hv.grow gg) x.n
  obtain⟨g2,hg2,v2,gg2,gn2⟩:=box5 (h:=g1) (hcells zeroH (.slice none 0 0))
  have hg2:g1.new [.int .u64 0,.string (strOf []),.string (strOf []),.string (strOf []),.slice none 0 0]=g2:=hg2
  have s2:zj g2 5 (.pointer (some ⟨g1.next,0,none⟩)) (.agg (hcells zeroH (.slice a 0 c)).toArray)=some (.tuple #[],g2.wr g1.next (hcells zeroH (.slice a 0 c))):=v2.storeAll rfl rfl (by decide) rfl
  (repeat (first|refine zS ?_|refine zK ?_|refine zR ?_|refine zD ?_|refine zB ?_|refine zI ?_|refine zJ ?_|refine zP ?_|refine zE ?_|refine zG ?_|refine zF ?_|refine zH (by decide) ?_|refine zQ ?_|((first|refine zC ?_|refine zM ?_|refine zO rfl rfl ?_|refine zN rfl ?_|refine zL ?_);simp only[yq125.down,zA,lemS.down,lemC.down,zdO,zdN,zdL,reduceIte,zdM,zdP,zdQ,zdR,zdS,zdT,zdU,zdV,zdW,reduceCtorEq,lemH.down,zAa,hg,Nat.add_zero,l0,e1,hg2,s2,zc,Bool.not_true,Bool.not_false])))
  exact⟨.inr rfl,_,by simp only[yq125.down,zA,lemS.down,lemC.down,zdO,zdN,zdL,reduceIte,zdM,zdP,zdQ,zdR,zdS,zdT,zdU,zdV,zdW,reduceCtorEq],rfl,((gg.trans k1).trans gg2).wr (by have:=gg.next;have:=k1.next;omega)⟩
 obtain⟨w,h',e,rfl,r⟩:=this
 exact⟨h',e,r⟩
abbrev ZS:List Value:=[.int .u64 0,.string (strOf []),.string (strOf []),.string (strOf []),.slice none 0 0,.slice none 0 0,.string (strOf []),.bool false,.string (strOf []),.slice none 0 0,.bool false,.string (strOf []),.string (strOf [])]
theorem zZk {pr:Prog} (T:LTab pr) {h:Heap} {L R:Nat} {ov mv:Value} {s:List UInt8} (hv:Var h L (zAk R ov mv (.slice none 0 0) s)) {b:List UInt8} (hb:b.length≤9223372036854775807) :
  ∃E h',cfi pr 49 [.pointer (some ⟨L,0,none⟩),.string (strOf b)] h=some (.tuple #[.agg ZS.toArray,.int .i64 E],h')∧(E==0)=false∧Grows h h':=by
 have:∃w h',cfi pr 49 [.pointer (some ⟨L,0,none⟩),.string (strOf b)] h=some (w,h')∧∃E,w=.tuple #[.agg ZS.toArray,.int .i64 E]∧(E==0)=false∧Grows h h':=by
  refine zq T.st T.stC rfl ?_
  unfold xq49
  dsimp only[zY]
  refine wpk.out (k:=[]) ?_
  obtain⟨ga,hga,va,gga,gna⟩:=box5 (h:=h) ZS
  obtain⟨w,g1,e1,xv,tv,pv,rfl,ok,k1⟩:=DS_run T.d (h:=ga) hb
  obtain⟨p,hp⟩:∃p,dsR b=p:=⟨_,rfl⟩
  rw[hp] at e1 ok
  obtain⟨E,x⟩:=p
  obtain⟨a1,c1,rfl,_⟩:=ok.mem.shape
  obtain⟨a2,c2,rfl,_⟩:=ok.tags.shape
  obtain⟨a3,c3,rfl,_⟩:=ok.pf.shape
  obtain⟨C,hC⟩:∃C:List Value,C=zIc x (.slice a1 x.hd.m.length c1) (.slice a2 x.tags.length c2) (.slice a3 x.pf.beside.length c3):=⟨_,rfl⟩
  have hCl:C.length=13:=by rw[hC];rfl
  have hCo:C.all oneC=true:=by rw[hC];rfl
  have h5:(C.drop 0).take 5=hcells x.hd (.slice a1 x.hd.m.length c1):=by rw[hC];rfl
  have e1:cfi pr 42 [.string (strOf b)] ga=some (.tuple #[.agg C.toArray,.int .i64 (E:Int)],g1):=by rw[hC];exact e1
  obtain⟨g2,hg2,v2,gg2,gn2⟩:=box5 (h:=g1) ZS
  have s2:zj g2 13 (.pointer (some ⟨g1.next,0,none⟩)) (.agg C.toArray)=some (.tuple #[],g2.wr g1.next C):=v2.storeAll hCl rfl (by decide) hCo
  obtain⟨g3,hg3⟩:∃g3,g2.wr g1.next C=g3:=⟨_,rfl⟩
  have v3:Var g3 g1.next C:=by rw[←hg3];exact v2.wr
  have k3:Grows g1 g3:=by rw[←hg3];exact gg2.wr (Nat.le_refl _)
  rw[hg3] at s2
  clear hg3 v2
  have l5:∀sp,g3.loadN ⟨g1.next,0,sp⟩ 5=some (hcells x.hd (.slice a1 x.hd.m.length c1)):=fun sp=>by
   have:=zF6 (v3.loadAll (sp:=none) hCl) (i:=0) (k:=5) (by omega) (sp:=sp)
   rw[h5] at this
   exact this
  obtain⟨g4,e4,k4⟩:=zLK T (h:=g3) (((hv.grow gga).grow k1).grow k3) (x:=x.hd) (xv:=.slice a1 x.hd.m.length c1)
  have va3:=(va.grow k1).grow k3
  have va4:=va3.grow k4
  have n1:=k1.next
  have z3:zj g3 13 (.pointer (some ⟨h.next,0,none⟩)) (.agg ZS.toArray)=some (.tuple #[],g3.wr h.next ZS):=va3.storeAll rfl rfl (by decide) rfl
  have z4:zj g4 13 (.pointer (some ⟨h.next,0,none⟩)) (.agg ZS.toArray)=some (.tuple #[],g4.wr h.next ZS):=va4.storeAll rfl rfl (by decide) rfl
  have G3:Grows h g3:=(gga.trans k1).trans k3
  by_cases c:E=0
  ·have b0:((E:Int)==0)=true:=by rw[c];rfl
   (repeat (first|refine zS ?_|refine zK ?_|refine zR ?_|refine zD ?_|refine zB ?_|refine zI ?_|refine zJ ?_|refine zP ?_|refine zE ?_|refine zG ?_|refine zF ?_|refine zH (by decide) ?_|refine zQ ?_|((first|refine zC ?_|refine zM ?_|refine zO rfl rfl ?_|refine zN rfl ?_|refine zL ?_);simp only[yq49.down,zA,lemS.down,lemC.down,zdO,zdN,zdL,reduceIte,zdM,zdP,zdQ,zdR,zdS,zdT,zdU,zdV,zdW,reduceCtorEq,lemH.down,hga,zAT,e1,hg2,s2,b0,Nat.add_zero,l5,e4,zAs,z4,Bool.not_true,Bool.not_false])))
   exact⟨.inr rfl,_,res2 (a:=⟨h.next,0,none⟩) (by simp only[yq49.down,zA,lemS.down,lemC.down,zdO,zdN,zdL,reduceIte,zdM,zdP,zdQ,zdR,zdS,zdT,zdU,zdV,zdW,reduceCtorEq]) (va4.wr.loadAll rfl) (by simp only[yq49.down,zA,lemS.down,lemC.down,zdO,zdN,zdL,reduceIte,zdM,zdP,zdQ,zdR,zdS,zdT,zdU,zdV,zdW,reduceCtorEq]),80,rfl,by decide,(G3.trans k4).wr (Nat.le_refl _)⟩
  ·have b0:((E:Int)==0)=false:=by rw[beq_eq_false_iff_ne];omega
   (repeat (first|refine zS ?_|refine zK ?_|refine zR ?_|refine zD ?_|refine zB ?_|refine zI ?_|refine zJ ?_|refine zP ?_|refine zE ?_|refine zG ?_|refine zF ?_|refine zH (by decide) ?_|refine zQ ?_|((first|refine zC ?_|refine zM ?_|refine zO rfl rfl ?_|refine zN rfl ?_|refine zL ?_);simp only[yq49.down,zA,lemS.down,lemC.down,zdO,zdN,zdL,reduceIte,zdM,zdP,zdQ,zdR,zdS,zdT,zdU,zdV,zdW,reduceCtorEq,lemH.down,hga,zAT,e1,hg2,s2,b0,zAs,z3,Bool.not_true,Bool.not_false])))
   exact⟨.inr rfl,_,res2 (a:=⟨h.next,0,none⟩) (by simp only[yq49.down,zA,lemS.down,lemC.down,zdO,zdN,zdL,reduceIte,zdM,zdP,zdQ,zdR,zdS,zdT,zdU,zdV,zdW,reduceCtorEq]) (va3.wr.loadAll rfl) (by simp only[yq49.down,zA,lemS.down,lemC.down,zdO,zdN,zdL,reduceIte,zdM,zdP,zdQ,zdR,zdS,zdT,zdU,zdV,zdW,reduceCtorEq]),(E:Int),rfl,by omega,G3.wr (Nat.le_refl _)⟩
 obtain⟨w,h',e,E,rfl,r⟩:=this
 exact⟨E,h',e,r⟩
abbrev ZX:List Value:=[.int .u64 0,.string (strOf []),.string (strOf []),.string (strOf []),.slice none 0 0,.slice none 0 0,.int .u64 0,.int .u64 0,.slice none 0 0,.int .i64 0,.int .i64 0,.slice none 0 0]
theorem Tx_run {pr:Prog} (T:LTab pr) {h:Heap} {L R:Nat} {ov mv:Value} {s:List UInt8} (hv:Var h L (zAk R ov mv (.slice none 0 0) s)) {b:List UInt8} (hb:b.length≤9223372036854775807) :
  ∃E h',cfi pr 48 [.pointer (some ⟨L,0,none⟩),.string (strOf b)] h=some (.tuple #[.agg ZX.toArray,.int .i64 E],h')∧(E==0)=false∧Grows h h':=by
 have:∃w h',cfi pr 48 [.pointer (some ⟨L,0,none⟩),.string (strOf b)] h=some (w,h')∧∃E,w=.tuple #[.agg ZX.toArray,.int .i64 E]∧(E==0)=false∧Grows h h':=by
  refine zq T.tx T.txC rfl ?_
  unfold xq48
  dsimp only[zY]
  refine wpk.out (k:=[]) ?_
  obtain⟨ga,hga,va,gga,gna⟩:=box5 (h:=h) ZX
  obtain⟨w,g1,e1,xv,tv,ov2,pv,rfl,ok,k1⟩:=DT_run T.d (h:=ga) hb
  obtain⟨p,hp⟩:∃p,dtR b=p:=⟨_,rfl⟩
  rw[hp] at e1 ok
  obtain⟨E,x⟩:=p
  obtain⟨a1,c1,rfl,_⟩:=ok.mem.shape
  obtain⟨a2,c2,rfl,_⟩:=ok.tags.shape
  obtain⟨a3,c3,rfl,_⟩:=ok.ops.shape
  obtain⟨a4,c4,rfl,_⟩:=ok.path.shape
  obtain⟨C,hC⟩:∃C:List Value,C=zI6 x (.slice a1 x.hd.m.length c1) (.slice a2 x.tags.length c2) (.slice a3 x.tx.ops.length c3) (.slice a4 x.path.length c4):=⟨_,rfl⟩
  have hCl:C.length=12:=by rw[hC];rfl
  have hCo:C.all oneC=true:=by rw[hC];rfl
  have h5:(C.drop 0).take 5=hcells x.hd (.slice a1 x.hd.m.length c1):=by rw[hC];rfl
  have e1:cfi pr 43 [.string (strOf b)] ga=some (.tuple #[.agg C.toArray,.int .i64 (E:Int)],g1):=by rw[hC];exact e1
  obtain⟨g2,hg2,v2,gg2,gn2⟩:=box5 (h:=g1) ZX
  have s2:zj g2 12 (.pointer (some ⟨g1.next,0,none⟩)) (.agg C.toArray)=some (.tuple #[],g2.wr g1.next C):=v2.storeAll hCl rfl (by decide) hCo
  obtain⟨g3,hg3⟩:∃g3,g2.wr g1.next C=g3:=⟨_,rfl⟩
  have v3:Var g3 g1.next C:=by rw[←hg3];exact v2.wr
  have k3:Grows g1 g3:=by rw[←hg3];exact gg2.wr (Nat.le_refl _)
  rw[hg3] at s2
  clear hg3 v2
  have l5:∀sp,g3.loadN ⟨g1.next,0,sp⟩ 5=some (hcells x.hd (.slice a1 x.hd.m.length c1)):=fun sp=>by
   have:=zF6 (v3.loadAll (sp:=none) hCl) (i:=0) (k:=5) (by omega) (sp:=sp)
   rw[h5] at this
   exact this
  obtain⟨g4,e4,k4⟩:=zLK T (h:=g3) (((hv.grow gga).grow k1).grow k3) (x:=x.hd) (xv:=.slice a1 x.hd.m.length c1)
  have va3:=(va.grow k1).grow k3
  have va4:=va3.grow k4
  have n1:=k1.next
  have z3:zj g3 12 (.pointer (some ⟨h.next,0,none⟩)) (.agg ZX.toArray)=some (.tuple #[],g3.wr h.next ZX):=va3.storeAll rfl rfl (by decide) rfl
  have z4:zj g4 12 (.pointer (some ⟨h.next,0,none⟩)) (.agg ZX.toArray)=some (.tuple #[],g4.wr h.next ZX):=va4.storeAll rfl rfl (by decide) rfl
  have G3:Grows h g3:=(gga.trans k1).trans k3
  by_cases c:E=0
  ·have b0:((E:Int)==0)=true:=by rw[c];rfl
   (repeat (first|refine zS ?_|refine zK ?_|refine zR ?_|refine zD ?_|refine zB ?_|refine zI ?_|refine zJ ?_|refine zP ?_|refine zE ?_|refine zG ?_|refine zF ?_|refine zH (by decide) ?_|refine zQ ?_|((first|refine zC ?_|refine zM ?_|refine zO rfl rfl ?_|refine zN rfl ?_|refine zL ?_);simp only[yq48.down,zA,lemS.down,lemC.down,zdO,zdN,zdL,reduceIte,zdM,zdP,zdQ,zdR,zdS,zdT,zdU,zdV,zdW,reduceCtorEq,lemH.down,hga,zAT,e1,hg2,s2,b0,Nat.add_zero,l5,e4,zAs,z4,Bool.not_true,Bool.not_false])))
   exact⟨.inr rfl,_,res2 (a:=⟨h.next,0,none⟩) (by simp only[yq48.down,zA,lemS.down,lemC.down,zdO,zdN,zdL,reduceIte,zdM,zdP,zdQ,zdR,zdS,zdT,zdU,zdV,zdW,reduceCtorEq]) (va4.wr.loadAll rfl) (by simp only[yq48.down,zA,lemS.down,lemC.down,zdO,zdN,zdL,reduceIte,zdM,zdP,zdQ,zdR,zdS,zdT,zdU,zdV,zdW,reduceCtorEq]),80,rfl,by decide,(G3.trans k4).wr (Nat.le_refl _)⟩
  ·have b0:((E:Int)==0)=false:=by rw[beq_eq_false_iff_ne];omega
   (repeat (first|refine zS ?_|refine zK ?_|refine zR ?_|refine zD ?_|refine zB ?_|refine zI ?_|refine zJ ?_|refine zP ?_|refine zE ?_|refine zG ?_|refine zF ?_|refine zH (by decide) ?_|refine zQ ?_|((first|refine zC ?_|refine zM ?_|refine zO rfl rfl ?_|refine zN rfl ?_|refine zL ?_);simp only[yq48.down,zA,lemS.down,lemC.down,zdO,zdN,zdL,reduceIte,zdM,zdP,zdQ,zdR,zdS,zdT,zdU,zdV,zdW,reduceCtorEq,lemH.down,hga,zAT,e1,hg2,s2,b0,zAs,z3,Bool.not_true,Bool.not_false])))
   exact⟨.inr rfl,_,res2 (a:=⟨h.next,0,none⟩) (by simp only[yq48.down,zA,lemS.down,lemC.down,zdO,zdN,zdL,reduceIte,zdM,zdP,zdQ,zdR,zdS,zdT,zdU,zdV,zdW,reduceCtorEq]) (va3.wr.loadAll rfl) (by simp only[yq48.down,zA,lemS.down,lemC.down,zdO,zdN,zdL,reduceIte,zdM,zdP,zdQ,zdR,zdS,zdT,zdU,zdV,zdW,reduceCtorEq]),(E:Int),rfl,by omega,G3.wr (Nat.le_refl _)⟩
 obtain⟨w,h',e,E,rfl,r⟩:=this
 exact⟨E,h',e,r⟩
end Go.X
end
section
open Go Go.X
namespace Go.X
set_option linter.unusedVariables false
theorem zJq {pr:Prog} (T:LTab pr) {h:Heap} {L R:Nat} {ov mv:Value} {s:List UInt8} (hv:Var h L (zAk R ov mv (.slice none 0 0) s)) :
  cfi pr 50 [.pointer (some ⟨L,0,none⟩)] h=some (.int .u64 0,h):=by
 have:∃w h',cfi pr 50 [.pointer (some ⟨L,0,none⟩)] h=some (w,h')∧w=.int .u64 0∧h'=h:=by
  refine zq T.ht T.htC rfl ?_
  unfold xq50
  dsimp only[zY]
  refine wpk.out (k:=[]) ?_
  have l4:∀sp,h.load ⟨L,4,sp⟩=some (.slice none 0 0):=fun sp=>hv.load
  have w0:zAn .u64 (.int .i64 0)=some (.int .u64 0):=rfl
  (repeat (first|refine zS ?_|refine zK ?_|refine zR ?_|refine zD ?_|refine zB ?_|refine zI ?_|refine zJ ?_|refine zP ?_|refine zE ?_|refine zG ?_|refine zF ?_|refine zH (by decide) ?_|refine zQ ?_|((first|refine zC ?_|refine zM ?_|refine zO rfl rfl ?_|refine zN rfl ?_|refine zL ?_);simp only[yq50.down,zA,lemS.down,lemC.down,zdO,zdN,zdL,reduceIte,zdM,zdP,zdQ,zdR,zdS,zdT,zdU,zdV,zdW,reduceCtorEq,lemH.down,zAT,l4,lenV0,w0])))
  exact⟨.inr rfl,_,by simp only[yq50.down,zA,lemS.down,lemC.down,zdO,zdN,zdL,reduceIte,zdM,zdP,zdQ,zdR,zdS,zdT,zdU,zdV,zdW,reduceCtorEq],rfl,rfl⟩
 obtain⟨w,h',e,rfl,rfl⟩:=this
 exact e
theorem lenV1 {a:Option Addr} {c:Nat}:zEF (.slice a 1 c)=some (.int .i64 1):=rfl
theorem Height1 {pr:Prog} (T:LTab pr) {h:Heap} {L R:Nat} {ov mv:Value} {s:List UInt8} {a:Option Addr} {c:Nat} (hv:Var h L (zAk R ov mv (.slice a 1 c) s)) :
  cfi pr 50 [.pointer (some ⟨L,0,none⟩)] h=some (.int .u64 1,h):=by
 have:∃w h',cfi pr 50 [.pointer (some ⟨L,0,none⟩)] h=some (w,h')∧w=.int .u64 1∧h'=h:=by
  refine zq T.ht T.htC rfl ?_
  unfold xq50
  dsimp only[zY]
  refine wpk.out (k:=[]) ?_
  have l4:∀sp,h.load ⟨L,4,sp⟩=some (.slice a 1 c):=fun sp=>hv.load
  have w0:zAn .u64 (.int .i64 1)=some (.int .u64 1):=rfl
  (repeat (first|refine zS ?_|refine zK ?_|refine zR ?_|refine zD ?_|refine zB ?_|refine zI ?_|refine zJ ?_|refine zP ?_|refine zE ?_|refine zG ?_|refine zF ?_|refine zH (by decide) ?_|refine zQ ?_|((first|refine zC ?_|refine zM ?_|refine zO rfl rfl ?_|refine zN rfl ?_|refine zL ?_);simp only[yq50.down,zA,lemS.down,lemC.down,zdO,zdN,zdL,reduceIte,zdM,zdP,zdQ,zdR,zdS,zdT,zdU,zdV,zdW,reduceCtorEq,lemH.down,zAT,l4,lenV1,w0])))
  exact⟨.inr rfl,_,by simp only[yq50.down,zA,lemS.down,lemC.down,zdO,zdN,zdL,reduceIte,zdM,zdP,zdQ,zdR,zdS,zdT,zdU,zdV,zdW,reduceCtorEq],rfl,rfl⟩
 obtain⟨w,h',e,rfl,rfl⟩:=this
 exact e
theorem Hash0 {pr:Prog} (T:LTab pr) {h:Heap} {L R:Nat} {ov mv:Value} {s:List UInt8} (hv:Var h L (zAk R ov mv (.slice none 0 0) s)) :
  cfi pr 41 [.pointer (some ⟨L,0,none⟩)] h=some (.string (strOf s),h):=by
 have:∃w h',cfi pr 41 [.pointer (some ⟨L,0,none⟩)] h=some (w,h')∧w=.string (strOf s)∧h'=h:=by
  refine zq T.hs T.hsC rfl ?_
  unfold xq41
  dsimp only[zY]
  refine wpk.out (k:=[]) ?_
  have l4:∀sp,h.load ⟨L,4,sp⟩=some (.slice none 0 0):=fun sp=>hv.load
  have l3:∀sp,h.load ⟨L,3,sp⟩=some (.string (strOf s)):=fun sp=>hv.load
  (repeat (first|refine zS ?_|refine zK ?_|refine zR ?_|refine zD ?_|refine zB ?_|refine zI ?_|refine zJ ?_|refine zP ?_|refine zE ?_|refine zG ?_|refine zF ?_|refine zH (by decide) ?_|refine zQ ?_|((first|refine zC ?_|refine zM ?_|refine zO rfl rfl ?_|refine zN rfl ?_|refine zL ?_);simp only[yq41.down,zA,lemS.down,lemC.down,zdO,zdN,zdL,reduceIte,zdM,zdP,zdQ,zdR,zdS,zdT,zdU,zdV,zdW,reduceCtorEq,lemH.down,zAT,l4,l3,lenV0])))
  exact⟨.inr rfl,_,by simp only[yq41.down,zA,lemS.down,lemC.down,zdO,zdN,zdL,reduceIte,zdM,zdP,zdQ,zdR,zdS,zdT,zdU,zdV,zdW,reduceCtorEq],rfl,rfl⟩
 obtain⟨w,h',e,rfl,rfl⟩:=this
 exact e
theorem zZf {pr:Prog} (T:LTab pr) {hA h:Heap} (g0:Grows hA h) {L R:Nat} (hL0:hA.next≤L) {ov mv:Value} {s:List UInt8} (hv:Var h L (zAk R ov mv (.slice none 0 0) s)) {keys:List (List UInt8)} (hr:RdRing h ⟨R,0,none⟩ keys) (hk:zBS keys=true) (hm:RdInts h mv [0,1]) {x:Hdr} {xv:Value} (hx0:∀h',Grows hA h'→HdW h' x xv) {tv:Value} {l:TagL} (ht0:RdTags hA tv l) (hl:l.length≤9223372036854775807) :
  ∃(E:Nat) (h':Heap),cfi pr 39 [.pointer (some ⟨L,0,none⟩),.agg (hcells x xv).toArray,.agg [tv].toArray] h=some (.int .i64 (E:Int),h')∧(E≠0→Var h' L (zAk R ov mv (.slice none 0 0) s))∧(E=0→zDQ keys x l [0,1]=0∧∃mv2 a c,Var h' L (zAk R ov mv2 (.slice a 1 c) s))∧Keeps (fun A=>A=L) h h':=by
 have hr64:zT=140737488355328:=rfl
 have:∃w h',cfi pr 39 [.pointer (some ⟨L,0,none⟩),.agg (hcells x xv).toArray,.agg [tv].toArray] h=some (w,h')∧∃E:Nat,w=.int .i64 (E:Int)∧(E≠0→Var h' L (zAk R ov mv (.slice none 0 0) s))∧(E=0→zDQ keys x l [0,1]=0∧∃mv2 a c,Var h' L (zAk R ov mv2 (.slice a 1 c) s))∧Keeps (fun A=>A=L) h h':=by
  refine zq T.ad T.adC rfl ?_
  unfold xq39
  dsimp only[zY]
  refine wpk.out (k:=[]) ?_
  have hLn:L<h.next:=hv.1
  have hx:∀h',Grows h h'→HdW h' x xv:=fun h' g=>hx0 h' (g0.trans g)
  have ht:=ht0.grow g0
  obtain⟨g1,hg1,v1,gg1,gn1⟩:=box5 (h:=h) (hcells x xv)
  obtain⟨g2,hg2,v2,gg2,gn2⟩:=box1 (h:=g1) (zIn ht.now).1
  have G2:Grows h g2:=gg1.trans gg2
  have v12:=v1.grow gg2
  have lN:∀sp,g2.loadN ⟨h.next,0,sp⟩ 5=some (hcells x xv):=fun sp=>v12.loadAll rfl
  have l0:∀sp,g2.load ⟨h.next,0,sp⟩=some (.int .u64 (x.n:Int)):=fun sp=>v12.load
  have l1:∀sp,g2.load ⟨h.next,1,sp⟩=some (.string (strOf x.p)):=fun sp=>v12.load
  have lt:∀sp,g2.loadN ⟨g1.next,0,sp⟩ 1=some [tv]:=fun sp=>v2.loadAll rfl
  have cc:=zAr T.chk (zFw (hx _ G2))
  have hv2:=hv.grow G2
  by_cases h0:zAP x=0
  rotate_left
  ·have b0:((zAP x:Int)==0)=false:=by rw[beq_eq_false_iff_ne];omega
   (repeat (first|refine zS ?_|refine zK ?_|refine zR ?_|refine zD ?_|refine zB ?_|refine zI ?_|refine zJ ?_|refine zP ?_|refine zE ?_|refine zG ?_|refine zF ?_|refine zH (by decide) ?_|refine zQ ?_|((first|refine zC ?_|refine zM ?_|refine zO rfl rfl ?_|refine zN rfl ?_|refine zL ?_);simp only[yq39.down,zA,lemS.down,lemC.down,zdO,zdN,zdL,reduceIte,zdM,zdP,zdQ,zdR,zdS,zdT,zdU,zdV,zdW,reduceCtorEq,lemH.down,zAa,zB8,hg1,hg2,zAT,lN,cc,b0,Bool.not_true,Bool.not_false])))
   exact⟨.inr rfl,_,by simp only[yq39.down,zA,lemS.down,lemC.down,zdO,zdN,zdL,reduceIte,zdM,zdP,zdQ,zdR,zdS,zdT,zdU,zdV,zdW,reduceCtorEq],zAP x,rfl,fun _=>hv2,fun q=>absurd q h0,G2.keeps⟩
  have b0:((zAP x:Int)==0)=true:=by rw[h0];rfl
  have eh:=zJq T hv2
  have es:=Hash0 T hv2
  have w1:IntKind.u64.wrap 1=1:=by decide
  by_cases c1:x.n=1
  rotate_left
  ·have b1:((x.n:Int)==1)=false:=by rw[beq_eq_false_iff_ne];omega
   (repeat (first|refine zS ?_|refine zK ?_|refine zR ?_|refine zD ?_|refine zB ?_|refine zI ?_|refine zJ ?_|refine zP ?_|refine zE ?_|refine zG ?_|refine zF ?_|refine zH (by decide) ?_|refine zQ ?_|((first|refine zC ?_|refine zM ?_|refine zO rfl rfl ?_|refine zN rfl ?_|refine zL ?_);simp only[yq39.down,zA,lemS.down,lemC.down,zdO,zdN,zdL,reduceIte,zdM,zdP,zdQ,zdR,zdS,zdT,zdU,zdV,zdW,reduceCtorEq,lemH.down,zAa,zB8,hg1,hg2,zAT,lN,cc,b0,Nat.add_zero,l0,eh,w1,b1,zc,Bool.not_true,Bool.not_false])))
   exact⟨.inr rfl,_,by simp only[yq39.down,zA,lemS.down,lemC.down,zdO,zdN,zdL,reduceIte,zdM,zdP,zdQ,zdR,zdS,zdT,zdU,zdV,zdW,reduceCtorEq],80,rfl,fun _=>hv2,fun q=>absurd q (by decide),G2.keeps⟩
  have b1:((x.n:Int)==1)=true:=by rw[c1];rfl
  cases b2:x.p==s
  ·(repeat (first|refine zS ?_|refine zK ?_|refine zR ?_|refine zD ?_|refine zB ?_|refine zI ?_|refine zJ ?_|refine zP ?_|refine zE ?_|refine zG ?_|refine zF ?_|refine zH (by decide) ?_|refine zQ ?_|((first|refine zC ?_|refine zM ?_|refine zO rfl rfl ?_|refine zN rfl ?_|refine zL ?_);simp only[yq39.down,zA,lemS.down,lemC.down,zdO,zdN,zdL,reduceIte,zdM,zdP,zdQ,zdR,zdS,zdT,zdU,zdV,zdW,reduceCtorEq,lemH.down,zAa,zB8,hg1,hg2,zAT,lN,cc,b0,Nat.add_zero,l0,eh,w1,b1,l1,es,b2,zc,Bool.not_true,Bool.not_false])))
   exact⟨.inr rfl,_,by simp only[yq39.down,zA,lemS.down,lemC.down,zdO,zdN,zdL,reduceIte,zdM,zdP,zdQ,zdR,zdS,zdT,zdU,zdV,zdW,reduceCtorEq],80,rfl,fun _=>hv2,fun q=>absurd q (by decide),G2.keeps⟩
  have lR:∀sp,g2.load ⟨L,0,sp⟩=some (.pointer (some ⟨R,0,none⟩)):=fun sp=>hv2.load
  have lM:∀sp,g2.load ⟨L,2,sp⟩=some mv:=fun sp=>hv2.load
  have ck:=zAr T.cchk (zKZ (hr.grow G2).now hk (hx _ G2) (ht.grow G2).now hl (hm.grow G2).now (by decide))
  obtain⟨E,hE⟩:∃E,zDQ keys x l [0,1]=E:=⟨_,rfl⟩
  rw[hE] at ck ⊢
  by_cases c3:E=0
  rotate_left
  ·have b3:((E:Int)==0)=false:=by rw[beq_eq_false_iff_ne];omega
   (repeat (first|refine zS ?_|refine zK ?_|refine zR ?_|refine zD ?_|refine zB ?_|refine zI ?_|refine zJ ?_|refine zP ?_|refine zE ?_|refine zG ?_|refine zF ?_|refine zH (by decide) ?_|refine zQ ?_|((first|refine zC ?_|refine zM ?_|refine zO rfl rfl ?_|refine zN rfl ?_|refine zL ?_);simp only[yq39.down,zA,lemS.down,lemC.down,zdO,zdN,zdL,reduceIte,zdM,zdP,zdQ,zdR,zdS,zdT,zdU,zdV,zdW,reduceCtorEq,lemH.down,zAa,zB8,hg1,hg2,zAT,lN,cc,b0,Nat.add_zero,l0,eh,w1,b1,l1,es,b2,lR,lt,lM,ck,b3,zc,Bool.not_true,Bool.not_false])))
   exact⟨.inr rfl,_,by simp only[yq39.down,zA,lemS.down,lemC.down,zdO,zdN,zdL,reduceIte,zdM,zdP,zdQ,zdR,zdS,zdT,zdU,zdV,zdW,reduceCtorEq],E,rfl,fun _=>hv2,fun q=>absurd q c3,G2.keeps⟩
  have b3:((E:Int)==0)=true:=by rw[c3];rfl
  have sm:=(hx _ (Grows.refl h)).small h0
  have hxr:RdInts h xv x.m:=fun h' g=>(hx h' g).2.1
  have l4:∀sp,g2.load ⟨L,4,sp⟩=some (.slice none 0 0):=fun sp=>hv2.load
  obtain⟨a,c,g3,e3,_,k3⟩:=zK3 T (x:=x) (hxr.grow G2) sm.2.2.1
  obtain⟨g4,hg4,v4,gg4,gn4⟩:=box5 (h:=g3) (hcells x (.slice a x.m.length c))
  have fl:z8 [.int .u64 0,.string (strOf []),.string (strOf []),.string (strOf []),.slice none 0 0] [(0,5,.agg (hcells x (.slice a x.m.length c)).toArray)]=some (hcells x (.slice a x.m.length c)):=rfl
  have hs1:=v4.src (n:=1) (esz:=5) (bytes:=80) (s:=.slice none 0 0) (sp:=none) (c:=1) rfl (by decide)
  obtain⟨v5,g5,e5,o5,k5⟩:=(Own.nil (h:=g4) (S:=fun A=>False) (esz:=5)).append (bytes:=80) (m:=1) (new:=hcells x (.slice a x.m.length c)) rfl rfl (by decide) (by decide) (by omega)
  rw[←hs1] at e5
  have G5:Grows h g5:=((G2.trans k3).trans gg4).then k5 (fun A hA q=>q)
  obtain⟨a5,c5,rfl,_⟩:=o5.shape
  have hv5:=hv.grow G5
  have st:zj g5 1 (.pointer (some ⟨L,4,none⟩)) (.slice a5 1 c5)=some (.tuple #[],g5.wr L (zAk R ov mv (.slice a5 1 c5) s)):=o5.store hv5 (by show 4<5;decide)
  obtain⟨g6,hg6⟩:∃g6,g5.wr L (zAk R ov mv (.slice a5 1 c5) s)=g6:=⟨_,rfl⟩
  have hv6:Var g6 L (zAk R ov mv (.slice a5 1 c5) s):=by rw[←hg6];exact hv5.wr
  have k6:Keeps (fun A=>A=L) g5 g6:=by rw[←hg6];exact Keeps.wr
  rw[hg6] at st
  have v16:Var g6 h.next (hcells x xv):=((((v12.grow k3).grow gg4).keep k5 (fun q=>q)).keep k6 (fun q=>by omega))
  have l46:∀sp,g6.load ⟨h.next,4,sp⟩=some xv:=fun sp=>v16.load
  have G6:Grows hA g6:=(g0.trans G5).then k6 (fun A hA q=>by omega)
  obtain⟨v7,g7,e7,o7,k7⟩:=zFx T (h:=g6) (v:=xv) (l:=x.m) (fun h' g=>(hx0 h' (G6.trans g)).2.1) sm.2.2.1
  obtain⟨a7,c7,rfl,_⟩:=o7.shape
  have hv7:=hv6.grow k7
  have s7:zj g7 1 (.pointer (some ⟨L,2,none⟩)) (.slice a7 x.m.length c7)=some (.tuple #[],g7.wr L (zAk R ov (.slice a7 x.m.length c7) (.slice a5 1 c5) s)):=o7.store hv7 (by show 2<5;decide)
  have K:Keeps (fun A=>A=L) h (g7.wr L (zAk R ov (.slice a7 x.m.length c7) (.slice a5 1 c5) s)):=((G5.keeps.trans k6 (fun _ _ q=>q)).trans k7.keeps (fun _ _ q=>q)).trans Keeps.wr (fun _ _ q=>q)
  (repeat (first|refine zS ?_|refine zK ?_|refine zR ?_|refine zD ?_|refine zB ?_|refine zI ?_|refine zJ ?_|refine zP ?_|refine zE ?_|refine zG ?_|refine zF ?_|refine zH (by decide) ?_|refine zQ ?_|((first|refine zC ?_|refine zM ?_|refine zO rfl rfl ?_|refine zN rfl ?_|refine zL ?_);simp only[yq39.down,zA,lemS.down,lemC.down,zdO,zdN,zdL,reduceIte,zdM,zdP,zdQ,zdR,zdS,zdT,zdU,zdV,zdW,reduceCtorEq,lemH.down,zAa,zB8,hg1,hg2,zAT,lN,cc,b0,Nat.add_zero,l0,eh,w1,b1,l1,es,b2,lR,lt,lM,ck,b3,zc,l4,e3,fl,hg4,e5,st,l46,e7,s7,Bool.not_true,Bool.not_false])))
  have l4':∀sp,g4.load ⟨L,4,sp⟩=some (.slice none 0 0):=fun sp=>((hv2.grow k3).grow gg4).load
  refine⟨?_,?_⟩
  ·(refine zA4 rfl rfl rfl ?_ ?_<;>simp only[yq39.down,zA,lemS.down,lemC.down,zdO,zdN,zdL,reduceIte,zdM,zdP,zdQ,zdR,zdS,zdT,zdU,zdV,zdW,reduceCtorEq,l4,l4',zA1,zAz,zA2,zA0,zAq,Option.isSome_some])
  (repeat (first|refine zS ?_|refine zK ?_|refine zR ?_|refine zD ?_|refine zB ?_|refine zI ?_|refine zJ ?_|refine zP ?_|refine zE ?_|refine zG ?_|refine zF ?_|refine zH (by decide) ?_|refine zQ ?_|((first|refine zC ?_|refine zM ?_|refine zO rfl rfl ?_|refine zN rfl ?_|refine zL ?_);simp only[yq39.down,zA,lemS.down,lemC.down,zdO,zdN,zdL,reduceIte,zdM,zdP,zdQ,zdR,zdS,zdT,zdU,zdV,zdW,reduceCtorEq,lemH.down,l46,e7,s7])))
  exact⟨.inr rfl,_,by simp only[yq39.down,zA,lemS.down,lemC.down,zdO,zdN,zdL,reduceIte,zdM,zdP,zdQ,zdR,zdS,zdT,zdU,zdV,zdW,reduceCtorEq],0,rfl,fun q=>absurd rfl q,fun _=>⟨c3,_,_,_,hv7.wr⟩,K⟩
 obtain⟨w,h',e,E,rfl,r⟩:=this
 exact⟨E,h',e,r⟩
end Go.X
end
section
open Go Go.X
namespace Go.X
set_option linter.unusedVariables false
structure Law20 (pr:Prog):Prop where
 l:LTab pr
 aw:pr.prim 37=some (zh trueS)
theorem zMk {h:Heap}:RdInts (h.new [.int .i64 0,.int .i64 1]) (.slice (some ⟨h.next,0,none⟩) 2 2) [0,1]:=fun h2 g2=>by
 have hv:Var h2 h.next [.int .i64 0,.int .i64 1]:=Var.new_self.grow g2
 simp only[zAH]
 rw[if_neg (by decide),hv.loadAll (n:=2) rfl]
 rfl
theorem fill2i:z8 [.int .i64 0,.int .i64 0] [(0,1,.int .i64 0),(1,1,.int .i64 1)]=some [.int .i64 0,.int .i64 1]:=rfl
theorem light_ok (pr:Prog) (T:Law20 pr) (b:List UInt8) (hb:b.length≤9223372036854775807) (h:Heap) (x:Hdr) (xv:Value) (hx:∀h',Grows h h'→HdW h' x xv) (tv:Value) (l:TagL) (ht:RdTags h tv l) (hl:l.length≤9223372036854775807) :
  Comes pr xq10 [.string (strOf b),.agg (hcells x xv).toArray,.agg [tv].toArray] h (.bool true):=by
 apply Comes.of
 unfold xq10
 dsimp only[zY]
 have hr64:zT=140737488355328:=rfl
 obtain⟨g1,hg1,v1,gg1,gn1⟩:=box5 (h:=h) (hcells x xv)
 obtain⟨g2,hg2,v2,gg2,gn2⟩:=box1 (h:=g1) (zIn ht.now).1
 have i3:=zMk (h:=g2)
 obtain⟨g3,hg3,v3,gg3,gn3⟩:=box5 (h:=g2) [.int .i64 0,.int .i64 1]
 rw[hg3] at i3
 obtain⟨g4,e4,r4,gg4⟩:=ring20 T.l g3
 obtain⟨L,ov,mv,s,g5,e5,v5,m5,hL,gg5⟩:=LNew_run T.l (h:=g4) (b:=[120]) (by decide) (i3.grow gg4) (by decide) (by decide) g3.next
 have e5:cfi pr 35 [.string (strOf [120]),.slice (some ⟨g2.next,0,none⟩) 2 2,.pointer (some ⟨g3.next,0,none⟩)] g4=_:=e5
 have ea:cfi pr 37 [] g5=some (.bool true,g5):=zAR T.aw rfl
 obtain⟨E1,g6,e6,q6,gg6⟩:=zZk T.l v5 hb
 obtain⟨g7,hg7,v7,gg7,gn7⟩:=box5 (h:=g6) ZS
 have s7:zj g7 13 (.pointer (some ⟨g6.next,0,none⟩)) (.agg ZS.toArray)=some (.tuple #[],g7.wr g6.next ZS):=v7.storeAll rfl rfl (by decide) rfl
 obtain⟨g8,hg8⟩:∃g8,g7.wr g6.next ZS=g8:=⟨_,rfl⟩
 have v8:Var g8 g6.next ZS:=by rw[←hg8];exact v7.wr
 have k8:Grows g6 g8:=by rw[←hg8];exact gg7.wr (Nat.le_refl _)
 rw[hg8] at s7
 clear hg8 v7
 have v58:=(v5.grow gg6).grow k8
 obtain⟨E2,g9,e9,q9,gg9⟩:=Tx_run T.l v58 hb
 obtain⟨gA,hgA,vA,ggA,gnA⟩:=box5 (h:=g9) ZX
 have sA:zj gA 12 (.pointer (some ⟨g9.next,0,none⟩)) (.agg ZX.toArray)=some (.tuple #[],gA.wr g9.next ZX):=vA.storeAll rfl rfl (by decide) rfl
 obtain⟨gB,hgB⟩:∃gB,gA.wr g9.next ZX=gB:=⟨_,rfl⟩
 have vB:Var gB g9.next ZX:=by rw[←hgB];exact vA.wr
 have kB:Grows g9 gB:=by rw[←hgB];exact ggA.wr (Nat.le_refl _)
 rw[hgB] at sA
 clear hgB vA
 have G2:Grows h g2:=gg1.trans gg2
 have G5:Grows g2 g5:=(gg3.trans gg4).trans gg5
 have G8:Grows g5 g8:=gg6.trans k8
 have G9:Grows g8 gB:=gg9.trans kB
 have G5B:Grows g5 gB:=G8.trans G9
 have GB:Grows h gB:=(G2.trans G5).trans G5B
 have v6B:=v8.grow G9
 have l6:∀sp,gB.load ⟨g6.next,6,sp⟩=some (.string (strOf [])):=fun sp=>v6B.load
 have l10:∀sp,gB.load ⟨g9.next,10,sp⟩=some (.int .i64 0):=fun sp=>vB.load
 have v1B:=v1.grow (gg2.trans (G5.trans G5B))
 have v2B:=v2.grow (G5.trans G5B)
 have lN:∀sp,gB.loadN ⟨h.next,0,sp⟩ 5=some (hcells x xv):=fun sp=>v1B.loadAll rfl
 have lt:∀sp,gB.loadN ⟨g1.next,0,sp⟩ 1=some [tv]:=fun sp=>v2B.loadAll rfl
 have hLh:h.next+2≤L:=by have:=gg3.next;have:=gg4.next;omega
 obtain⟨E,gC,eC,hC0,hC1,kC⟩:=zZf T.l (hA:=h) GB (by omega) (v58.grow G9) (r4.grow (gg5.trans G5B)) (zL6 _ _) (m5.grow G5B) hx ht hl
 have GC:Grows h gC:=GB.then kC (fun A hA q=>by omega)
 have h00:(([]:List UInt8)==[])=true:=rfl
 by_cases c:E=0
 ·obtain⟨ce,mv2,a,cc,vC⟩:=hC1 c
  have b0:((E:Int)==0)=true:=by rw[c];rfl
  obtain⟨gD,eD,rD,kD⟩:=ring20 T.l gC
  have v1C:=(v1B.keep kC (fun q=>by omega)).grow kD
  have v2C:=(v2B.keep kC (fun q=>by omega)).grow kD
  have lND:∀sp,gD.loadN ⟨h.next,0,sp⟩ 5=some (hcells x xv):=fun sp=>v1C.loadAll rfl
  have ltD:∀sp,gD.loadN ⟨g1.next,0,sp⟩ 1=some [tv]:=fun sp=>v2C.loadAll rfl
  have iE:=zMk (h:=gD)
  obtain⟨gE,hgE,vE,kE,nE⟩:=box5 (h:=gD) [.int .i64 0,.int .i64 1]
  rw[hgE] at iE
  have GE:Grows h gE:=(GC.trans kD).trans kE
  have ck:=zAr T.l.cchk (zKZ (rD.grow kE).now (zL6 _ _) (hx _ GE) (ht.grow GE).now hl iE.now (by decide))
  rw[ce] at ck
  have ck:cfi pr 51 [.pointer (some ⟨gC.next,0,none⟩),.agg (hcells x xv).toArray,.agg [tv].toArray,.slice (some ⟨gD.next,0,none⟩) 2 2] gE=some (.int .i64 0,gE):=ck
  have eH:=Height1 T.l ((vC.grow kD).grow kE)
  (repeat (first|refine zS ?_|refine zK ?_|refine zR ?_|refine zD ?_|refine zB ?_|refine zI ?_|refine zJ ?_|refine zP ?_|refine zE ?_|refine zG ?_|refine zF ?_|refine zH (by decide) ?_|refine zQ ?_|((first|refine zC ?_|refine zM ?_|refine zO rfl rfl ?_|refine zN rfl ?_|refine zL ?_);simp only[yq10.down,zA,lemS.down,lemC.down,zdO,zdN,zdL,reduceIte,zdM,zdP,zdQ,zdR,zdS,zdT,zdU,zdV,zdW,reduceCtorEq,lemH.down,zAa,zB8,hg1,hg2,fill2i,hg3,e4,e5,ea,zc,e6,hg7,s7,e9,hgA,sA,q6,q9,Nat.add_zero,l6,h00,l10,lN,lt,eC,b0,eD,lND,ltD,hgE,ck,eH,Bool.not_true,Bool.not_false])))
  have lNC:∀sp,gC.loadN ⟨h.next,0,sp⟩ 5=some (hcells x xv):=fun sp=>(v1B.keep kC (fun q=>by omega)).loadAll rfl
  have ltC:∀sp,gC.loadN ⟨g1.next,0,sp⟩ 1=some [tv]:=fun sp=>(v2B.keep kC (fun q=>by omega)).loadAll rfl
  have lNE:∀sp,gE.loadN ⟨h.next,0,sp⟩ 5=some (hcells x xv):=fun sp=>(v1C.grow kE).loadAll rfl
  have ltE:∀sp,gE.loadN ⟨g1.next,0,sp⟩ 1=some [tv]:=fun sp=>(v2C.grow kE).loadAll rfl
  refine⟨?_,?_,⟨?_,?_⟩,?_⟩
  ·(refine zA4 rfl rfl rfl ?_ ?_<;>simp only[yq10.down,zA,lemS.down,lemC.down,zdO,zdN,zdL,reduceIte,zdM,zdP,zdQ,zdR,zdS,zdT,zdU,zdV,zdW,reduceCtorEq,lNC,lND,zA1,zAz,zA2,zA0,zAq,Option.isSome_some])
  ·(refine zA4 rfl rfl rfl ?_ ?_<;>simp only[yq10.down,zA,lemS.down,lemC.down,zdO,zdN,zdL,reduceIte,zdM,zdP,zdQ,zdR,zdS,zdT,zdU,zdV,zdW,reduceCtorEq,ltC,ltD,zA1,zAz,zA2,zA0,zAq,Option.isSome_some])
  ·(refine zA4 rfl rfl rfl ?_ ?_<;>simp only[yq10.down,zA,lemS.down,lemC.down,zdO,zdN,zdL,reduceIte,zdM,zdP,zdQ,zdR,zdS,zdT,zdU,zdV,zdW,reduceCtorEq,lNE,lND,zA1,zAz,zA2,zA0,zAq,Option.isSome_some])
  ·(refine zA4 rfl rfl rfl ?_ ?_<;>simp only[yq10.down,zA,lemS.down,lemC.down,zdO,zdN,zdL,reduceIte,zdM,zdP,zdQ,zdR,zdS,zdT,zdU,zdV,zdW,reduceCtorEq,ltE,ltD,zA1,zAz,zA2,zA0,zAq,Option.isSome_some])
  (repeat (first|refine zS ?_|refine zK ?_|refine zR ?_|refine zD ?_|refine zB ?_|refine zI ?_|refine zJ ?_|refine zP ?_|refine zE ?_|refine zG ?_|refine zF ?_|refine zH (by decide) ?_|refine zQ ?_|((first|refine zC ?_|refine zM ?_|refine zO rfl rfl ?_|refine zN rfl ?_|refine zL ?_);simp only[yq10.down,zA,lemS.down,lemC.down,zdO,zdN,zdL,reduceIte,zdM,zdP,zdQ,zdR,zdS,zdT,zdU,zdV,zdW,reduceCtorEq,lemH.down,eH])))
  exact⟨.inr rfl,by simp only[yq10.down,zA,lemS.down,lemC.down,zdO,zdN,zdL,reduceIte,zdM,zdP,zdQ,zdR,zdS,zdT,zdU,zdV,zdW,reduceCtorEq],GE⟩
 ·have b0:((E:Int)==0)=false:=by rw[beq_eq_false_iff_ne];omega
  have eH:=zJq T.l (hC0 c)
  (repeat (first|refine zS ?_|refine zK ?_|refine zR ?_|refine zD ?_|refine zB ?_|refine zI ?_|refine zJ ?_|refine zP ?_|refine zE ?_|refine zG ?_|refine zF ?_|refine zH (by decide) ?_|refine zQ ?_|((first|refine zC ?_|refine zM ?_|refine zO rfl rfl ?_|refine zN rfl ?_|refine zL ?_);simp only[yq10.down,zA,lemS.down,lemC.down,zdO,zdN,zdL,reduceIte,zdM,zdP,zdQ,zdR,zdS,zdT,zdU,zdV,zdW,reduceCtorEq,lemH.down,zAa,zB8,hg1,hg2,fill2i,hg3,e4,e5,ea,zc,e6,hg7,s7,e9,hgA,sA,q6,q9,Nat.add_zero,l6,h00,l10,lN,lt,eC,b0,eH,Bool.not_true,Bool.not_false])))
  exact⟨.inr rfl,by simp only[yq10.down,zA,lemS.down,lemC.down,zdO,zdN,zdL,reduceIte,zdM,zdP,zdQ,zdR,zdS,zdT,zdU,zdV,zdW,reduceCtorEq],GC⟩
end Go.X
end
section
open Go Go.X Go.Proofs Go.RowKit
namespace Go.X
set_option linter.unusedVariables false
inductive InS (w:World) (e:Nat):Value→(Nat→Value)→Nat→List Value→Nat→Option Loc→Prop
 | nil:InS w e (.slice none 0 0) (fun _=>.slice none 0 0) 0 [] 0 none
 | arr {b off len cap o:Nat} {c:Array Value} {T:TypeId} {fz:Nat×Nat} {cs:List Value}:w.heap[b]?=some (.cells c T fz)→len≤cap→cs.length=len*e→cs.all zAE=true→o+cs.length≤c.size →
  (c.toList.drop o).take cs.length=cs→o≤off→(len≠0→o=off)→InS w e (.slice (some ⟨b,off,none⟩) len cap) (fun A=>.slice (some ⟨A,off - o,none⟩) len cap) len cs o (some ⟨b,o,c.size⟩)
def zBi:Option Loc→Option Loc→Nat
 | some l,some m=>if l.b=m.b then 0 else 1
 | _,_=>1
def zAX (cs ds:List Value) (o q f:Nat):Heap:=⟨2,PT.set (PT.set .leaf 0 (.cells ⟨cs,0,o,true⟩)) 1 (.cells ⟨ds,f,q,true⟩),PT.set (PT.set .leaf 0 ⟨0,0,o+q+cs.length+ds.length⟩) 1 ⟨0,1,o+q+cs.length+ds.length⟩⟩
def ren2 (l m:Option Loc):Ren:=fun A=>if A=0 then l else if A=1 then m else none
section
variable {cs ds:List Value} {o q f:Nat}
theorem in_b0:(zAX cs ds o q f).blks.get 0=some (.cells ⟨cs,0,o,true⟩):=(PT.get_set_ne _ _ (by decide)).trans (PT.get_set_eq _ _ _)
theorem in_b1:(zAX cs ds o q f).blks.get 1=some (.cells ⟨ds,f,q,true⟩):=PT.get_set_eq _ _ _
theorem in_f0:(zAX cs ds o q f).fams.get 0=some ⟨0,0,o+q+cs.length+ds.length⟩:=(PT.get_set_ne _ _ (by decide)).trans (PT.get_set_eq _ _ _)
theorem in_f1:(zAX cs ds o q f).fams.get 1=some ⟨0,1,o+q+cs.length+ds.length⟩:=PT.get_set_eq _ _ _
theorem in_f (hf:f=0∨f=1):∃k,(zAX cs ds o q f).fams.get f=some ⟨0,k,o+q+cs.length+ds.length⟩:=by
 rcases hf with rfl|rfl
 ·exact⟨_,in_f0⟩
 ·exact⟨_,in_f1⟩
theorem in_b {A:Nat} (h0:A≠0) (h1:A≠1):(zAX cs ds o q f).blks.get A=none:=((PT.get_set_ne _ _ h1).trans (PT.get_set_ne _ _ h0)).trans (PT.get_leaf A)
theorem in_fn {A:Nat} (h0:A≠0) (h1:A≠1):(zAX cs ds o q f).fams.get A=none:=((PT.get_set_ne _ _ h1).trans (PT.get_set_ne _ _ h0)).trans (PT.get_leaf A)
theorem zD9 {A:Nat} {b:Blk} (h:(zAX cs ds o q f).blks.get A=some b):(A=0∧b=.cells ⟨cs,0,o,true⟩)∨(A=1∧b=.cells ⟨ds,f,q,true⟩):=by
 by_cases h0:A=0
 ·subst h0
  rw[in_b0] at h
  exact .inl ⟨rfl,(Option.some.inj h).symm⟩
 ·by_cases h1:A=1
  ·subst h1
   rw[in_b1] at h
   exact .inr ⟨rfl,(Option.some.inj h).symm⟩
  ·rw[in_b h0 h1] at h
   cases h
theorem zEt {A:Nat} {c:Cells} (h:(zAX cs ds o q f).okCells A=some c):(A=0∧c=⟨cs,0,o,true⟩)∨(A=1∧c=⟨ds,f,q,true⟩):=by
 rcases zD9 (okCells_iff.1 h).1 with ⟨h1,h2⟩|⟨h1,h2⟩
 ·cases h2;exact .inl ⟨h1,rfl⟩
 ·cases h2;exact .inr ⟨h1,rfl⟩
theorem in_wf (hf:f=0∨f=1):HWF (zAX cs ds o q f):=by
 refine⟨fun A hA=>?_,fun A c h=>?_,fun A c g h1 h2=>?_⟩
 ·have:(zAX cs ds o q f).next=2:=rfl
  exact⟨in_b (by omega) (by omega),in_fn (by omega) (by omega)⟩
 ·obtain⟨k,hk⟩:=in_f (cs:=cs) (ds:=ds) (o:=o) (q:=q) hf
  rcases zD9 h with ⟨_,e⟩|⟨_,e⟩
  ·cases e;exact⟨by show 0<2;decide,_,in_f0⟩
  ·cases e;exact⟨by show f<2;omega,_,hk⟩
 ·obtain⟨k,hk⟩:=in_f (cs:=cs) (ds:=ds) (o:=o) (q:=q) hf
  rcases zEt h1 with ⟨_,rfl⟩|⟨_,rfl⟩
  ·rw[show (zAX cs ds o q f).fams.get (Cells.mk cs 0 o true).fam=_ from in_f0] at h2
   cases h2
   show o+cs.length≤o+q+cs.length+ds.length
   omega
  ·rw[show (zAX cs ds o q f).fams.get (Cells.mk ds f q true).fam=_ from hk] at h2
   cases h2
   show q+ds.length≤o+q+cs.length+ds.length
   omega
theorem in_load0 {h:Heap} (g:Grows (zAX cs ds o q f) h):h.loadN ⟨0,0,none⟩ cs.length=some cs:=by
 have n0:(0:Nat)<(zAX cs ds o q f).next:=by show 0<2;decide
 have e1:=(g.blks 0 n0).trans in_b0
 have e2:=(g.fams 0 n0).trans in_f0
 have e3:h.okCells 0=some ⟨cs,0,o,true⟩:=by
  simp only[Heap.okCells,e1,e2]
  rfl
 simp only[Heap.loadN,e3,zAh,Nat.zero_add]
 rw[Nat.ble_eq_true_of_le (Nat.le_refl _)]
 show some ((cs.drop 0).take cs.length)=_
 rw[List.drop_zero,List.take_length]
theorem in_load1 (hf:f=0∨f=1) {h:Heap} (g:Grows (zAX cs ds o q f) h):h.loadN ⟨1,0,none⟩ ds.length=some ds:=by
 have n1:(1:Nat)<(zAX cs ds o q f).next:=by show 1<2;decide
 have e1:=(g.blks 1 n1).trans in_b1
 obtain⟨k,hk⟩:=in_f (cs:=cs) (ds:=ds) (o:=o) (q:=q) hf
 have e2:=(g.fams f (by show f<2;omega)).trans hk
 have e3:h.okCells 1=some ⟨ds,f,q,true⟩:=by
  refine okCells_iff.2 ⟨e1,_,e2,.inr (Nat.zero_le _)⟩
 simp only[Heap.loadN,e3,zAh,Nat.zero_add]
 rw[Nat.ble_eq_true_of_le (Nat.le_refl _)]
 show some ((ds.drop 0).take ds.length)=_
 rw[List.drop_zero,List.take_length]
end
theorem InS.loc {w:World} {e:Nat} {v:Value} {x:Nat→Value} {n:Nat} {cs:List Value} {o:Nat} {l:Option Loc} (h:InS w e v x n cs o l) {m:Loc} (hm:l=some m):∃c T fz,w.heap[m.b]?=some (.cells c T fz)∧c.size=m.size∧m.o=o∧o+cs.length≤c.size∧(c.toList.drop o).take cs.length=cs∧cs.all zAE=true:=by
 cases h with
 | nil=>cases hm
 | arr h1 h2 h3 h4 h5 h6 h7 h8=>cases hm;exact⟨_,_,_,h1,rfl,rfl,h5,h6,h4⟩
theorem InS.rel {w:World} {e:Nat} {v:Value} {x:Nat→Value} {n:Nat} {cs:List Value} {o:Nat} {l:Option Loc} (h:InS w e v x n cs o l) {ρ:Ren} {A:Nat} (hA:ρ A=l):VRel ρ (x A) v:=by
 cases h with
 | nil=>exact .nilslice
 | arr h1 h2 h3 h4 h5 h6 h7 h8=>exact VRel.slice hA h2 (Nat.le_refl _) (fun _=>by rw[Nat.add_sub_cancel' h7]) (fun _=>rfl) (fun q hq=>by cases hq)
theorem zK8 (l m:Option Loc):zBi l m=0∨zBi l m=1:=by
 unfold zBi
 split
 ·split<;>simp
 ·exact .inr rfl
theorem hrel_in2 {P:Program} {w:World} {e0 e1:Nat} {v0 v1:Value} {x0 x1:Nat→Value} {n0 n1:Nat} {cs ds:List Value} {o q:Nat} {l m:Option Loc} (i0:InS w e0 v0 x0 n0 cs o l) (i1:InS w e1 v1 x1 n1 ds q m) :
  HRel P w.heap.size (ren2 l m) (zAX cs ds o q (zBi l m)) w:=by
 have r0:ren2 l m 0=l:=rfl
 have r1:ren2 l m 1=m:=rfl
 have lt:∀ {b:Nat} {c:Array Value} {T:TypeId} {fz:Nat×Nat},w.heap[b]?=some (.cells c T fz)→b<w.heap.size:=fun hb=>(Array.getElem?_eq_some_iff.1 hb).1
 have nl:∀ {A r},(zAX cs ds o q (zBi l m)).blks.get A=some (.loop r)→False:=fun h=>by rcases zD9 h with ⟨_,e⟩|⟨_,e⟩<;>cases e
 have nm:∀ {A es},(zAX cs ds o q (zBi l m)).blks.get A=some (.map es)→False:=fun h=>by rcases zD9 h with ⟨_,e⟩|⟨_,e⟩<;>cases e
 have flr:∀ {l:List Value},l.all zAE=true→LRel (ren2 m m) l l→True:=fun _ _=>trivial
 refine⟨Nat.le_refl _,fun A k h=>?_,fun A c h hs=>?_,fun A c k h h2=>?_,fun A B c d k k2 hne h1 h2 g1 g2 hb=>?_,fun A k es h=>(nm h).elim,fun A B es fs k k2 _ h=>(nm h).elim,⟨2,fun A hA=>by unfold ren2;rw[if_neg (by omega),if_neg (by omega)]⟩,fun A c g k h1 _ _ h4=>?_,⟨fun A k r h=>(nl h).elim,fun A B r s k k2 _ h=>(nl h).elim,fun A k ⟨c,h,_,_,h4⟩=>?_,fun A k es es' cl h=>(nm h).elim⟩⟩
 ·by_cases a0:A=0
  ·subst a0
   obtain⟨c,T,fz,hb,_⟩:=i0.loc (r0.symm.trans h)
   exact lt hb
  ·by_cases a1:A=1
   ·subst a1
    obtain⟨c,T,fz,hb,_⟩:=i1.loc (r1.symm.trans h)
    exact lt hb
   ·unfold ren2 at h
    rw[if_neg a0,if_neg a1] at h
    cases h
 ·rcases zD9 h with ⟨rfl,e⟩|⟨rfl,e⟩
  ·cases e;exact hs
  ·cases e
   show (ren2 l m (zBi l m)).isSome
   rw[r1] at hs
   unfold zBi
   split
   ·split
    ·rfl
    ·exact hs
   ·exact hs
 ·rcases zEt h with ⟨rfl,rfl⟩|⟨rfl,rfl⟩
  ·obtain⟨c,T,fz,hb,hs,ho,hl,hv,hi⟩:=i0.loc (r0.symm.trans h2)
   refine⟨c,T,fz,hb,hs,by rw[ho];exact hl,?_,fun e=>by cases e⟩
   show LRel _ cs ((c.toList.drop k.o).take cs.length)
   rw[ho,hv]
   exact All2.refl_of cs fun x hx=>zCq (by rw[List.all_eq_true] at hi;exact hi x hx)
  ·obtain⟨c,T,fz,hb,hs,ho,hl,hv,hi⟩:=i1.loc (r1.symm.trans h2)
   refine⟨c,T,fz,hb,hs,by rw[ho];exact hl,?_,fun e=>by cases e⟩
   show LRel _ ds ((c.toList.drop k.o).take ds.length)
   rw[ho,hv]
   exact All2.refl_of ds fun x hx=>zCq (by rw[List.all_eq_true] at hi;exact hi x hx)
 ·rcases zEt h1 with ⟨rfl,rfl⟩|⟨rfl,rfl⟩<;>rcases zEt h2 with ⟨rfl,rfl⟩|⟨rfl,rfl⟩
  ·exact absurd rfl hne
  ·have e1:=r0.symm.trans g1
   have e2:=r1.symm.trans g2
   obtain⟨_,_,_,_,_,o1,_⟩:=i0.loc e1
   obtain⟨_,_,_,_,_,o2,_⟩:=i1.loc e2
   subst e1 e2
   refine⟨?_,by show k.o+q=k2.o+o;omega⟩
   show 0=zBi (some k) (some k2)
   show 0=if k.b=k2.b then 0 else 1
   rw[if_pos hb]
  ·have e1:=r1.symm.trans g1
   have e2:=r0.symm.trans g2
   obtain⟨_,_,_,_,_,o1,_⟩:=i1.loc e1
   obtain⟨_,_,_,_,_,o2,_⟩:=i0.loc e2
   subst e1 e2
   refine⟨?_,by show k.o+o=k2.o+q;omega⟩
   show (if k2.b=k.b then 0 else 1)=0
   rw[if_pos hb.symm]
  ·exact absurd rfl hne
 ·rcases zEt h1 with ⟨_,rfl⟩|⟨_,rfl⟩<;>cases h4
 ·rcases zD9 h with ⟨_,e⟩|⟨_,e⟩<;>cases e<;>cases h4
theorem in_ints {w:World} {v:Value} {x:Nat→Value} {n:Nat} {l:List Int} {o:Nat} {k:Option Loc} (i:InS w 1 v x n (zAA l) o k) (hb:∀y∈l,-9223372036854775808≤y∧y<9223372036854775808) {ds:List Value} {q f:Nat}:RdInts (zAX (zAA l) ds o q f) (x 0) l:=by
 intro h' g
 have ld:=in_load0 g
 generalize hc:zAA l=cs at *
 cases i with
 | nil =>
  obtain rfl:l=[]:=by cases l with|nil=>rfl|cons y l=>cases hc
  rfl
 | @arr b off len cap o c T fz cs h1 h2 h3 h4 h5 h6 h7 h8 =>
  subst hc
  rw[zDy,Nat.mul_one] at h3
  unfold zAH
  by_cases h0:n=0
  ·obtain rfl:=List.eq_nil_of_length_eq_zero (h3.trans h0)
   simp only
   rw[if_pos h0]
  ·simp only
   rw[if_neg h0,h8 h0,Nat.sub_self,←h3,←zDy l,ld]
   simp only[zHq hb]
theorem in_tags {w:World} {v:Value} {x:Nat→Value} {n:Nat} {l:TagL} {o:Nat} {k:Option Loc} (i:InS w 2 v x n (zw l) o k) (hb:∀y∈l,inI y.1) {cs:List Value} {q f:Nat} (hf:f=0∨f=1):RdTags (zAX cs (zw l) q o f) (x 1) l:=by
 intro h' g
 have ld:=in_load1 hf g
 generalize hc:zw l=ds at *
 cases i with
 | nil =>
  obtain rfl:l=[]:=by cases l with|nil=>rfl|cons y l=>cases hc
  rfl
 | @arr b off len cap o c T fz cs h1 h2 h3 h4 h5 h6 h7 h8 =>
  subst hc
  rw[zDz] at h3
  unfold zBP
  by_cases h0:n=0
  ·obtain rfl:=List.eq_nil_of_length_eq_zero (show l.length=0 by omega)
   simp only
   rw[if_pos h0]
  ·simp only
   rw[if_neg h0,h8 h0,Nat.sub_self,show n*2=(zw l).length by rw[zDz];omega,ld]
   simp only[zIj hb]
theorem zZ2 {P:Program} {Pg:Prog} (ok:XOK P Pg) {f:Nat} {F:XF} {args args':List Value} {v:Value} {h:Heap} {ρ:Ren} {w:World} (hr:HRel P w.heap.size ρ h w) (wf:HWF h) (hρ:∀A,h.next≤A→ρ A=none) (hp:Pg.prim f=none) (hF:Pg.code f=some F) (hn:args.length=F.nargs) (ha:LRel ρ args args') (hv:zAE v=true) (hc:Comes Pg F args h v) :
  Calls P f args'.toArray w fun e w'=>e=.returned v∧Below w.heap.size w w':=by
 obtain⟨e,t',h1,hr',he,hres,hg⟩:=hc
 have h2:cfi Pg f args h=some (v,h1):=zDP hp hF hn ⟨e,t',h1,hr',he,hres,rfl⟩
 obtain⟨n,hn⟩:=zKa h2
 have h3:call Pg n f args h=some (v,h1):=hn
 obtain⟨_,_,h4⟩:=(zHH ok n).fn f args h v h1 h3
 refine (h4 w.heap.size ρ w args' hr wf (fun A hA _=>hρ A hA) ha).mono fun e w' hq=>?_
 obtain⟨v',ρ',rfl,q1,q2,q3,q4⟩:=hq
 exact⟨by rw[zFt hv q4],q3.below⟩
end Go.X
end
section
open Go Go.X Go.Proofs Go.RowKit
namespace Go.X
set_option linter.unusedVariables false
theorem zF1 {args:List Value} {h:Heap} {v:Value} {h':Heap} (hr:keyG args h=some (v,h')):h'=h∧args.length=2∧zAE v=true∧∀pr n,Comes pr xq198 args (h.at n) v:=by
 unfold keyG at hr
 split at hr
 ·rename_i a i
  split at hr
  ·rename_i l hl
   cases hr
   exact⟨rfl,rfl,rfl,fun pr n=>key_ok pr (h.at n) a l i hl⟩
  ·cases hr
 ·cases hr
theorem zGO {args:List Value} {h:Heap} {v:Value} {h':Heap} (hr:zEP args h=some (v,h')):h'=h∧args.length=4∧zAE v=true∧∀pr n,pr.prim 198=some keyG→pr.prim 216=some (zh zCP)→Comes pr xq177 args (h.at n) v:=by
 unfold zEP at hr
 split at hr
 ·rename_i a i s t
  split at hr
  ·rename_i l hl
   split at hr
   ·rename_i hc
    cases hr
    refine⟨rfl,rfl,rfl,fun pr n h1 h2=>?_⟩
    have:=zbl pr h1 h2 (h.at n) a l i s.data.toList t.data.toList hl hc.1 hc.2
    rw[zBz,zBz] at this
    exact this
   ·cases hr
  ·cases hr
 ·cases hr
theorem Tab.closedT {P:Program} {l:List (Nat×Prim)} {Pg:Prog} (okP:XOK P Pg) (ok:XOK P (Tab P l)) {f n:Nat} {v:Value} {h2:Heap} (hv:zAE v=true) (hc:call Pg n f [] Heap.empty=some (v,h2)) {s:List Value→Option Value} (hs:∀args w,s args=some w→args=[]∧w=v):XOK P (Tab P ((f,zh s)::l)):=by
 refine Tab.cons ok fun args h w h' hr=>?_
 unfold zh at hr
 split at hr
 ·rename_i v1 hv1
  cases hr
  obtain⟨rfl,rfl⟩:=hs args _ hv1
  exact⟨zKT okP hc,Nat.le_refl _,zKU okP hc rfl hv h⟩
 ·cases hr
def G1:List (Nat×Prim):=(136,zh zEX)::Z2
def G2:List (Nat×Prim):=(56,zCX)::G1
def G3:List (Nat×Prim):=(64,zCS)::G2
def G4:List (Nat×Prim):=(102,zEr)::G3
def G5:List (Nat×Prim):=(198,keyG)::G4
def G6:List (Nat×Prim):=(177,zEP)::G5
def G7:List (Nat×Prim):=(162,zFH)::G6
def G8:List (Nat×Prim):=(127,zEp)::G7
def G9:List (Nat×Prim):=(178,zh zE3)::G8
def GA:List (Nat×Prim):=(128,zE2)::G9
def GB:List (Nat×Prim):=(51,zEj)::GA
def GC:List (Nat×Prim):=(37,zh trueS)::GB
theorem gk1:XOK Tryz.prog (Tab Tryz.prog G1):=Tab.pure zk2 Tryz.func136 cq136 fun args v h=>⟨(zI4 h).1,(zI4 h).2.1,fun g=>(zI4 h).2.2 _ g⟩
theorem gk2:XOK Tryz.prog (Tab Tryz.prog G2):=Tab.read gk1 Tryz.func56 cq56 fun args h v h' hr=>by
 unfold zCX at hr
 split at hr
 ·split at hr
  ·split at hr
   ·rename_i hs hl;cases hr;exact⟨rfl,rfl,rfl,fun n wf=>zbN _ (h.at n) _ _ hs hl⟩
   ·cases hr
  ·cases hr
 ·cases hr
theorem gk3:XOK Tryz.prog (Tab Tryz.prog G3):=Tab.read gk2 Tryz.func64 cq64 fun args h v h' hr=>by
 unfold zCS at hr
 split at hr
 ·split at hr
  ·rename_i hx
   cases hr
   obtain⟨e,hd⟩:=zJ4 hx
   rw[e]
   exact⟨rfl,rfl,rfl,fun n wf=>zax _ rfl (h.at n) wf _ _ hd⟩
  ·cases hr
 ·cases hr
theorem wireG3:zAL (Tab Tryz.prog G3):=⟨rfl,rfl,zf Tryz.func75 cq75,rfl,zf Tryz.func147 cq147,rfl,zf Tryz.func78 cq78,rfl,zf Tryz.func121 cq121,rfl,zf Tryz.func76 cq76,rfl,zf Tryz.func79 cq79,rfl,zf Tryz.func81 cq81,rfl,zf Tryz.func86 cq86,rfl,zf Tryz.func89 cq89,rfl,zf Tryz.func150 cq150,rfl,zf Tryz.func108 cq108,rfl,zf Tryz.func87 cq87,rfl,zf Tryz.func90 cq90,rfl,zf Tryz.func91 cq91,rfl,zf Tryz.func151 cq151,rfl,zf Tryz.func152 cq152,rfl,zf Tryz.func109 cq109,rfl,zf Tryz.func149 cq149⟩
theorem headG3:zGs (Tab Tryz.prog G3):=⟨wireG3,rfl,rfl,rfl,zf Tryz.func77 cq77,rfl,zf Tryz.func115 cq115⟩
theorem gk4:XOK Tryz.prog (Tab Tryz.prog G4):=Tab.read gk3 Tryz.func102 cq102 fun args h v h' hr=>by
 unfold zEr at hr
 split at hr
 ·split at hr
  ·rename_i hx
   cases hr
   obtain⟨e,hd⟩:=zG3 hx
   rw[e]
   exact⟨rfl,rfl,rfl,fun n wf=>zaz _ headG3 rfl (h.at n) wf _ _ hd⟩
  ·cases hr
 ·cases hr
theorem gk5:XOK Tryz.prog (Tab Tryz.prog G5):=Tab.read gk4 Tryz.func198 cq198 fun args h v h' hr=>⟨(zF1 hr).1,(zF1 hr).2.1,(zF1 hr).2.2.1,fun n wf=>(zF1 hr).2.2.2 _ n⟩
theorem gk6:XOK Tryz.prog (Tab Tryz.prog G6):=Tab.read gk5 Tryz.func177 cq177 fun args h v h' hr=>⟨(zGO hr).1,(zGO hr).2.1,(zGO hr).2.2.1,fun n wf=>(zGO hr).2.2.2 _ n rfl rfl⟩
theorem gk7:XOK Tryz.prog (Tab Tryz.prog G7):=Tab.read gk6 Tryz.func162 cq162 fun args h v h' hr=>by
 unfold zFH at hr
 split at hr
 ·split at hr
  ·rename_i hx
   cases hr
   obtain⟨e,hd⟩:=zG3 hx
   rw[e]
   exact⟨rfl,rfl,rfl,fun n wf=>saidC_ok _ rfl rfl (h.at n) wf _ _ hd⟩
  ·cases hr
 ·cases hr
theorem gk8:XOK Tryz.prog (Tab Tryz.prog G8):=Tab.read gk7 Tryz.func127 cq127 fun args h v h' hr=>by
 unfold zEp at hr
 split at hr
 ·rename_i a c r t
  split at hr
  ·split at hr
   ·rename_i hrg hx hk
    cases hr
    obtain⟨e,hd⟩:=zG3 hx
    rw[e]
    refine⟨rfl,rfl,rfl,fun n wf=>?_⟩
    have:=good_ok (Tab Tryz.prog G7) rfl rfl rfl (h.at n) wf a _ hrg hk r t.data.toList _ _ hd
    rw[tagV,strOf_data] at this
    exact this
   ·cases hr
  ·cases hr
 ·cases hr
theorem gk9:XOK Tryz.prog (Tab Tryz.prog G9):=Tab.pure gk8 Tryz.func178 cq178 fun args v h=>by
 unfold zE3 at h
 split at h
 ·split at h
  ·rename_i hc;cases h;exact⟨rfl,rfl,fun g=>most_ok _ _ hc g⟩
  ·cases h
 ·cases h
theorem gkA:XOK Tryz.prog (Tab Tryz.prog GA):=Tab.read gk9 Tryz.func128 cq128 fun args h v h' hr=>by
 unfold zE2 at hr
 split at hr
 ·split at hr
  ·split at hr
   ·split at hr
    ·rename_i hs hm _ _ hk hl
     cases hr
     refine⟨rfl,rfl,rfl,fun n wf=>cmost_ok _ rfl (h.at n) _ _ _ _ hs ?_ hl⟩
     unfold MapAt
     rw[←zLG hk]
     exact hm
    ·cases hr
   ·cases hr
  ·cases hr
 ·cases hr
theorem gkB:XOK Tryz.prog (Tab Tryz.prog GB):=Tab.read gkA Tryz.func51 cq51 fun args h v h' hr=>by
 unfold zEj at hr
 split at hr
 ·split at hr
  ·split at hr
   ·rename_i hrg hx ht hm hc
    cases hr
    obtain⟨e,hd⟩:=zJ4 hx
    rw[e]
    exact⟨rfl,rfl,rfl,fun n wf=>zZ4 _ ⟨rfl,rfl,rfl,rfl⟩ (h.at n) wf _ _ hrg hc.1 _ _ hd _ _ ht hc.2.1 _ _ hm hc.2.2⟩
   ·cases hr
  ·cases hr
 ·cases hr
set_option maxRecDepth 100000 in
theorem kz2_ok:K.KPOk KZ2.P KZ2.l:=kl_ok
theorem kis_gen {k:K.KP} (hK:K.KPOk k.P k.l) {n f:Nat} {args:List Value} {h:Heap} {v:Value} {p:Prop} (hp:p=K.kis k n f args h v) (e:p=True):∃h',call k.P n f args h=some (v,h'):=K.kis_ok hK (by rw[←hp,e];trivial)
theorem kaw:∃h',call KZ2.P 600 37 [] Heap.empty=some (.bool true,h'):=by
 have:=run20
 generalize hp:K.kis KZ2 600 37 [] Heap.empty (.bool true)=p at this
 exact @kis_gen KZ2 kz2_ok 600 37 [] Heap.empty (.bool true) p hp.symm this
theorem gkC:XOK Tryz.prog (Tab Tryz.prog GC):=by
 obtain⟨h',e⟩:=kaw
 refine Tab.closedT (Pg:=KZ2.P) (K.TabT.ok zk2) gkB (v:=.bool true) rfl e fun args w hw=>?_
 unfold trueS at hw
 split at hw
 ·cases hw;exact⟨rfl,rfl⟩
 ·cases hw
theorem zDn:zAL (Tab Tryz.prog GC):=⟨rfl,rfl,zf Tryz.func75 cq75,rfl,zf Tryz.func147 cq147,rfl,zf Tryz.func78 cq78,rfl,zf Tryz.func121 cq121,rfl,zf Tryz.func76 cq76,rfl,zf Tryz.func79 cq79,rfl,zf Tryz.func81 cq81,rfl,zf Tryz.func86 cq86,rfl,zf Tryz.func89 cq89,rfl,zf Tryz.func150 cq150,rfl,zf Tryz.func108 cq108,rfl,zf Tryz.func87 cq87,rfl,zf Tryz.func90 cq90,rfl,zf Tryz.func91 cq91,rfl,zf Tryz.func151 cq151,rfl,zf Tryz.func152 cq152,rfl,zf Tryz.func109 cq109,rfl,zf Tryz.func149 cq149⟩
theorem boolG:zFP (Tab Tryz.prog GC):=⟨zDn,rfl,zf Tryz.func105 cq105,rfl,zf Tryz.func117 cq117⟩
theorem hdG:HdTab (Tab Tryz.prog GC):=⟨⟨zDn,rfl,rfl,zf Tryz.func88 cq88⟩,rfl,rfl,zf Tryz.func103 cq103⟩
theorem takeG:zGx (Tab Tryz.prog GC):=⟨zDn,rfl,zf Tryz.func104 cq104⟩
theorem pfG:PFTab (Tab Tryz.prog GC):=⟨zDn,boolG,rfl,zf Tryz.func106 cq106⟩
theorem txG:zDt (Tab Tryz.prog GC):=⟨rfl,zf Tryz.func172 cq172,rfl,zf Tryz.func171 cq171,rfl,zf Tryz.func213 cq213,rfl,zf Tryz.func170 cq170,rfl,zf Tryz.func119 cq119⟩
theorem ttG:TTab (Tab Tryz.prog GC):=⟨zDn,txG,rfl,zf Tryz.func107 cq107⟩
theorem dG:DTab (Tab Tryz.prog GC):=⟨zDn,hdG,takeG,boolG,pfG,ttG,rfl,zf Tryz.func42 cq42,rfl,zf Tryz.func43 cq43⟩
theorem ltG:LTab (Tab Tryz.prog GC):=⟨zDn,dG,rfl,rfl,rfl,rfl,rfl,zf Tryz.func77 cq77,rfl,zf Tryz.func59 cq59,rfl,zf Tryz.func97 cq97,rfl,zf Tryz.func99 cq99,rfl,zf Tryz.func98 cq98,rfl,zf Tryz.func36 cq36,rfl,zf Tryz.func35 cq35,rfl,zf Tryz.func214 cq214,rfl,zf Tryz.func174 cq174,rfl,zf Tryz.func50 cq50,rfl,zf Tryz.func41 cq41,rfl,zf Tryz.func125 cq125,rfl,zf Tryz.func49 cq49,rfl,zf Tryz.func48 cq48,rfl,zf Tryz.func39 cq39⟩
theorem lawG:Law20 (Tab Tryz.prog GC):=⟨ltG,rfl⟩
theorem walkLightReads (s:ByteArray) (hs:s.size≤maxLen) (x:Hdr) (hx:x.n<18446744073709551616) (hm:x.m.length≤9223372036854775807) (hb:∀q∈x.m,-9223372036854775808≤q∧q<9223372036854775808) (l:TagL) (hl:l.length≤9223372036854775807) (ht:∀q∈l,inI q.1) {w:World} {v0 v1:Value} {y0 y1:Nat→Value} {n0 n1 o0 o1:Nat} {k0 k1:Option Loc} (i0:InS w 1 v0 y0 n0 (zAA x.m) o0 k0) (i1:InS w 2 v1 y1 n1 (zw l) o1 k1) :
  Calls Tryz.prog 10 #[.string s,.agg (hcells x v0).toArray,.agg [v1].toArray] w fun e w'=>e=.returned (.bool true)∧Below w.heap.size w w':=by
 have hl0:s.data.toList.length≤9223372036854775807:=by
  have:s.data.toList.length=s.size:=rfl
  unfold maxLen at hs
  omega
 have r0:=in_ints i0 hb (ds:=zw l) (q:=o1) (f:=zBi k0 k1)
 have r1:=in_tags i1 ht (cs:=zAA x.m) (q:=o0) (zK8 k0 k1)
 have:=light_ok _ lawG s.data.toList hl0 (zAX (zAA x.m) (zw l) o0 o1 (zBi k0 k1)) x (y0 0) (fun h' g=>⟨hx,r0 h' g,hm⟩) (y1 1) l r1 hl
 rw[strOf_data] at this
 have q0:VRel (ren2 k0 k1) (y0 0) v0:=i0.rel rfl
 have q1:VRel (ren2 k0 k1) (y1 1) v1:=i1.rel rfl
 refine zZ2 gkC (hrel_in2 i0 i1) (in_wf (zK8 k0 k1)) (fun A hA=>?_) rfl (zf Tryz.func10 cq10) rfl (.cons (.string s) (.cons (VRel.agg_ofL (.cons (.int _ _) (.cons (.string _) (.cons (.string _) (.cons (.string _) (.cons q0 .nil)))))) (.cons (VRel.agg_ofL (.cons q1 .nil)) .nil))) rfl this
 have:(zAX (zAA x.m) (zw l) o0 o1 (zBi k0 k1)).next=2:=rfl
 unfold ren2
 rw[if_neg (by omega),if_neg (by omega)]
end Go.X
end
section
open Go Go.X Go.Proofs Go.RowKit Go.ChangeShapes Go.WideShapes
namespace Go.X
set_option linter.unusedVariables false
theorem InS.of {w:World} {e b off len cap:Nat} {c:Array Value} {T:TypeId} {fz:Nat×Nat} (he:0<e) (hb:w.heap[b]?=some (.cells c T fz)) (hlc:len≤cap) {cs:List Value} (hcs:cs.length=len*e) (hf:cs.all zAE=true) (hc:∀i,i<cs.length→c[off+i]?=cs[i]?) :
  ∃x o k,InS w e (.slice (some ⟨b,off,none⟩) len cap) x len cs o k:=by
 by_cases h0:len=0
 ·subst h0
  obtain rfl:cs=[]:=List.eq_nil_of_length_eq_zero (by omega)
  exact⟨_,_,_,.arr (o:=0) hb hlc hcs hf (by simp) rfl (Nat.zero_le _) (fun h=>absurd rfl h)⟩
 ·have hn:cs.length≠0:=by rw[hcs];exact Nat.mul_ne_zero h0 (by omega)
  have hsz:off+(cs.length - 1)<c.size:=by
   have:=hc (cs.length - 1) (by omega)
   rw[List.getElem?_eq_getElem (by omega)] at this
   exact (Array.getElem?_eq_some_iff.1 this).1
  refine⟨_,_,_,.arr (o:=off) hb hlc hcs hf (by omega) ?_ (Nat.le_refl _) (fun _=>rfl)⟩
  apply List.ext_getElem?
  intro i
  by_cases hi:i<cs.length
  ·rw[List.getElem?_take_of_lt hi,List.getElem?_drop,Array.getElem?_toList]
   exact hc i hi
  ·rw[List.getElem?_eq_none (by rw[List.length_take];omega),List.getElem?_eq_none (by omega)]
theorem wf_i64 {n:Int} (h:(Lit.int .i64 n).wf=true):-9223372036854775808≤n∧n<9223372036854775808:=by
 simp[Lit.wf] at h
 obtain⟨h1,h2⟩:=h
 have e1:IntKind.i64.min=-9223372036854775808:=by decide
 have e2:IntKind.i64.max=9223372036854775807:=by decide
 omega
theorem zK9 {P:Program} {W:World} {base:Nat} {t e:TypeId} {a:Addr} {len cap:Nat} (ht:P.underlying t=some (.slice e)) (h:Cell.ok P W .any base t (.slice (some a) len cap)):a.spot=none∧∃c T fz,W.heap[a.block]?=some (.cells c T fz):=by
 simp only[Cell.ok,ht,World.has] at h
 obtain⟨_,_,_,hsp,row,cells,hsh,_⟩:=h
 refine⟨hsp,?_⟩
 unfold World.shape? at hsh
 split at hsh
 ·rename_i c elem fz hb
  exact⟨_,_,_,hb⟩
 ·cases hsh
theorem zHL {W:World} {b off i:Nat} {c:Array Value} {T:TypeId} {fz:Nat×Nat} (hb:W.heap[b]?=some (.cells c T fz)) {v:Value} (h:W.cell? (Addr.add ⟨b,off,none⟩ i)=some v):c[off+i]?=some v:=by
 have e:Addr.add ⟨b,off,none⟩ i=⟨b,off+i,none⟩:=add_plain b off i
 rw[e] at h
 unfold World.cell? at h
 rw[hb] at h
 simpa using h
theorem open_cells {P:Program} {W:World} {t:TypeId} {fs:Array Field} {ts:List TypeId} {base:Nat} {x:Value} (ht:P.underlying t=some (.struct fs)) (hc:P.cellsOf t=ts.length) (hcs:P.cellTypes P.depth t=some ts) (h:Value.okWide P W .any base t x) :
  ∃cs:List Value,x=.agg cs.toArray∧All2 (fun u v=>Cell.okWide P W .any base u v) ts cs:=by
 simp only[Value.okWide,ht] at h
 obtain⟨cs,rfl,hs,ts',h1,_,h3⟩:=h
 rw[hcs] at h1
 obtain rfl:=Option.some.inj h1
 refine⟨cs.toList,by simp,All2.of_get (by simp[hs,hc]) fun i h1 h2=>?_⟩
 have e:cs[i]?=some (cs.toList[i]):=by rw[←Array.getElem?_toList,List.getElem?_eq_getElem h2]
 obtain⟨u,hu,g⟩:=h3 i _ e
 rw[Nat.mod_eq_of_lt h1,List.getElem?_eq_getElem h1] at hu
 cases hu
 exact g
theorem cell_str {P:Program} {W:World} {u:TypeId} {base:Nat} {y:Value} (hu:P.underlying u=some .string) (g:Cell.okWide P W .any base u y):∃a,y=.string a:=by
 simp only[Cell.okWide,hu] at g
 cases y<;>simp_all [Cell.ok]
theorem cell_u64 {P:Program} {W:World} {u:TypeId} {base:Nat} {y:Value} (hu:P.underlying u=some (.int .u64)) (g:Cell.okWide P W .any base u y):∃n:Nat,y=.int .u64 (n:Int)∧n<18446744073709551616:=by
 simp only[Cell.okWide,hu] at g
 cases y
 case int k a =>
  simp only[Cell.ok,hu] at g
  obtain⟨rfl,h1,h2⟩:=g
  have e1:IntKind.u64.min=0:=by decide
  have e2:IntKind.u64.max=18446744073709551615:=by decide
  exact⟨a.toNat,by rw[Int.toNat_of_nonneg (by omega)],by omega⟩
 all_goals simp[Cell.ok,hu] at g
theorem cell_sl {P:Program} {W:World} {u e:TypeId} {base:Nat} {y:Value} (hu:P.underlying u=some (.slice e)) (g:Cell.okWide P W .any base u y):Cell.ok P W .any base u y:=by
 simpa only [Cell.okWide,hu] using g
section
variable {H:Type} {enc:TypeId×Value→H} {P:Program} {w:World} {base b0:Nat} {spare:Nat→Bool} {held:Bool}
theorem field_at {fs:Array Field} {t u:TypeId} {o fuel:Nat} {cs:List Value} {x:DataW H×List MemPlace} (ht:P.underlying t=some (.struct fs)) (h:DataW.trod enc P w base spare held fuel t cs=some x) (i:Nat) {f:Field} (hf:fs[i]?=some f) (hu:f.type=u) (ho:f.offset=o) (hc:P.cellsOf u=1) {v:Value} (hv:cs[o]?=some v):∃n y,DataW.trod enc P w base spare held n u [v]=some y:=by
 obtain⟨xs,n,_,_,_,hl,hx⟩:=DataW.trod_struct ht h
 have:=hx i f hf
 have hi:i<fs.size:=(Array.getElem?_eq_some_iff.1 hf).1
 have e:(cs.drop o).take 1=[v]:=by
  obtain⟨h1,h2⟩:=List.getElem?_eq_some_iff.1 hv
  rw[List.drop_eq_getElem_cons h1,h2]
  rfl
 rw[hu,ho,hc,e,List.getElem?_eq_getElem (by omega)] at this
 exact⟨n,_,this⟩
theorem ins_ints {t e:TypeId} {fuel:Nat} {cs:List Value} {x:DataW H×List MemPlace} (ht:P.underlying t=some (.slice e)) (he:P.underlying e=some (.int .i64)) (hc:P.cellsOf e=1) (h:DataW.trod enc P w base spare held fuel t cs=some x) {v:Value} (hv:cs=[v]) (hok:Cell.ok P w .any b0 t v) :
  ∃l y n o k,InS w 1 v y n (zAA l) o k∧(∀q∈l,-9223372036854775808≤q∧q<9223372036854775808)∧l.length≤9223372036854775807:=by
 rcases open_ints ht he hc h with ⟨hcs,_⟩|⟨a,len,cap,zs,hcs,_,hl,hm,hz,_,hcell,hwz⟩
 ·rw[hv] at hcs
  cases hcs
  exact⟨[],_,_,_,_,.nil,by simp,by simp⟩
 ·rw[hv] at hcs
  obtain rfl:v=.slice (some a) len cap:=by simpa using hcs
  obtain⟨hsp,c,T,fz,hb⟩:=zK9 ht hok
  obtain⟨b,off,sp⟩:=a
  obtain rfl:sp=none:=hsp
  have hzl:len≤zs.length:=by rw[hz];split<;>omega
  have hlen:(zAA (zs.take len)).length=len:=by rw[zDy,List.length_take];omega
  obtain⟨y,o,k,hi⟩:=InS.of (e:=1) (he:=by decide) (len:=len) (cap:=cap) (off:=off) (cs:=zAA (zs.take len)) hb hl (by omega) (by
   rw[List.all_eq_true]
   intro q hq
   unfold zAA at hq
   obtain⟨i,_,rfl⟩:=List.mem_map.1 hq
   rfl) (fun i hi=>by
   rw[hlen] at hi
   rw[zHL hb (hcell i (by omega))]
   simp[zAA,List.getElem?_map,List.getElem?_take_of_lt hi,List.getElem?_eq_getElem (show i<zs.length by omega),List.getD_eq_getElem?_getD])
  have hmx:maxLen=9223372036854775807:=by decide
  refine⟨_,_,_,_,_,hi,fun q hq=>wf_i64 (hwz q (List.mem_of_mem_take hq)),?_⟩
  rw[List.length_take]
  omega
theorem ins_tags {t e tr ts:TypeId} {f0 f1:Field} {fuel:Nat} {cs:List Value} {x:DataW H×List MemPlace} (ht:P.underlying t=some (.slice e)) (he:P.underlying e=some (.struct #[f0,f1])) (h0:f0.type=tr∧f0.offset=0) (h1:f1.type=ts∧f1.offset=1) (hr:P.underlying tr=some (.int .i64)) (hs:P.underlying ts=some .string) (hc:P.cellsOf e=2) (hcr:P.cellsOf tr=1) (hcs1:P.cellsOf ts=1)
  (h:DataW.trod enc P w base spare held fuel t cs=some x) {v:Value} (hv:cs=[v]) (hok:Cell.ok P w .any b0 t v) :
  ∃l y n o k,InS w 2 v y n (zw l) o k∧(∀q∈l,inI q.1)∧l.length≤9223372036854775807:=by
 rcases DataW.trod_slice ht h with ⟨hcs,_⟩|⟨a,len,cap,elems,rest,m,_,hcs,_,_,hl,hm,hlen,hel,_⟩
 ·rw[hv] at hcs
  cases hcs
  exact⟨[],_,_,_,_,.nil,by simp,by simp⟩
 ·rw[hv] at hcs
  obtain rfl:v=.slice (some a) len cap:=by simpa using hcs
  obtain⟨hsp,c,T,fz,hb⟩:=zK9 ht hok
  obtain⟨b,off,sp⟩:=a
  obtain rfl:sp=none:=hsp
  have each:∀i,i<len→∃q:Int×List UInt8,inI q.1∧c[off+i*2]?=some (.int .i64 q.1)∧c[off+i*2+1]?=some (.string (strOf q.2)):=fun i hi=>by
   have e1:=hel i hi
   rw[hc,List.getElem?_eq_getElem (by omega),Option.bind_eq_some_iff] at e1
   obtain⟨l2,e2,e3⟩:=e1
   obtain⟨y0,y1,m2,_,e4,e5,e6⟩:=trod_struct2 he e3
   obtain⟨_,e7,e8⟩:=World.cells?_some e2
   rw[h0.1,h0.2,hcr] at e5
   rw[h1.1,h1.2,hcs1] at e6
   obtain⟨r,e9,_,hwr⟩:=DataW.trod_int hr e5
   obtain⟨s,e10,_,_⟩:=DataW.trod_string hs e6
   have c0:=e8 0 (by omega)
   have c1:=e8 1 (by omega)
   have l2e:l2=[.int .i64 r,.string s]:=by
    match l2,e7,e9,e10 with
    | [p,q],_,e9,e10 =>
     simp at e9 e10
     rw[e9,e10]
   rw[l2e] at c0 c1
   have d0:=zHL hb (show w.cell? (Addr.add ⟨b,off,none⟩ (i*2+0))=some (.int .i64 r) from by simpa [add_plain,Nat.add_assoc] using c0)
   have d1:=zHL hb (show w.cell? (Addr.add ⟨b,off,none⟩ (i*2+1))=some (.string s) from by simpa [add_plain,Nat.add_assoc] using c1)
   refine⟨(r,s.data.toList),wf_i64 hwr,by simpa using d0,?_⟩
   rw[strOf_data,Nat.add_assoc]
   exact d1
  have all:∀n,n≤len→∃l:TagL,l.length=n∧(∀q∈l,inI q.1)∧∀i,i<n*2→c[off+i]?=(zw l)[i]?:=by
   intro n
   induction n with
   | zero=>exact fun _=>⟨[],rfl,by simp,fun i hi=>by omega⟩
   | succ n ih =>
    intro hn
    obtain⟨l,hl,hb,hc⟩:=ih (by omega)
    obtain⟨q,hq,c0,c1⟩:=each n (by omega)
    refine⟨l++[q],by simp[hl],fun z hz=>?_,fun i hi=>?_⟩
    ·rcases List.mem_append.1 hz with h|h
     ·exact hb z h
     ·rw[List.mem_singleton.1 h];exact hq
    ·rw[zKW]
     have hL:(zw l).length=n*2:=by rw[zDz,hl]
     by_cases h2:i<n*2
     ·rw[List.getElem?_append_left (by omega)]
      exact hc i h2
     ·rw[List.getElem?_append_right (by omega),hL]
      by_cases h3:i=n*2
      ·subst h3
       rw[Nat.sub_self]
       exact c0
      ·obtain rfl:i=n*2+1:=by omega
       rw[show n*2+1 - n*2=1 by omega]
       exact c1
  obtain⟨l,hl2,hb2,hc2⟩:=all len (Nat.le_refl _)
  obtain⟨y,o,k,hi⟩:=InS.of (e:=2) (he:=by decide) (len:=len) (cap:=cap) (off:=off) (cs:=zw l) hb hl (by rw[zDz,hl2]) (by
   rw[List.all_eq_true]
   intro q hq
   unfold zw at hq
   obtain⟨i,_,hi⟩:=List.mem_flatMap.1 hq
   simp only[List.mem_cons,List.not_mem_nil,or_false] at hi
   rcases hi with rfl|rfl<;>rfl) (fun i hi=>by
   rw[zDz,hl2] at hi
   exact hc2 i hi)
  have hmx:maxLen=9223372036854775807:=by decide
  exact⟨_,_,_,_,_,hi,hb2,by omega⟩
end
end Go.X
end
