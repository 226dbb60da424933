/- A chain: what it tells. -/
import Derived.Test.YtnppabpbdobaiaaGreatProg
import Derived.KernelRfl
import Derived.Test.YtnppabpbdobaiaaGreatXC
import Derived.Test.YtnppabpbdobaiaaGreatXL
import Derived.Test.YtnppabpbdobaiaaGreatXM
set_option linter.unusedSimpArgs false
set_option linter.unusedVariables false
set_option maxHeartbeats 2000000
open Nat renaming reduceLeDiff → zam, reduceEqDiff → zan, reduceAdd → zao
open Int renaming reduceBEq → zap, reduceLT → zaq, reduceLE → zar, reduceGT → zas, reduceGE → zat, reduceEq → zau, reduceAdd → zav, reduceSub → zaw, reduceMul → zax
section
namespace Go.X
open Go.Proofs
abbrev zW0:List XO:=[
 ⟨some 4,.p (.mov (C (.string (strOf [])))),none⟩]
def xq97_0:List XO:=zW0
theorem xq97_0e:E3 xq97_0 zW0:=E3.rfl
abbrev zW1:List XO:=[
 ⟨some 6,.call (.func 75) [],none⟩,
 ⟨some 5,.p (.mov (T 6)),none⟩]
def xq97_1:List XO:=zW1
theorem xq97_1e:E3 xq97_1 zW1:=E3.rfl
abbrev zW2:List XO:=[
 ⟨some 7,.p (.mov (T 5)),none⟩,
 ⟨some 8,.p (.mov (T 0)),none⟩,
 ⟨some 9,.call (.func 76) [(T 7),(T 8)],none⟩]
def xq97_2:List XO:=zW2
theorem xq97_2e:E3 xq97_2 zW2:=E3.rfl
abbrev zW3:List XO:=[
 ⟨some 10,.p (.mov (T 5)),none⟩,
 ⟨some 11,.p (.mov (T 1)),none⟩,
 ⟨some 12,.call (.func 77) [(T 10),(T 11)],none⟩]
def xq97_3:List XO:=zW3
theorem xq97_3e:E3 xq97_3 zW3:=E3.rfl
abbrev zW4:List XO:=[
 ⟨some 13,.p (.mov (T 5)),none⟩,
 ⟨some 14,.call (.func 81) [(T 13)],none⟩,
 ⟨some 15,.a (.bslice [(.string (strOf []))] 1 [(0,1,(T 14))]),none⟩,
 ⟨some 16,.call (.func 160) [(C (.int .u8 71)),(T 15)],none⟩,
 ⟨some 4,.p (.mov (T 16)),none⟩]
def xq97_4:List XO:=zW4
theorem xq97_4e:E3 xq97_4 zW4:=E3.rfl
def xq97:XF:=⟨2,[.tmp 4],
 .seq (.ops xq97_0) (.seq (.ops xq97_1) (.seq (.ops xq97_2) (.seq (.ops xq97_3) (.seq (.ops xq97_4) (.ret)))))⟩
def yq97:=PLift.up (And.intro (And.intro (@xq97_0e) (@xq97_1e)) (And.intro (@xq97_2e) (And.intro (@xq97_3e) (@xq97_4e))))
theorem cq97:zX Tryz.prog Tryz.f97=some xq97:=by kernel_rfl
abbrev zU6:List XO:=[
 ⟨some 2,.p (.mov (C (.slice none 0 0))),none⟩]
def xq59_0:List XO:=zU6
theorem xq59_0e:E3 xq59_0 zU6:=E3.rfl
abbrev zU7:List XO:=[
 ⟨some 3,.p (.mov (T 0)),none⟩,
 ⟨some 4,.p (.eql false .nslice (T 3) (C (.slice none 0 0))),none⟩]
def xq59_1:List XO:=zU7
theorem xq59_1e:E3 xq59_1 zU7:=E3.rfl
abbrev zU8:List XO:=[
 ⟨some 2,.p (.mov (C (.slice none 0 0))),none⟩]
def xq59_2:List XO:=zU8
theorem xq59_2e:E3 xq59_2 zU8:=E3.rfl
abbrev zU9:List XO:=[
 ⟨some 5,.a (.bslice [] 0 []),none⟩,
 ⟨some 6,.p (.mov (T 0)),none⟩,
 ⟨some 7,.e (.append 1 8 (T 5) (T 6)),none⟩,
 ⟨some 2,.p (.mov (T 7)),none⟩]
def xq59_3:List XO:=zU9
theorem xq59_3e:E3 xq59_3 zU9:=E3.rfl
def xq59:XF:=⟨1,[.tmp 2],
 .seq (.ops xq59_0) (.seq (.seq (.ops xq59_1) (.cond (T 4) (.seq (.ops xq59_2) (.ret)) (.skip))) (.seq (.ops xq59_3) (.ret)))⟩
def yq59:=PLift.up (And.intro (And.intro (@xq59_0e) (@xq59_1e)) (And.intro (@xq59_2e) (@xq59_3e)))
theorem cq59:zX Tryz.prog Tryz.f59=some xq59:=by kernel_rfl
end Go.X
end
section
open Go Go.X Go.Proofs Go.RowKit
namespace Go.X
set_option linter.unusedVariables false
structure ChTab (pr:Prog):Prop where
 dec:zFD pr
 mem:zGf pr
 smt:STab pr
 tagged:pr.prim 160=some zB7
 pm:pr.prim 77=none
 pmC:pr.code 77=some xq77
 cl:pr.prim 59=none
 clC:pr.code 59=some xq59
 gen:pr.prim 97=none
 genC:pr.code 97=some xq97
 eq:pr.prim 65=none
 eqC:pr.code 65=some xq65
 tn:pr.prim 16=none
 tnC:pr.code 16=some xq16
 cd:pr.prim 32=none
 cdC:pr.code 32=some xq32
 ce:pr.prim 25=none
 ceC:pr.code 25=some xq25
 cg:pr.prim 93=none
 cgC:pr.code 93=some xq93
 ct:pr.prim 33=none
 ctC:pr.code 33=some xq33
 cb:pr.prim 29=none
 cbC:pr.code 29=some xq29
theorem ChTab.w {pr:Prog} (T:ChTab pr):zAN pr:=T.mem.wire
theorem eqX_ns {a:Option Addr} {n c:Nat}:eqX .nslice (.slice a n c) (.slice none 0 0)=some a.isNone:=by simp[eqX]
theorem zYa {h:Heap} {v:Value} {l:List Int} (hs:zAe h v=some l) {s:Value}:zAt h 1 8 s v=h.append 1 8 s l.length (zAM l):=by
 unfold zAe at hs
 split at hs
 ·rename_i n c
  split at hs
  ·rename_i h0
   cases hs
   simp[zAt,h0,zAM]
  ·cases hs
 ·rename_i a n c
  split at hs
  ·rename_i h0
   cases hs
   simp[zAt,h0,zAM]
  ·rename_i h0
   split at hs
   ·rename_i cs hcs
    obtain⟨rfl,_⟩:=zHg hs
    have hn:l.length=n:=by
     have:=zFu hcs
     rw[zG9] at this
     exact this
    simp only[zAt]
    rw[if_neg h0,Nat.mul_one,hcs,hn]
   ·cases hs
 ·cases hs
theorem zXY (l:List Int):(zAM l).all oneC=true:=by
 rw[List.all_eq_true]
 intro x hx
 unfold zAM at hx
 obtain⟨i,_,rfl⟩:=List.mem_map.1 hx
 rfl
theorem zYR {pr:Prog} (T:ChTab pr) {h:Heap} {v:Value} {l:List Int} (hs:RdInts h v l) (hl:l.length≤1000000) :
  ∃v' h',cfi pr 59 [v] h=some (v',h')∧Own h' (fun A=>h.next≤A) 1 v' l.length (zAM l)∧Grows h h':=by
 have hr64:zU=140737488355328:=rfl
 refine zj T.cl T.clC rfl ?_
 unfold xq59
 dsimp only[zW]
 refine wpk.out (k:=[]) ?_
 obtain⟨hb,a,cap,rfl,hel⟩:=zDK hs.now
 cases a with
 | none =>
  have h0:l.length=0:=by
   have hs:=hs.now
   unfold zAe at hs
   simp only at hs
   split at hs
   ·assumption
   ·cases hs
  obtain rfl:=List.eq_nil_of_length_eq_zero h0
  (repeat (first|refine zP ?_|refine zL ?_|refine zO ?_|refine zC ?_|refine zB ?_|refine zJ ?_|refine zK ?_|refine zM ?_|refine zF ?_|refine zH ?_|refine zG ?_|refine zI (by decide) ?_|refine zN ?_|((first|refine zE ?_|refine zQ ?_|refine zS rfl rfl ?_|refine zR rfl ?_|refine zD ?_);simp only[yq59.down,zA,lemS.down,lemC.down,zap,zao,zam,reduceIte,zan,zaq,zar,zas,zat,zau,zav,zaw,zax,reduceCtorEq,lemH.down,eqX_ns])))
  exact⟨.inr rfl,_,by simp only[yq59.down,zA,lemS.down,lemC.down,zap,zao,zam,reduceIte,zan,zaq,zar,zas,zat,zau,zav,zaw,zax,reduceCtorEq],Own.nil,Grows.refl _⟩
 | some a =>
  have hO:=Own.newSlice (h:=h) (l:=[]) (n:=0) (esz:=1) (sp:=none) rfl (.inl rfl)
  obtain⟨v2,h2,e2,hO2,k2⟩:=hO.append (bytes:=8) (m:=l.length) (new:=zAM l) (by rw[zG9,Nat.mul_one]) (zXY l) (by decide) (by decide) (by omega)
  have hsrc:=zYa (hs _ (Grows.new (l:=[]))) (s:=.slice (some ⟨h.next,0,none⟩) 0 0)
  rw[←hsrc] at e2
  (repeat (first|refine zP ?_|refine zL ?_|refine zO ?_|refine zC ?_|refine zB ?_|refine zJ ?_|refine zK ?_|refine zM ?_|refine zF ?_|refine zH ?_|refine zG ?_|refine zI (by decide) ?_|refine zN ?_|((first|refine zE ?_|refine zQ ?_|refine zS rfl rfl ?_|refine zR rfl ?_|refine zD ?_);simp only[yq59.down,zA,lemS.down,lemC.down,zap,zao,zam,reduceIte,zan,zaq,zar,zas,zat,zau,zav,zaw,zax,reduceCtorEq,lemH.down,eqX_ns,zKU,e2])))
  refine⟨.inr rfl,v2,by simp only[yq59.down,zA,lemS.down,lemC.down,zap,zao,zam,reduceIte,zan,zaq,zar,zas,zat,zau,zav,zaw,zax,reduceCtorEq],?_,Grows.new.then k2 (fun A hA q=>by omega)⟩
  rw[Nat.zero_add,List.nil_append] at hO2
  exact hO2.mono fun A hA=>by
   rcases hA with q|q
   ·omega
   ·have:(h.new []).next=h.next+1:=rfl
    omega
theorem zXA {pr:Prog} (T:ChTab pr) {h:Heap} {b:List UInt8} (hb:b.length≤1000000) {v:Value} {l:List Int} (hs:RdInts h v l) (hl:l.length≤1000000) :
  ∃s h',cfi pr 97 [.string (strOf b),v] h=some (.string (strOf s),h')∧Grows h h':=by
 have hr64:zU=140737488355328:=rfl
 have:∃w h',cfi pr 97 [.string (strOf b),v] h=some (w,h')∧∃s,w=.string (strOf s)∧Grows h h':=by
  refine zj T.gen T.genC rfl ?_
  unfold xq97
  dsimp only[zW]
  refine wpk.out (k:=[]) ?_
  obtain⟨g1,e1,w1,k1⟩:=zGg T.w h
  obtain⟨g2,e2,w2,k2⟩:=zEL T.w w1 (fun A hA=>by have:=k1.next;show h.next≤A;omega) b (by show 0+b.length+8≤zU;omega)
  have k12:Grows h g2:=k1.then k2 (fun A hA q=>by omega)
  obtain⟨g3,e3,w3,k3⟩:=zGh T.w T.pm T.pmC (h0:=h) k12 (S:=fun A=>h.next≤A) (fun A hA q=>by omega) w2 (fun A hA=>by have:=k12.next;show h.next≤A;omega) hs hl (by simp only[List.length_append,zAc,List.length_nil];omega)
  have e4:=WAll_run T.w (N:=h.next) w3
  obtain⟨B,hB⟩:∃B,[]++numB b.length 4++b++zBB l=B:=⟨_,rfl⟩
  have hBl:B.length≤3000000:=by rw[←hB];simp only[List.length_append,zBB,zFx,zAc,List.length_nil];omega
  rw[hB] at e4
  have tg:=zBy T.tagged (zE0 (p:=71) (zH4 (h:=g3) (a:=B)) (by decide) (by simp[zAP,zCu,zAm];omega))
  have tg:cfi pr 160 [.int .u8 71,.slice (some ⟨g3.next,0,none⟩) 1 1] (g3.new [.string (strOf B)])=some (.string (strOf (tagged 71 [B])),_):=tg
  (repeat (first|refine zP ?_|refine zL ?_|refine zO ?_|refine zC ?_|refine zB ?_|refine zJ ?_|refine zK ?_|refine zM ?_|refine zF ?_|refine zH ?_|refine zG ?_|refine zI (by decide) ?_|refine zN ?_|((first|refine zE ?_|refine zQ ?_|refine zS rfl rfl ?_|refine zR rfl ?_|refine zD ?_);simp only[yq97.down,zA,lemS.down,lemC.down,zap,zao,zam,reduceIte,zan,zaq,zar,zas,zat,zau,zav,zaw,zax,reduceCtorEq,lemH.down,e1,e2,e3,e4,zHT,tg])))
  exact⟨.inr rfl,_,by simp only[yq97.down,zA,lemS.down,lemC.down,zap,zao,zam,reduceIte,zan,zaq,zar,zas,zat,zau,zav,zaw,zax,reduceCtorEq],tagged 71 [B],rfl,((k12.then k3 (fun A hA q=>by omega)).trans Grows.new)⟩
 obtain⟨w,h',e,s,rfl,r⟩:=this
 exact⟨s,h',e,r⟩
theorem zW9 {pr:Prog} (T:ChTab pr) {h:Heap} {v1 v2:Value} {l1 l2:List Int} (h1:RdInts h v1 l1) (h2:RdInts h v2 l2) (m1:l1.length≤1000000):∃b,cfi pr 65 [v1,v2] h=some (.bool b,h):=by
 have:∃w h',cfi pr 65 [v1,v2] h=some (w,h')∧h'=h∧∃b,w=.bool b:=by
  refine zj T.eq T.eqC rfl ?_
  unfold xq65
  dsimp only[zW]
  refine wpk.out (k:=[]) ?_
  obtain⟨_,a1,c1,rfl,e1⟩:=zDK h1.now
  obtain⟨_,a2,c2,rfl,e2⟩:=zDK h2.now
  by_cases c0:l1.length=l2.length
  ·have d0:((l1.length:Int)==(l2.length:Int))=true:=by rw[c0];simp
   (repeat (first|refine zP ?_|refine zL ?_|refine zO ?_|refine zC ?_|refine zB ?_|refine zJ ?_|refine zK ?_|refine zM ?_|refine zF ?_|refine zH ?_|refine zG ?_|refine zI (by decide) ?_|refine zN ?_|((first|refine zE ?_|refine zQ ?_|refine zS rfl rfl ?_|refine zR rfl ?_|refine zD ?_);simp only[yq65.down,zA,lemS.down,lemC.down,zap,zao,zam,reduceIte,zan,zaq,zar,zas,zat,zau,zav,zaw,zax,reduceCtorEq,lemH.down,d0,Bool.not_true])))
   refine zAY (fun m f g=>g=h∧∃i,m=l1.length - i∧i≤l1.length∧f.get 0=.slice a1 l1.length c1∧f.get 1=.slice a2 l2.length c2∧f.get 12=.int .i64 (l1.length:Int)∧f.get 13=.int .i64 (i:Int)) ?_ l1.length _ _ ⟨rfl,0,rfl,Nat.zero_le _,by simp only[yq65.down,zA,lemS.down,lemC.down,zap,zao,zam,reduceIte,zan,zaq,zar,zas,zat,zau,zav,zaw,zax,reduceCtorEq],by simp only[yq65.down,zA,lemS.down,lemC.down,zap,zao,zam,reduceIte,zan,zaq,zar,zas,zat,zau,zav,zaw,zax,reduceCtorEq],by simp only[yq65.down,zA,lemS.down,lemC.down,zap,zao,zam,reduceIte,zan,zaq,zar,zas,zat,zau,zav,zaw,zax,reduceCtorEq],by (simp only[yq65.down,zA,lemS.down,lemC.down,zap,zao,zam,reduceIte,zan,zaq,zar,zas,zat,zau,zav,zaw,zax,reduceCtorEq])<;>rfl⟩
   rintro m f g ⟨rfl,i,rfl,hi,t0,t1,t12,t13⟩ hnext
   refine xq65_9k ?_
   dsimp only[zJN]
   by_cases c:i<l1.length
   ·have d:decide ((i:Int)<(l1.length:Int))=true:=decide_eq_true (by omega)
    obtain⟨B1,o1,i1,p1⟩:=e1 i c
    obtain⟨B2,o2,i2,p2⟩:=e2 i (by omega)
    have i1:=i1 .i64
    have i2:=i2 .i64
    have hw1:IntKind.i64.wrap ((i:Int)+1)=((i+1:Nat):Int):=by rw[IntKind.wrap_i64];omega
    by_cases q:l1.getD i 0=l2.getD i 0
    ·have dq:(l1.getD i 0==l2.getD i 0)=true:=by rw[q];simp
     (repeat (first|refine zP ?_|refine zL ?_|refine zO ?_|refine zC ?_|refine zB ?_|refine zJ ?_|refine zK ?_|refine zM ?_|refine zF ?_|refine zH ?_|refine zG ?_|refine zI (by decide) ?_|refine zN ?_|((first|refine zE ?_|refine zQ ?_|refine zS rfl rfl ?_|refine zR rfl ?_|refine zD ?_);simp only[yq65.down,zA,lemS.down,lemC.down,zap,zao,zam,reduceIte,zan,zaq,zar,zas,zat,zau,zav,zaw,zax,reduceCtorEq,lemH.down,t0,t1,t12,t13,d,zBT,i1,i2,p1,p2,dq,Bool.not_true,hw1])))
     exact hnext (l1.length - (i+1)) _ _ (by omega) ⟨rfl,i+1,rfl,c,by simp only[yq65.down,zA,lemS.down,lemC.down,zap,zao,zam,reduceIte,zan,zaq,zar,zas,zat,zau,zav,zaw,zax,reduceCtorEq,t0],by simp only[yq65.down,zA,lemS.down,lemC.down,zap,zao,zam,reduceIte,zan,zaq,zar,zas,zat,zau,zav,zaw,zax,reduceCtorEq,t1],by simp only[yq65.down,zA,lemS.down,lemC.down,zap,zao,zam,reduceIte,zan,zaq,zar,zas,zat,zau,zav,zaw,zax,reduceCtorEq,t12],by simp only[yq65.down,zA,lemS.down,lemC.down,zap,zao,zam,reduceIte,zan,zaq,zar,zas,zat,zau,zav,zaw,zax,reduceCtorEq]⟩
    ·have dq:(l1.getD i 0==l2.getD i 0)=false:=by rw[beq_eq_false_iff_ne];exact q
     (repeat (first|refine zP ?_|refine zL ?_|refine zO ?_|refine zC ?_|refine zB ?_|refine zJ ?_|refine zK ?_|refine zM ?_|refine zF ?_|refine zH ?_|refine zG ?_|refine zI (by decide) ?_|refine zN ?_|((first|refine zE ?_|refine zQ ?_|refine zS rfl rfl ?_|refine zR rfl ?_|refine zD ?_);simp only[yq65.down,zA,lemS.down,lemC.down,zap,zao,zam,reduceIte,zan,zaq,zar,zas,zat,zau,zav,zaw,zax,reduceCtorEq,lemH.down,t0,t1,t12,t13,d,zBT,i1,i2,p1,p2,dq,Bool.not_false])))
     exact⟨.inr rfl,_,by (simp only[yq65.down,zA,lemS.down,lemC.down,zap,zao,zam,reduceIte,zan,zaq,zar,zas,zat,zau,zav,zaw,zax,reduceCtorEq])<;>rfl,rfl,_,rfl⟩
   ·have d:decide ((i:Int)<(l1.length:Int))=false:=decide_eq_false (by omega)
    (repeat (first|refine zP ?_|refine zL ?_|refine zO ?_|refine zC ?_|refine zB ?_|refine zJ ?_|refine zK ?_|refine zM ?_|refine zF ?_|refine zH ?_|refine zG ?_|refine zI (by decide) ?_|refine zN ?_|((first|refine zE ?_|refine zQ ?_|refine zS rfl rfl ?_|refine zR rfl ?_|refine zD ?_);simp only[yq65.down,zA,lemS.down,lemC.down,zap,zao,zam,reduceIte,zan,zaq,zar,zas,zat,zau,zav,zaw,zax,reduceCtorEq,lemH.down,t0,t1,t12,t13,d])))
    exact⟨.inr rfl,_,by (simp only[yq65.down,zA,lemS.down,lemC.down,zap,zao,zam,reduceIte,zan,zaq,zar,zas,zat,zau,zav,zaw,zax,reduceCtorEq])<;>rfl,rfl,_,rfl⟩
  ·have d0:((l1.length:Int)==(l2.length:Int))=false:=by rw[beq_eq_false_iff_ne];omega
   (repeat (first|refine zP ?_|refine zL ?_|refine zO ?_|refine zC ?_|refine zB ?_|refine zJ ?_|refine zK ?_|refine zM ?_|refine zF ?_|refine zH ?_|refine zG ?_|refine zI (by decide) ?_|refine zN ?_|((first|refine zE ?_|refine zQ ?_|refine zS rfl rfl ?_|refine zR rfl ?_|refine zD ?_);simp only[yq65.down,zA,lemS.down,lemC.down,zap,zao,zam,reduceIte,zan,zaq,zar,zas,zat,zau,zav,zaw,zax,reduceCtorEq,lemH.down,d0,Bool.not_false])))
   exact⟨.inr rfl,_,by (simp only[yq65.down,zA,lemS.down,lemC.down,zap,zao,zam,reduceIte,zan,zaq,zar,zas,zat,zau,zav,zaw,zax,reduceCtorEq])<;>rfl,rfl,_,rfl⟩
 obtain⟨w,h',e,rfl,b,rfl⟩:=this
 exact⟨b,e⟩
theorem TNew_run {pr:Prog} (T:ChTab pr) {h:Heap}:cfi pr 16 [] h=some (.pointer (some ⟨h.next,0,none⟩),h.new [.pointer none,.int .i64 0]):=by
 refine zBW T.tn T.tnC rfl ?_
 unfold xq16
 dsimp only[zW]
 refine wpk.out (k:=[]) ?_
 have cp:zl (Value.agg #[.pointer none,.int .i64 0])=[.pointer none,.int .i64 0]:=rfl
 (repeat (first|refine zP ?_|refine zL ?_|refine zO ?_|refine zC ?_|refine zB ?_|refine zJ ?_|refine zK ?_|refine zM ?_|refine zF ?_|refine zH ?_|refine zG ?_|refine zI (by decide) ?_|refine zN ?_|((first|refine zE ?_|refine zQ ?_|refine zS rfl rfl ?_|refine zR rfl ?_|refine zD ?_);simp only[yq16.down,zA,lemS.down,lemC.down,zap,zao,zam,reduceIte,zan,zaq,zar,zas,zat,zau,zav,zaw,zax,reduceCtorEq,lemH.down,zKU,cp])))
 exact⟨.inr rfl,by simp only[yq16.down,zA,lemS.down,lemC.down,zap,zao,zam,reduceIte,zan,zaq,zar,zas,zat,zau,zav,zaw,zax,reduceCtorEq],rfl⟩
def zDE (name hash:List UInt8) (n:Nat) (v1 v2 s t:Value):List Value:=[.string (strOf name),v1,.slice none 0 0,.int .u64 (n:Int),.int .u64 (n:Int),.string (strOf hash),v2,s,t]
theorem CGen_run {pr:Prog} (T:ChTab pr) {h:Heap} {K:Nat} {c:List Value} {name:List UInt8} {v1:Value} {m1:List Int} (hv:Var h K c) (c0:c[0]?=some (.string (strOf name))) (c1:c[1]?=some v1) (hn:name.length≤1000000) (hs:RdInts h v1 m1) (hl:m1.length≤1000000) :
  ∃s h',cfi pr 93 [.pointer (some ⟨K,0,none⟩)] h=some (.string (strOf s),h')∧Grows h h':=by
 have:∃w h',cfi pr 93 [.pointer (some ⟨K,0,none⟩)] h=some (w,h')∧∃s,w=.string (strOf s)∧Grows h h':=by
  refine zj T.cg T.cgC rfl ?_
  unfold xq93
  dsimp only[zW]
  refine wpk.out (k:=[]) ?_
  obtain⟨s,g,e,k⟩:=zXA T (h:=h) hn hs hl
  have l0:∀sp,h.load ⟨K,0,sp⟩=some (.string (strOf name)):=fun sp=>by rw[hv.load,c0]
  have l1:∀sp,h.load ⟨K,1,sp⟩=some v1:=fun sp=>by rw[hv.load,c1]
  (repeat (first|refine zP ?_|refine zL ?_|refine zO ?_|refine zC ?_|refine zB ?_|refine zJ ?_|refine zK ?_|refine zM ?_|refine zF ?_|refine zH ?_|refine zG ?_|refine zI (by decide) ?_|refine zN ?_|((first|refine zE ?_|refine zQ ?_|refine zS rfl rfl ?_|refine zR rfl ?_|refine zD ?_);simp only[yq93.down,zA,lemS.down,lemC.down,zap,zao,zam,reduceIte,zan,zaq,zar,zas,zat,zau,zav,zaw,zax,reduceCtorEq,lemH.down,zAH,l0,l1,e])))
  exact⟨.inr rfl,_,by simp only[yq93.down,zA,lemS.down,lemC.down,zap,zao,zam,reduceIte,zan,zaq,zar,zas,zat,zau,zav,zaw,zax,reduceCtorEq],s,rfl,k⟩
 obtain⟨w,h',e,s,rfl,r⟩:=this
 exact⟨s,h',e,r⟩
theorem zW7 {pr:Prog} (T:ChTab pr) {h:Heap} {K:Nat} {c:List Value} {v:Value} (hv:Var h K c) (c3:c[3]?=some v) :
  cfi pr 29 [.pointer (some ⟨K,0,none⟩)] h=some (v,h):=by
 refine zBW T.cb T.cbC rfl ?_
 unfold xq29
 dsimp only[zW]
 refine wpk.out (k:=[]) ?_
 have l3:∀sp,h.load ⟨K,3,sp⟩=some v:=fun sp=>by rw[hv.load,c3]
 (repeat (first|refine zP ?_|refine zL ?_|refine zO ?_|refine zC ?_|refine zB ?_|refine zJ ?_|refine zK ?_|refine zM ?_|refine zF ?_|refine zH ?_|refine zG ?_|refine zI (by decide) ?_|refine zN ?_|((first|refine zE ?_|refine zQ ?_|refine zS rfl rfl ?_|refine zR rfl ?_|refine zD ?_);simp only[yq29.down,zA,lemS.down,lemC.down,zap,zao,zam,reduceIte,zan,zaq,zar,zas,zat,zau,zav,zaw,zax,reduceCtorEq,lemH.down,zAH,l3])))
 exact⟨.inr rfl,by simp only[yq29.down,zA,lemS.down,lemC.down,zap,zao,zam,reduceIte,zan,zaq,zar,zas,zat,zau,zav,zaw,zax,reduceCtorEq],rfl⟩
theorem CTip_run {pr:Prog} (T:ChTab pr) {h:Heap} {K n:Nat} {name hash:List UInt8} {v1 v2 s t:Value} {m2:List Int} (hv:Var h K (zDE name hash n v1 v2 s t)) (hs:RdInts h v2 m2) (hl:m2.length≤1000000) :
  ∃v h',cfi pr 33 [.pointer (some ⟨K,0,none⟩)] h=some (.agg [.int .u64 (n:Int),.string (strOf hash),v].toArray,h')∧Grows h h':=by
 have:∃w h',cfi pr 33 [.pointer (some ⟨K,0,none⟩)] h=some (w,h')∧∃v,w=.agg [.int .u64 (n:Int),.string (strOf hash),v].toArray∧Grows h h':=by
  refine zj T.ct T.ctC rfl ?_
  unfold xq33
  dsimp only[zW]
  refine wpk.out (k:=[]) ?_
  obtain⟨_,a,c,rfl,_⟩:=zDK hs.now
  obtain⟨g1,hg1,u1,k1,n1⟩:=box5 (h:=h) [.int .u64 0,.string (strOf []),.slice none 0 0]
  obtain⟨g2,hg2,u2,k2,n2⟩:=box5 (h:=g1) [.int .u64 0,.string (strOf []),.slice none 0 0]
  have ld:∀sp,g1.loadN ⟨K,4,sp⟩ 3=some [.int .u64 (n:Int),.string (strOf hash),.slice a m2.length c]:=fun sp=>by
   rw[(hv.grow k1).loadN];rfl
  have s2:zAG g2 3 (.pointer (some ⟨g1.next,0,none⟩)) (.agg [.int .u64 (n:Int),.string (strOf hash),.slice a m2.length c].toArray)=some (.tuple #[],g2.wr g1.next [.int .u64 (n:Int),.string (strOf hash),.slice a m2.length c]):=u2.storeAll rfl rfl (by decide) rfl
  have u3:Var (g2.wr g1.next [.int .u64 (n:Int),.string (strOf hash),.slice a m2.length c]) g1.next [.int .u64 (n:Int),.string (strOf hash),.slice a m2.length c]:=u2.wr
  have k3:Grows h (g2.wr g1.next [.int .u64 (n:Int),.string (strOf hash),.slice a m2.length c]):=(k1.trans k2).wr (by omega)
  have u1':Var (g2.wr g1.next [.int .u64 (n:Int),.string (strOf hash),.slice a m2.length c]) h.next [.int .u64 0,.string (strOf []),.slice none 0 0]:=(u1.grow k2).keep (Keeps.wr (A:=g1.next)) (fun e=>by omega)
  obtain⟨g3,hg3⟩:∃g3,g2.wr g1.next [.int .u64 (n:Int),.string (strOf hash),.slice a m2.length c]=g3:=⟨_,rfl⟩
  rw[hg3] at s2 u3 k3 u1'
  have l2:∀sp,g3.load ⟨g1.next,2,sp⟩=some (.slice a m2.length c):=fun sp=>u3.load
  obtain⟨v4,g4,e4,o4,k4⟩:=zYR T (hs.grow k3) hl
  obtain⟨a4,c4,rfl,_⟩:=o4.shape
  have u4:=u3.grow k4
  have s4:zAG g4 1 (.pointer (some ⟨g1.next,2,none⟩)) (.slice a4 m2.length c4)=some (.tuple #[],g4.wr g1.next [.int .u64 (n:Int),.string (strOf hash),.slice a4 m2.length c4]):=o4.store u4 (by show 2<3;decide)
  have u5:Var (g4.wr g1.next [.int .u64 (n:Int),.string (strOf hash),.slice a4 m2.length c4]) g1.next [.int .u64 (n:Int),.string (strOf hash),.slice a4 m2.length c4]:=u4.wr
  have u5':=(u1'.grow k4).keep (Keeps.wr (A:=g1.next) (l:=[.int .u64 (n:Int),.string (strOf hash),.slice a4 m2.length c4])) (fun e=>by omega)
  obtain⟨g5,hg5⟩:∃g5,g4.wr g1.next [.int .u64 (n:Int),.string (strOf hash),.slice a4 m2.length c4]=g5:=⟨_,rfl⟩
  rw[hg5] at s4 u5 u5'
  have G5:Grows h g5:=by rw[←hg5];exact (k3.trans k4).wr (by omega)
  have l5:∀sp,g5.loadN ⟨g1.next,0,sp⟩ 3=some [.int .u64 (n:Int),.string (strOf hash),.slice a4 m2.length c4]:=fun sp=>u5.loadAll rfl
  have s5:zAG g5 3 (.pointer (some ⟨h.next,0,none⟩)) (.agg [.int .u64 (n:Int),.string (strOf hash),.slice a4 m2.length c4].toArray)=some (.tuple #[],g5.wr h.next [.int .u64 (n:Int),.string (strOf hash),.slice a4 m2.length c4]):=u5'.storeAll rfl rfl (by decide) rfl
  (repeat (first|refine zP ?_|refine zL ?_|refine zO ?_|refine zC ?_|refine zB ?_|refine zJ ?_|refine zK ?_|refine zM ?_|refine zF ?_|refine zH ?_|refine zG ?_|refine zI (by decide) ?_|refine zN ?_|((first|refine zE ?_|refine zQ ?_|refine zS rfl rfl ?_|refine zR rfl ?_|refine zD ?_);simp only[yq33.down,zA,lemS.down,lemC.down,zap,zao,zam,reduceIte,zan,zaq,zar,zas,zat,zau,zav,zaw,zax,reduceCtorEq,lemH.down,zAH,hg1,ld,hg2,s2,l2,e4,s4,l5,s5])))
  exact⟨.inr rfl,_,zZA (a:=⟨h.next,0,none⟩) (by simp only[yq33.down,zA,lemS.down,lemC.down,zap,zao,zam,reduceIte,zan,zaq,zar,zas,zat,zau,zav,zaw,zax,reduceCtorEq]) (u5'.wr.loadAll rfl),_,rfl,G5.wr (by omega)⟩
 obtain⟨w,h',e,v,rfl,r⟩:=this
 exact⟨v,h',e,r⟩
end Go.X
end
section
open Go Go.X Go.Proofs Go.RowKit
namespace Go.X
set_option linter.unusedVariables false
def chB (name:List UInt8) (m1:List Int) (n:Nat) (hash:List UInt8) (m2:List Int) (l:List KV):List UInt8:=zA4 name++zBB m1++numB n 8++zBO hash++zBB m2++zA4 (stB l)
theorem CEnc_run {pr:Prog} (T:ChTab pr) {h:Heap} {K n X R:Nat} {name hash:List UInt8} {v1 v2 t:Value} {m1 m2:List Int} {l:List KV} {st:Option (List Nat×Nat)} (hv:Var h K (zDE name hash n v1 v2 (.pointer (some ⟨X,0,none⟩)) t))
  (hn:n<18446744073709551616) (ln:name.length≤1000) (h1:RdInts h v1 m1) (l1:m1.length≤1000) (h2:RdInts h v2 m2) (l2:m2.length≤1000) (hX:Var h X [.map (some R)]) (hm:MapK h R l st) (hr:Rise l) (hl:l.length≤1024) (hb:∀q∈l,q.1.length≤33∧q.2.length≤64) :
  ∃h',cfi pr 25 [.pointer (some ⟨K,0,none⟩)] h=some (.string (strOf (chB name m1 n hash m2 l)),h')∧Grows h h':=by
 have:∃w h',cfi pr 25 [.pointer (some ⟨K,0,none⟩)] h=some (w,h')∧w=.string (strOf (chB name m1 n hash m2 l))∧Grows h h':=by
  refine zj T.ce T.ceC rfl ?_
  unfold xq25
  dsimp only[zW]
  refine wpk.out (k:=[]) ?_
  have hr64:zU=140737488355328:=rfl
  have lk:=zKx hb
  have TW:=T.w
  obtain⟨g1,e1,w1,k1⟩:=zGg TW h
  have G1:Grows h g1:=k1
  have hS:∀g:Heap,Grows h g→∀A,g.next≤A→h.next≤A:=fun g k A hA=>by have:=k.next;omega
  have hS0:∀A,A<h.next→¬h.next≤A:=fun A hA q=>by omega
  have ld:∀ (g:Heap) (k:Grows h g) (i:Nat) (v:Value),(zDE name hash n v1 v2 (.pointer (some ⟨X,0,none⟩)) t)[i]?=some v→∀sp,g.load ⟨K,i,sp⟩=some v:=fun g k i v hi sp=>by rw[(hv.grow k).load,hi]
  obtain⟨g2,e2,w2,k2⟩:=zEL TW w1 (hS g1 G1) name (by show 0+name.length+8≤zU;omega)
  have G2:Grows h g2:=G1.then k2 hS0
  obtain⟨g3,e3,w3,k3⟩:=zGh TW T.pm T.pmC (h0:=h) G2 (S:=fun A=>h.next≤A) hS0 w2 (hS g2 G2) h1 (by omega) (by simp only[List.length_append,zAc,List.length_nil];omega)
  have G3:Grows h g3:=G2.then k3 hS0
  have mb1:(zBB m1).length=m1.length+1:=by simp[zBB,zAc,zFx];omega
  have mb2:(zBB m2).length=m2.length+1:=by simp[zBB,zAc,zFx];omega
  obtain⟨g4,e4,w4,k4⟩:=zFH TW w3 (hS g3 G3) n 8 hn (by decide) (by simp only[List.length_append,zAc,mb1,List.length_nil];omega)
  have e4:cfi pr 78 [.pointer (some ⟨h.next,0,none⟩),uw .u64 n,.int .i64 8] g3=some (.tuple #[],g4):=e4
  rw[←zCp hn] at e4
  have G4:Grows h g4:=G3.then k4 hS0
  obtain⟨g5,e5,w5,k5⟩:=WHashS TW w4 (hS g4 G4) hash (by simp only[List.length_append,zAc,mb1,List.length_nil];omega)
  have G5:Grows h g5:=G4.then k5 hS0
  obtain⟨g6,e6,w6,k6⟩:=zGh TW T.pm T.pmC (h0:=h) G5 (S:=fun A=>h.next≤A) hS0 w5 (hS g5 G5) h2 (by omega) (by simp only[List.length_append,zAc,mb1,zFm,List.length_nil];omega)
  have G6:Grows h g6:=G5.then k6 hS0
  obtain⟨g7,e7,k7⟩:=SEnc_run T.dec.enc (hX.grow G6) (hm.grow G6) hr hl hb
  have G7:Grows h g7:=G6.trans k7
  have w7:=w6.grow k7
  have ls:(stB l).length≤200000:=by simp only[stB,List.length_append,zAc];omega
  obtain⟨g8,e8,w8,k8⟩:=zEL TW w7 (hS g7 G7) (stB l) (by simp only[List.length_append,zAc,mb1,mb2,zFm,List.length_nil];omega)
  have G8:Grows h g8:=G7.then k8 hS0
  have e9:=WAllS TW w8
  (repeat (first|refine zP ?_|refine zL ?_|refine zO ?_|refine zC ?_|refine zB ?_|refine zJ ?_|refine zK ?_|refine zM ?_|refine zF ?_|refine zH ?_|refine zG ?_|refine zI (by decide) ?_|refine zN ?_|((first|refine zE ?_|refine zQ ?_|refine zS rfl rfl ?_|refine zR rfl ?_|refine zD ?_);simp only[yq25.down,zA,lemS.down,lemC.down,zap,zao,zam,reduceIte,zan,zaq,zar,zas,zat,zau,zav,zaw,zax,reduceCtorEq,lemH.down,zAH,e1,ld h (Grows.refl h) 0 _ rfl,ld g1 G1 0 _ rfl,e2,ld g2 G2 1 _ rfl,e3,ld g3 G3 4 _ rfl,e4,ld g4 G4 5 _ rfl,e5,ld g5 G5 6 _ rfl,e6,ld g6 G6 7 _ rfl,e7,e8,e9])))
  refine⟨.inr rfl,_,by (simp only[yq25.down,zA,lemS.down,lemC.down,zap,zao,zam,reduceIte,zan,zaq,zar,zas,zat,zau,zav,zaw,zax,reduceCtorEq])<;>rfl,?_,G8⟩
  simp only[chB,zA4,List.nil_append,List.append_assoc]
 obtain⟨w,h',e,rfl,r⟩:=this
 exact⟨h',e,r⟩
end Go.X
end
section
open Go Go.X Go.Proofs Go.RowKit
namespace Go.X
set_option linter.unusedVariables false
def ChainOk (h:Heap) (K:Nat) (s:List UInt8):Prop:=∃(name:List UInt8) (m1:List Int) (n:Nat) (hash:List UInt8) (m2:List Int) (l:List KV) (v1 v2:Value) (X R:Nat) (t:Value) (st:Option (List Nat×Nat)),
 Var h K (zDE name hash n v1 v2 (.pointer (some ⟨X,0,none⟩)) t)∧n<18446744073709551616∧name.length≤1000∧RdInts h v1 m1∧m1.length≤1000∧RdInts h v2 m2∧m2.length≤1000∧Var h X [.map (some R)]∧MapK h R l st∧Rise l∧l.length≤1024∧(∀q∈l,q.1.length≤33∧q.2.length≤64)∧chB name m1 n hash m2 l=s
def zGd (h:Heap) (s:List UInt8) (w:Value) (h':Heap):Prop:=Grows h h'∧((∃e:Nat,e≠0∧w=.tuple #[.pointer none,.int .i64 (e:Int)])∨∃K,w=.tuple #[.pointer (some ⟨K,0,none⟩),.int .i64 0]∧ChainOk h' K s)
theorem zCb {l:List XO} {tr:List (Fr×Heap)} {j k:Nat} {d:Option Nat} {gd:Option (Nat×Bool)} {op:ROp} {t t':Fr} {h h':Heap}
  (h1:l[j]?=some ⟨d,.r op,gd⟩) (h2:tr[j]?=some (t,h)) (h3:tr[k]?=some (t',h')) (h4:(zk t h op).isSome=true) (h5:zk t h' op=zk t h op):zAZ l tr j k []=true:=by
 obtain⟨v,hv⟩:=Option.isSome_iff_exists.1 h4
 unfold zAZ
 rw[h1,h2,h3]
 simp only[zBI,h5,hv,zEx,Bool.or_true]
theorem zKC {l:List XO} {tr:List (Fr×Heap)} {j k:Nat} {d:Option Nat} {gd:Option (Nat×Bool)} {op:ROp} {t t':Fr} {h h':Heap}
  (h1:l[j]?=some ⟨d,.r op,gd⟩) (h2:tr[j]?=some (t,h)) (h3:tr[k]?=some (t',h')) (h4:zAD t gd=false):zAZ l tr j k []=true:=by
 unfold zAZ
 rw[h1,h2,h3]
 simp only[h4,Bool.not_false,Bool.true_or]
theorem kont_gen {pr:Prog} {k:List KI} {Q:XE→Fr→Heap→Prop} {f:Fr} {h:Heap} {P:Fr→Prop} (hP:P f) (hw:∀f,P f→kont pr k Q f h):kont pr k Q f h:=hw f hP
set_option maxRecDepth 100000 in
theorem CD_tail {pr:Prog} (T:ChTab pr) {h g:Heap} {s:List UInt8} {K C X R n:Nat} {name hash:List UInt8} {m1 m2:List Int} {l:List KV} {v1 v2:Value} {st:Option (List Nat×Nat)} {S1 S2:Nat→Prop} {u:Fr}
  (t5:u.get 5=.pointer (some ⟨C,0,none⟩)) (t8:u.get 8=.pointer (some ⟨X,0,none⟩)) (vC:Var g C [.pointer (some ⟨K,0,none⟩)]) (vK:Var g K [.string (strOf name),v1,.slice none 0 0,.int .u64 0,.int .u64 (n:Int),.string (strOf hash),v2,.pointer none,.pointer none])
  (hn:n<18446744073709551616) (ln:name.length≤1000) (o1:Own g S1 1 v1 m1.length (zAM m1)) (i1:∀x∈m1,0≤x∧x<256) (hS1:∀A,S1 A→A≠K∧A<g.next) (l1:m1.length≤1000) (o2:Own g S2 1 v2 m2.length (zAM m2)) (i2:∀x∈m2,0≤x∧x<256) (hS2:∀A,S2 A→A≠K∧A<g.next) (l2:m2.length≤1000)
  (vX:Var g X [.map (some R)]) (mR:MapK g R l st) (rise:Rise l) (ll:l.length≤1024) (lq:∀q∈l,q.1.length≤33∧q.2.length≤64) (hs:chB name m1 n hash m2 l=s) (G:Grows h g) (hK:h.next≤K) (kC:K≠C) (kX:K≠X) (kR:K≠R) :
  kont pr [KI.code ((XC.draw zJJ [(0,12,[]),(1,12,[]),(1,15,[]),(2,12,[]),(2,15,[]),(2,18,[]),(3,12,[]),(7,12,[])]).seq (((XC.ops zJK).seq (XC.block 0 (XC.rng (Go.X.T 96) [97,98] 107 ((XC.ops zE4).seq (XC.ops zE5)) (XC.block 1 (XC.ops zE6))))).seq ((XC.ops zJL).seq XC.ret)))]
    (fun e t' h1=>(e=XE.normal∨e=XE.ret)∧∃v,Value.tuple #[t'.get 2,t'.get 3]=v∧zGd h s v h1) u g:=by
 have hCn:C<g.next:=vC.1
 have hKn:K<g.next:=vK.1
 have hXn:X<g.next:=vX.1
 have hRn:R<g.next:=mR.2
 have e1:=TNew_run T (h:=g)
 obtain⟨g1,hg1,vT,k1,n1⟩:=box5 (h:=g) [.pointer none,.int .i64 0]
 rw[hg1] at e1
 have p0:∀sp,g.load ⟨C,0,sp⟩=some (.pointer (some ⟨K,0,none⟩)):=fun sp=>vC.load
 have q4:∀sp,g.load ⟨K,4,sp⟩=some (.int .u64 (n:Int)):=fun sp=>vK.load
 have vK1:=vK.grow k1
 obtain⟨C2,hC2⟩:∃C2:List Value,C2=[.string (strOf name),v1,.slice none 0 0,.int .u64 (n:Int),.int .u64 (n:Int),.string (strOf hash),v2,.pointer none,.pointer none]:=⟨_,rfl⟩
 obtain⟨C3,hC3⟩:∃C3:List Value,C3=[.string (strOf name),v1,.slice none 0 0,.int .u64 (n:Int),.int .u64 (n:Int),.string (strOf hash),v2,.pointer (some ⟨X,0,none⟩),.pointer none]:=⟨_,rfl⟩
 have s1:zAG g1 1 (.pointer (some ⟨K,3,none⟩)) (.int .u64 (n:Int))=some (.tuple #[],g1.wr K C2):=by rw[zY rfl,vK1.store1 (by show 3<9;decide) rfl,hC2];rfl
 obtain⟨g2,hg2⟩:∃g2,g1.wr K C2=g2:=⟨_,rfl⟩
 have vK2:Var g2 K C2:=by rw[←hg2];exact vK1.wr
 have k2:Keeps (fun A=>A=K) g1 g2:=by rw[←hg2];exact Keeps.wr
 rw[hg2] at s1
 have s2:zAG g2 1 (.pointer (some ⟨K,7,none⟩)) (.pointer (some ⟨X,0,none⟩))=some (.tuple #[],g2.wr K C3):=by rw[zY rfl,vK2.store1 (by rw[hC2];show 7<9;decide) rfl,hC2,hC3];rfl
 obtain⟨g3,hg3⟩:∃g3,g2.wr K C3=g3:=⟨_,rfl⟩
 have vK3:Var g3 K C3:=by rw[←hg3];exact vK2.wr
 have k3:Keeps (fun A=>A=K) g2 g3:=by rw[←hg3];exact Keeps.wr
 rw[hg3] at s2
 have s3:zAG g3 1 (.pointer (some ⟨K,8,none⟩)) (.pointer (some ⟨g.next,0,none⟩))=some (.tuple #[],g3.wr K (zDE name hash n v1 v2 (.pointer (some ⟨X,0,none⟩)) (.pointer (some ⟨g.next,0,none⟩)))):=by rw[zY rfl,vK3.store1 (by rw[hC3];show 8<9;decide) rfl,hC3];rfl
 obtain⟨g4,hg4⟩:∃g4,g3.wr K (zDE name hash n v1 v2 (.pointer (some ⟨X,0,none⟩)) (.pointer (some ⟨g.next,0,none⟩)))=g4:=⟨_,rfl⟩
 have vK4:Var g4 K (zDE name hash n v1 v2 (.pointer (some ⟨X,0,none⟩)) (.pointer (some ⟨g.next,0,none⟩))):=by rw[←hg4];exact vK3.wr
 have k4:Keeps (fun A=>A=K) g3 g4:=by rw[←hg4];exact Keeps.wr
 rw[hg4] at s3
 have vC1:=vC.grow k1
 have vC2:=vC1.keep k2 (fun e=>kC e.symm)
 have vC3:=vC2.keep k3 (fun e=>kC e.symm)
 have vC4:=vC3.keep k4 (fun e=>kC e.symm)
 have p1:∀sp,g1.load ⟨C,0,sp⟩=some (.pointer (some ⟨K,0,none⟩)):=fun sp=>vC1.load
 have p2:∀sp,g2.load ⟨C,0,sp⟩=some (.pointer (some ⟨K,0,none⟩)):=fun sp=>vC2.load
 have p3:∀sp,g3.load ⟨C,0,sp⟩=some (.pointer (some ⟨K,0,none⟩)):=fun sp=>vC3.load
 have q41:∀sp,g1.load ⟨K,4,sp⟩=some (.int .u64 (n:Int)):=fun sp=>vK1.load
 have k14:Keeps (fun A=>A=K) g1 g4:=(k2.trans k3 (fun _ _ e=>e)).trans k4 (fun _ _ e=>e)
 have k04:Keeps (fun A=>A=K) g g4:=k1.keeps.trans k14 (fun _ _ e=>e)
 have n4:=k14.next
 have sa:=zJb T.dec.enc (h:=g4) (X:=X)
 (repeat (first|refine zP ?_|refine zL ?_|refine zO ?_|refine zC ?_|refine zB ?_|refine zJ ?_|refine zK ?_|refine zM ?_|refine zF ?_|refine zH ?_|refine zG ?_|refine zI (by decide) ?_|refine zN ?_|((first|refine zE ?_|refine zQ ?_|refine zR rfl ?_|refine zD ?_);simp only[yq32.down,zA,lemS.down,lemC.down,zap,zao,zam,reduceIte,zan,zaq,zar,zas,zat,zau,zav,zaw,zax,reduceCtorEq,lemH.down,t5,t8,p0,q4,e1,s1,s2,s3])))
 refine⟨⟨?_,?_,?_,?_,?_⟩,⟨?_,?_⟩,?_,?_⟩
 ·(refine zAa rfl rfl rfl ?_ ?_<;>simp only[yq32.down,zA,lemS.down,lemC.down,zap,zao,zam,reduceIte,zan,zaq,zar,zas,zat,zau,zav,zaw,zax,reduceCtorEq,lemH.down,t5,p0,p1,zAA,zz,zAB,z8,zw,Option.isSome_some])
 ·(refine zAa rfl rfl rfl ?_ ?_<;>simp only[yq32.down,zA,lemS.down,lemC.down,zap,zao,zam,reduceIte,zan,zaq,zar,zas,zat,zau,zav,zaw,zax,reduceCtorEq,lemH.down,t5,p0,p1,zAA,zz,zAB,z8,zw,Option.isSome_some])
 ·(refine zAa rfl rfl rfl ?_ ?_<;>simp only[yq32.down,zA,lemS.down,lemC.down,zap,zao,zam,reduceIte,zan,zaq,zar,zas,zat,zau,zav,zaw,zax,reduceCtorEq,lemH.down,t5,p0,p1,zAA,zz,zAB,z8,zw,Option.isSome_some])
 ·(refine zAa rfl rfl rfl ?_ ?_<;>simp only[yq32.down,zA,lemS.down,lemC.down,zap,zao,zam,reduceIte,zan,zaq,zar,zas,zat,zau,zav,zaw,zax,reduceCtorEq,lemH.down,t5,p0,p1,zAA,zz,zAB,z8,zw,Option.isSome_some])
 ·(refine zAa rfl rfl rfl ?_ ?_<;>simp only[yq32.down,zA,lemS.down,lemC.down,zap,zao,zam,reduceIte,zan,zaq,zar,zas,zat,zau,zav,zaw,zax,reduceCtorEq,lemH.down,q4,q41,zAA,zz,zAB,z8,zw,Option.isSome_some])
 ·(refine zAa rfl rfl rfl ?_ ?_<;>simp only[yq32.down,zA,lemS.down,lemC.down,zap,zao,zam,reduceIte,zan,zaq,zar,zas,zat,zau,zav,zaw,zax,reduceCtorEq,lemH.down,t5,p0,p1,p2,zAA,zz,zAB,z8,zw,Option.isSome_some])
 ·(refine zAa rfl rfl rfl ?_ ?_<;>simp only[yq32.down,zA,lemS.down,lemC.down,zap,zao,zam,reduceIte,zan,zaq,zar,zas,zat,zau,zav,zaw,zax,reduceCtorEq,lemH.down,t5,p0,p1,p2,zAA,zz,zAB,z8,zw,Option.isSome_some])
 ·(refine zAa rfl rfl rfl ?_ ?_<;>simp only[yq32.down,zA,lemS.down,lemC.down,zap,zao,zam,reduceIte,zan,zaq,zar,zas,zat,zau,zav,zaw,zax,reduceCtorEq,lemH.down,t5,p0,p1,p2,p3,zAA,zz,zAB,z8,zw,Option.isSome_some])
 (repeat (first|refine zP ?_|refine zL ?_|refine zO ?_|refine zC ?_|refine zB ?_|refine zJ ?_|refine zK ?_|refine zM ?_|refine zF ?_|refine zH ?_|refine zG ?_|refine zI (by decide) ?_|refine zN ?_|((first|refine zE ?_|refine zQ ?_|refine zR rfl ?_|refine zD ?_);simp only[yq32.down,zA,lemS.down,lemC.down,zap,zao,zam,reduceIte,zan,zaq,zar,zas,zat,zau,zav,zaw,zax,reduceCtorEq,lemH.down,t5,t8,sa])))
 generalize hg5:g4.new [ptr X]=g5
 have n5:g5.next=g4.next+1:=by rw[←hg5];rfl
 have k5:Grows g4 g5:=by rw[←hg5];exact Grows.new
 have v5:Var g5 g4.next [ptr X]:=by rw[←hg5];exact Var.new_self
 refine zIl (P:=fun f=>f.get 5=.pointer (some ⟨C,0,none⟩)∧f.get 96=.func (.func 154) #[] #[ptr g4.next]) ⟨by simp only[yq32.down,zA,lemS.down,lemC.down,zap,zao,zam,reduceIte,zan,zaq,zar,zas,zat,zau,zav,zaw,zax,reduceCtorEq,t5],by (simp only[yq32.down,zA,lemS.down,lemC.down,zap,zao,zam,reduceIte,zan,zaq,zar,zas,zat,zau,zav,zaw,zax,reduceCtorEq])<;>rfl⟩ ?_
 rintro f ⟨t5,t96⟩
 obtain⟨r,hrec⟩:∃r:XL,r=⟨f,107,[97,98],(XC.ops zE4).seq (XC.ops zE5),.block 1 (XC.ops zE6),.ready,none⟩:=⟨_,rfl⟩
 obtain⟨gL,hgL⟩:∃gL,gL=g5.pushLoop r:=⟨_,rfl⟩
 have kL:Grows g5 gL:=by rw[hgL];exact Grows.loop
 have nL:gL.next=g5.next+1:=by rw[hgL];rfl
 have bL:gL.blks.get g5.next=some (.loop r):=by rw[hgL];exact zK3
 have k4L:Grows g4 gL:=k5.trans kL
 have vXL:=(vX.keep k04 (fun e=>kX e.symm)).grow k4L
 have mRL:=(mR.keep k04 (fun e=>kR e.symm)).grow k4L
 have vTL:=(vT.keep k14 (fun e=>by omega)).grow k4L
 have vCL:=vC4.grow k4L
 have vKL:=vK4.grow k4L
 have o1L:=(o1.keep k04 (fun A hA e=>(hS1 A hA).1 e)).grow k4L
 have o2L:=(o2.keep k04 (fun A hA e=>(hS2 A hA).1 e)).grow k4L
 have GL:Grows h gL:=(G.then k04 (fun A hA e=>by omega)).trans k4L
 have hgn:=G.next
 let W:Nat→Prop:=fun A=>A=g.next∨A=g5.next
 obtain⟨gE,eE,bE,kE⟩:=zJU T.dec.enc.all (A:=g5.next) (v5.grow kL) vXL mRL rise (by omega) (fun q hq=>by have:=lq q hq;omega)
  (Post:=fun g2=>g2.blks.get g5.next=some (.loop r)∧Keeps W gL g2) (fun h1 k1'=>by
  have n1':=k1'.next
  refine⟨fun i x=>(∃rt m t,Var x g.next [rt,.int .i64 m]∧IsT x (fun A=>A≠g.next∧A≠g5.next) t rt∧WT t 0 (fun _=>0)∧0≤m∧m≤(i:Int))∧x.blks.get g5.next=some (.loop r)∧h1.next≤x.next,W,⟨⟨_,_,.nil,vTL.grow k1',rfl,trivial,Int.le_refl _,Int.le_refl _⟩,?_,Nat.le_refl _⟩,?_,?_,?_⟩
  ·rw[k1'.blks g5.next (by omega)];exact bL
  ·intro A hA hW
   rcases hW with hW|hW<;>rcases hA with hA|hA|hA|hA<;>omega
  ·rintro i x q hq ⟨⟨rt,m,t,jv,jt,jw,jm⟩,jb,jn⟩ kx
   have hi:i<l.length:=(List.getElem?_eq_some_iff.1 hq).1
   have hbq:=lq q (List.mem_of_getElem? hq)
   have hr64:zU=140737488355328:=rfl
   refine cyl_wp jb (by rw[hrec];rfl) ?_
   rw[hrec]
   refine wpk.out (k:=[]) ?_
   show wpk pr _ _ _ ((f.set 97 _).set 98 _) x
   (repeat (first|refine zP ?_|refine zL ?_|refine zO ?_|refine zC ?_|refine zB ?_|refine zJ ?_|refine zK ?_|refine zM ?_|refine zF ?_|refine zH ?_|refine zG ?_|refine zI (by decide) ?_|refine zN ?_|((first|refine zE ?_|refine zQ ?_|refine zR rfl ?_|refine zD ?_);simp only[yq32.down,zA,lemS.down,lemC.down,zap,zao,zam,reduceIte,zan,zaq,zar,zas,zat,zau,zav,zaw,zax,reduceCtorEq,lemH.down])))
   refine⟨rfl,_,jb,by rw[hrec],?_⟩
   rw[hrec]
   refine wpk.out (k:=[]) ?_
   obtain⟨rb,hrb⟩:∃rb:XL,rb=⟨f,107,[97,98],(XC.ops zE4).seq (XC.ops zE5),.block 1 (XC.ops zE6),.busy,none⟩:=⟨_,rfl⟩
   rw[←hrb]
   obtain⟨gb,hgb⟩:∃gb,gb=x.setBlk g5.next (.loop rb):=⟨_,rfl⟩
   have kb:Keeps (fun C=>C=g5.next) x gb:=by rw[hgb];exact Keeps.setBlk
   have bb:gb.blks.get g5.next=some (.loop rb):=by rw[hgb];exact zC3
   have nb:gb.next=x.next:=by rw[hgb];rfl
   rw[←hgb]
   have wv:=jv.keep kb (fun e=>by omega)
   have wt:=IsT.keep kb (fun A hA e=>hA.2 e) jt
   have kxb:Keeps W h1 gb:=Keeps.trans kx kb fun _ _ e=>.inr e
   have lC:∀sp,gb.load ⟨C,0,sp⟩=some (.pointer (some ⟨K,0,none⟩)):=fun sp=>((vCL.grow k1').keep kxb (fun e=>by rcases e with e|e<;>omega)).load
   have lK:∀sp,gb.load ⟨K,8,sp⟩=some (.pointer (some ⟨g.next,0,none⟩)):=fun sp=>((vKL.grow k1').keep kxb (fun e=>by rcases e with e|e<;>omega)).load
   obtain⟨rt',m',t',gc,ec,cv,ct,cw,cm,kc⟩:=Put_run T.smt wv (fun A hA=>hA.1) wt jw (by omega) (key:=q.1) (val:=q.2) (by omega) (by omega)
   unfold ptr at ec
   have nc:=kc.next
   have bc:gc.blks.get g5.next=some (.loop rb):=by rw[kc.blks g5.next (by omega) (fun e=>by omega)];exact bb
   (repeat (first|refine zP ?_|refine zL ?_|refine zO ?_|refine zC ?_|refine zB ?_|refine zJ ?_|refine zK ?_|refine zM ?_|refine zF ?_|refine zH ?_|refine zG ?_|refine zI (by decide) ?_|refine zN ?_|((first|refine zE ?_|refine zQ ?_|refine zR rfl ?_|refine zD ?_);simp only[yq32.down,zA,lemS.down,lemC.down,zap,zao,zam,reduceIte,zan,zaq,zar,zas,zat,zau,zav,zaw,zax,reduceCtorEq,lemH.down,t5,lC,lK,ec])))
   refine⟨rfl,rb,bc,?_⟩
   obtain⟨gf,hgf⟩:∃gf,gf=gc.setBlk g5.next (.loop { rb with st:=.ready,pend:=none }):=⟨_,rfl⟩
   have kf:Keeps (fun C=>C=g5.next) gc gf:=by rw[hgf];exact Keeps.setBlk
   have bf:gf.blks.get g5.next=some (.loop { rb with st:=.ready,pend:=none }):=by rw[hgf];exact zC3
   have nf:gf.next=gc.next:=by rw[hgf];rfl
   rw[←hgf]
   have er:({ rb with st:=.ready,pend:=none }:XL)=r:=by rw[hrb,hrec]
   rw[er,hrec] at bf
   refine⟨⟨⟨rt',m',t',cv.keep kf (fun e=>by omega),IsT.keep kf (fun A hA e=>hA.2 e) (ct.mono fun A hA=>?_),cw,by omega,by omega⟩,bf,by omega⟩,?_⟩
   ·rcases hA with hA|hA
    ·exact hA
    ·exact⟨by omega,by omega⟩
   ·exact ((kb.mono fun _ _ e=>.inr e).trans (kc.mono fun _ _ e=>.inl e) (fun _ _ e=>e)).trans (kf.mono fun _ _ e=>.inr e) (fun _ _ e=>e)
  ·rintro x ⟨_,jb,jn⟩ kx
   exact⟨jb,(k1'.keeps.mono fun _ _ e=>False.elim e).trans kx (fun _ _ e=>e)⟩)
 have hf:f.eval (.tmp 96)=.func (.func 154) #[] #[ptr g4.next]:=t96
 rw[hgL,hrec] at eE
 rw[hrec] at bE
 refine zMY hf eE bE (fun e=>by cases e) ?_
 refine (?_:kont pr _ _ f _).out
 generalize hgz:gE.setBlk g5.next _=gz
 have kz:Keeps (fun C=>C=g5.next) gE gz:=by rw[←hgz];exact Keeps.setBlk
 have kLz:Keeps W gL gz:=kE.trans kz (fun _ _ e=>.inr e)
 have nz:=kLz.next
 have W1:∀A,A<g.next→¬W A:=fun A hA e=>by rcases e with e|e<;>omega
 have lz:∀sp,gz.load ⟨C,0,sp⟩=some (.pointer (some ⟨K,0,none⟩)):=fun sp=>(vCL.keep kLz (W1 C hCn)).load
 (repeat (first|refine zP ?_|refine zL ?_|refine zO ?_|refine zC ?_|refine zB ?_|refine zJ ?_|refine zK ?_|refine zM ?_|refine zF ?_|refine zH ?_|refine zG ?_|refine zI (by decide) ?_|refine zN ?_|((first|refine zE ?_|refine zQ ?_|refine zR rfl ?_|refine zD ?_);simp only[yq32.down,zA,lemS.down,lemC.down,zap,zao,zam,reduceIte,zan,zaq,zar,zas,zat,zau,zav,zaw,zax,reduceCtorEq,lemH.down,t5,lz])))
 refine⟨.inr rfl,_,by simp only[yq32.down,zA,lemS.down,lemC.down,zap,zao,zam,reduceIte,zan,zaq,zar,zas,zat,zau,zav,zaw,zax,reduceCtorEq],GL.then kLz (fun A hA e=>by rcases e with e|e<;>omega),.inr ⟨K,rfl,name,m1,n,hash,m2,l,v1,v2,X,R,_,st,vKL.keep kLz (W1 K hKn),hn,ln,?_,l1,?_,l2,vXL.keep kLz (W1 X hXn),mRL.keep kLz (W1 R hRn),rise,ll,lq,hs⟩⟩
 ·exact (o1L.keep kLz (fun A hA=>W1 A (hS1 A hA).2)).rdInts fun x hx=>by have:=i1 x hx;omega
 ·exact (o2L.keep kLz (fun A hA=>W1 A (hS2 A hA).2)).rdInts fun x hx=>by have:=i2 x hx;omega
end Go.X
end
