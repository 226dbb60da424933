/- The digest: what is written and what is summed; tags. -/
import Derived.Test.YtnppabpbdobaiaaGreatXC
import Derived.Test.YtnppabpbdobaiaaGreatXD
import Derived.Test.YtnppabpbdobaiaaGreatXE
set_option linter.unusedSimpArgs false
set_option linter.unusedVariables false
set_option maxHeartbeats 2000000
open Nat renaming reduceLeDiff → zam, reduceEqDiff → zan, reduceAdd → zao
open Int renaming reduceBEq → zap, reduceLT → zaq, reduceLE → zar, reduceGT → zas, reduceGE → zat, reduceEq → zau, reduceAdd → zav, reduceSub → zaw, reduceMul → zax
section
open Go Go.X
namespace Go.X
set_option linter.unusedVariables false
def zn (hs:List Nat) (v:Value) (n:Nat):List Value:=hs.map (uw .u32)++[v,uw .u64 n]
theorem zCF {hs:List Nat} (h8:hs.length=8) {v:Value} {n:Nat}:(zn hs v n).length=10:=by simp[zn,h8]
theorem zCd {hs:List Nat} (h8:hs.length=8) {v:Value} {n:Nat}:(zn hs v n)[8]?=some v:=by
 unfold zn;rw[List.getElem?_append_right (by simp[h8])];simp[h8]
theorem zHI {hs:List Nat} (h8:hs.length=8) {v:Value} {n:Nat}:(zn hs v n)[9]?=some (uw .u64 n):=by
 unfold zn;rw[List.getElem?_append_right (by simp[h8])];simp[h8]
theorem zEU {hs:List Nat} (h8:hs.length=8) {v w:Value} {n:Nat}:(zn hs v n).set 8 w=zn hs w n:=by
 unfold zn;rw[List.set_append_right _ _ (by simp[h8])];simp[h8]
theorem zXy {hs:List Nat} (h8:hs.length=8) {v:Value} {n m:Nat}:(zn hs v n).set 9 (uw .u64 m)=zn hs v m:=by
 unfold zn;rw[List.set_append_right _ _ (by simp[h8])];simp[h8]
def Dig (h:Heap) (N D:Nat) (hs:List Nat) (r:List UInt8) (n:Nat):Prop :=
 hs.length=8∧N≤D∧∃v,Var h D (zn hs v n)∧Own h (fun A=>N≤A∧A≠D) 1 v r.length (zV r)
theorem Dig.keep {W:Nat→Prop} {h h':Heap} {N D n:Nat} {hs:List Nat} {r:List UInt8} (hd:Dig h N D hs r n) (hk:Keeps W h h') (hW:∀A,N≤A→¬W A):Dig h' N D hs r n:=by
 obtain⟨h1,h2,v,h3,h4⟩:=hd
 exact⟨h1,h2,v,h3.keep hk (hW D h2),h4.keep hk fun A hA=>hW A hA.1⟩
theorem zFJ:∀ (i:Nat) {h:List Nat} {b:List UInt8},h.length=8→(absorb i h b).length=8
 | 0,h,b,h8=>h8
 | i+1,h,b,h8=>zFJ i (by
  unfold Sha.block
  rw[show Sha.sched 64 (winB b)=Sha.ext (winB b) 48 from Sha.sched_ext 48 _ (zC6 _)]
  have hw:(Sha.ext (winB b) 48).length=64:=by rw[Sha.ext_len,winB,zC6]
  have hr:(Sha.rounds Sha.K (Sha.ext (winB b) 48) h).length=8:=by rw[←zII hw];exact zGC hw h8 64 (by omega)
  rw[zEM _ _ (by rw[hr,h8]),h8])
theorem zJW (pr:Prog) (hb:pr.prim 221=some (za zEP)) (hn:pr.prim 194=none) (hc:pr.code 194=some xq194) (h:Heap) :
  ∃v h',cfi pr 194 [] h=some (v,h')∧v=.pointer (some ⟨h.next,0,none⟩)∧Dig h' h.next h.next Sha.H0 [] 0∧Grows h h':=by
 refine zj hn hc rfl ?_
 unfold xq194
 dsimp only[zW]
 refine wpk.out (k:=[]) ?_
 (repeat (first|refine zP ?_|refine zL ?_|refine zO ?_|refine zC ?_|refine zB ?_|refine zJ ?_|refine zK ?_|refine zM ?_|refine zF ?_|refine zH ?_|refine zG ?_|refine zI (by decide) ?_|refine zN ?_|((first|refine zE ?_|refine zQ ?_|refine zS rfl rfl ?_|refine zR rfl ?_|refine zD ?_);simp only[yq194.down,zA,lemS.down,lemC.down,zap,zao,zam,reduceIte,zan,zaq,zar,zas,zat,zau,zav,zaw,zax,reduceCtorEq,zc,zY,lemH.down,zAQ hb (s:=zEP) (args:=[]) rfl])))
 refine zIi (v:=.agg (zn Sha.H0 (.slice none 0 0) 0).toArray) (by kernel_rfl) ?_
 dsimp only
 simp only[yq194.down,zA,lemS.down,lemC.down,zap,zao,zam,reduceIte,zan,zaq,zar,zas,zat,zau,zav,zaw,zax,reduceCtorEq,zc,zY,lemH.down]
 (repeat (first|refine zP ?_|refine zL ?_|refine zO ?_|refine zC ?_|refine zB ?_|refine zJ ?_|refine zK ?_|refine zM ?_|refine zF ?_|refine zH ?_|refine zG ?_|refine zI (by decide) ?_|refine zN ?_|((first|refine zE ?_|refine zQ ?_|refine zS rfl rfl ?_|refine zR rfl ?_|refine zD ?_);simp only[yq194.down,zA,lemS.down,lemC.down,zap,zao,zam,reduceIte,zan,zaq,zar,zas,zat,zau,zav,zaw,zax,reduceCtorEq,zc,zY,lemH.down])))
 exact⟨.inr rfl,_,rfl,rfl,⟨rfl,Nat.le_refl _,_,Var.new_self,Own.nil⟩,Grows.new⟩
theorem zJf (pr:Prog) (hp:pr.prim 247=some (za zBG)) (hw:pr.prim 246=some zB9) (hk:pr.prim 245=some (za zCc)) (hb:pr.prim 222=none) (hc:pr.code 222=some zDe)
  (hn:pr.prim 195=none) (hcw:pr.code 195=some xq195) (h:Heap) (N D n:Nat) (hs:List Nat) (r s:List UInt8) (hd:Dig h N D hs r n) (hroom:r.length+s.length≤zU) :
  ∃v h',cfi pr 195 [.pointer (some ⟨D,0,none⟩),.string (strOf s)] h=some (v,h')∧v=.tuple #[]∧Dig h' N D (absorb ((r++s).length / 64) hs (r++s)) ((r++s).drop (64*((r++s).length / 64))) (n+s.length)∧Keeps (fun A=>N≤A) h h':=by
 refine zj hn hcw rfl ?_
 unfold xq195
 dsimp only[zW]
 refine wpk.out (k:=[]) ?_
 obtain⟨h8,hND,v,hD,hO⟩:=hd
 have hlt:D<h.next:=hD.1
 have i8:=fun (v:Value) (n:Nat)=>zCd (v:=v) (n:=n) h8
 have i9:=fun (v:Value) (n:Nat)=>zHI (v:=v) (n:=n) h8
 have st9:=hD.store1 (i:=9) (v:=uw .u64 (n+s.length)) (sp:=none) (by rw[zCF h8];decide) rfl
 rw[zXy h8] at st9
 have hD1:=hD.wr (m:=zn hs v (n+s.length))
 have hO1:=hO.keep (Keeps.wr (A:=D) (l:=zn hs v (n+s.length))) (fun A hA=>hA.2)
 have hk1:Keeps (fun A=>N≤A) h (h.wr D (zn hs v (n+s.length))):=Keeps.wr.mono fun A _ e=>e▸hND
 have hn1:(h.wr D (zn hs v (n+s.length))).next=h.next:=rfl
 (repeat (first|refine zP ?_|refine zL ?_|refine zO ?_|refine zC ?_|refine zB ?_|refine zJ ?_|refine zK ?_|refine zM ?_|refine zF ?_|refine zH ?_|refine zG ?_|refine zI (by decide) ?_|refine zN ?_|((first|refine zE ?_|refine zQ ?_|refine zS rfl rfl ?_|refine zR rfl ?_|refine zD ?_);simp only[yq195.down,zA,lemS.down,lemC.down,zap,zao,zam,reduceIte,zan,zaq,zar,zas,zat,zau,zav,zaw,zax,reduceCtorEq,zc,zY,lemH.down,lemW.down,zBj,hD.load,i9,st9,zE2 zGV])))
 obtain⟨v2,h2,e2,hO2,k2⟩:=hO1.append (bytes:=1) (m:=s.length) (new:=zV s) (by simp[zCE]) zFV (by decide) (by decide) (by omega)
 have hD2:=hD1.keep k2 (fun e=>e.2 rfl)
 rw[←zDF] at hO2
 have hO2:Own h2 (fun A=>N≤A∧A≠D) 1 v2 (r++s).length (zV (r++s)):=by
  rw[List.length_append];exact hO2.mono fun A hA=>by
   rcases hA with hA|hA
   ·exact hA
   ·rw[hn1] at hA;exact⟨by omega,by omega⟩
 have hk2:=hk1.trans k2 (fun A _ e=>e.1)
 have st8:=hO2.store (i:=8) hD2 (by rw[zCF h8];decide)
 rw[zEU h8] at st8
 simp only[yq195.down,zA,lemS.down,lemC.down,zap,zao,zam,reduceIte,zan,zaq,zar,zas,zat,zau,zav,zaw,zax,reduceCtorEq,zc,zY,lemH.down,hD1.load,i8,e2,st8]
 have hD3:=hD2.wr (m:=zn hs v2 (n+s.length))
 have hO3:=hO2.keep (Keeps.wr (A:=D) (l:=zn hs v2 (n+s.length))) (fun A hA=>hA.2)
 have hk3:=hk2.trans (Keeps.wr (A:=D) (l:=zn hs v2 (n+s.length))) (fun A _ e=>e▸hND)
 generalize h2.wr D (zn hs v2 (n+s.length))=h3 at *
 clear hD2 hO2 hk2 st8 k2 e2 hD1 hO1 hk1 st9 hD hO
 generalize hb0:r++s=b at *
 generalize n+s.length=n' at *
 (repeat (first|refine zP ?_|refine zL ?_|refine zO ?_|refine zC ?_|refine zB ?_|refine zJ ?_|refine zK ?_|refine zM ?_|refine zF ?_|refine zH ?_|refine zG ?_|refine zI (by decide) ?_|refine zN ?_|((first|refine zE ?_|refine zQ ?_|refine zS rfl rfl ?_|refine zR rfl ?_|refine zD ?_);simp only[yq195.down,zA,lemS.down,lemC.down,zap,zao,zam,reduceIte,zan,zaq,zar,zas,zat,zau,zav,zaw,zax,reduceCtorEq,zc,zY,lemH.down])))
 refine zAY (fun m t g=>∃i v,m=b.length - 64*i∧64*i≤b.length∧(absorb i hs b).length=8∧Var g D (zn (absorb i hs b) v n')∧Own g (fun A=>N≤A∧A≠D) 1 v (b.drop (64*i)).length (zV (b.drop (64*i)))∧Keeps (fun A=>N≤A) h g∧t.get 0=.pointer (some ⟨D,0,none⟩)) ?_ b.length _ _ ⟨0,v2,rfl,by omega,h8,hD3,hO3,hk3,by simp only[yq195.down,zA,lemS.down,lemC.down,zap,zao,zam,reduceIte,zan,zaq,zar,zas,zat,zau,zav,zaw,zax,reduceCtorEq]⟩
 rintro m t g ⟨i,v,rfl,hi,g8,gD,gO,gk,t0⟩ hnext
 refine xq195_6k ?_
 dsimp only[zIu]
 have i8:=fun (v:Value) (n:Nat)=>zCd (v:=v) (n:=n) g8
 (repeat (first|refine zP ?_|refine zL ?_|refine zO ?_|refine zC ?_|refine zB ?_|refine zJ ?_|refine zK ?_|refine zM ?_|refine zF ?_|refine zH ?_|refine zG ?_|refine zI (by decide) ?_|refine zN ?_|((first|refine zE ?_|refine zQ ?_|refine zS rfl rfl ?_|refine zR rfl ?_|refine zD ?_);simp only[yq195.down,zA,lemS.down,lemC.down,zap,zao,zam,reduceIte,zan,zaq,zar,zas,zat,zau,zav,zaw,zax,reduceCtorEq,zc,zY,lemH.down,t0,gD.load,i8,gO.lenV])))
 refine⟨fun hlt=>?_,fun hge=>?_⟩
 ·have hlt':64≤(b.drop (64*i)).length:=by omega
  obtain⟨v3,e3,o3⟩:=gO.to (j:=64) (k:=.i64) hlt'
  have e3':zAq 1 v none (some (.int .i64 64)) none=some v3:=e3
  (repeat (first|refine zP ?_|refine zL ?_|refine zO ?_|refine zC ?_|refine zB ?_|refine zJ ?_|refine zK ?_|refine zM ?_|refine zF ?_|refine zH ?_|refine zG ?_|refine zI (by decide) ?_|refine zN ?_|((first|refine zE ?_|refine zQ ?_|refine zS rfl rfl ?_|refine zR rfl ?_|refine zD ?_);simp only[yq195.down,zA,lemS.down,lemC.down,zap,zao,zam,reduceIte,zan,zaq,zar,zas,zat,zau,zav,zaw,zax,reduceCtorEq,zc,zY,lemH.down,t0,gD.load,i8,e3'])))
  obtain⟨a3,c3,rfl,s3⟩:=o3.shape
  obtain⟨B,off,sp,rfl,ld3,_⟩:=s3 (by decide)
  rw[zFW] at ld3
  obtain⟨_,g2,e4,rfl,gD4,k4⟩:=zJx pr hp hw hk hb hc g D c3 ⟨B,off,sp⟩ _ g8 [v,uw .u64 n'] rfl _ gD ld3
  rw[zIh (by decide),←zGm] at gD4
  have g8':(absorb (i+1) hs b).length=8:=zFJ _ h8
  have gO4:=gO.keep k4 (fun A hA=>hA.2)
  have gk4:=gk.trans k4 (fun A _ e=>e▸hND)
  obtain⟨v5,e5,o5⟩:=gO4.from (j:=64) (k:=.i64) hlt'
  have e5':zAq 1 v (some (.int .i64 64)) none none=some v5:=e5
  have j8:=zCd (v:=v) (n:=n') g8'
  have gD4':Var g2 D (zn (absorb (i+1) hs b) v n'):=gD4
  rw[zG7,List.drop_drop,show 64*i+64*1=64*(i+1) by omega] at o5
  have o5:Own g2 (fun A=>N≤A∧A≠D) 1 v5 (b.drop (64*(i+1))).length (zV (b.drop (64*(i+1)))):=by
   rw[show (b.drop (64*(i+1))).length=(b.drop (64*i)).length - 64 by simp;omega];exact o5
  have st8:=o5.store (i:=8) gD4' (by rw[zCF g8'];decide)
  rw[zEU g8'] at st8
  simp only[yq195.down,zA,lemS.down,lemC.down,zap,zao,zam,reduceIte,zan,zaq,zar,zas,zat,zau,zav,zaw,zax,reduceCtorEq,zc,zY,lemH.down,e4]
  (repeat (first|refine zP ?_|refine zL ?_|refine zO ?_|refine zC ?_|refine zB ?_|refine zJ ?_|refine zK ?_|refine zM ?_|refine zF ?_|refine zH ?_|refine zG ?_|refine zI (by decide) ?_|refine zN ?_|((first|refine zE ?_|refine zQ ?_|refine zS rfl rfl ?_|refine zR rfl ?_|refine zD ?_);simp only[yq195.down,zA,lemS.down,lemC.down,zap,zao,zam,reduceIte,zan,zaq,zar,zas,zat,zau,zav,zaw,zax,reduceCtorEq,zc,zY,lemH.down,t0,gD4'.load,j8,e5',st8])))
  rw[List.length_drop] at hlt'
  refine hnext (b.length - 64*(i+1)) _ _ (by omega) ⟨i+1,v5,rfl,by omega,g8',gD4'.wr,o5.keep Keeps.wr (fun A hA=>hA.2),gk4.trans Keeps.wr (fun A _ e=>e▸hND),by simp only[yq195.down,zA,lemS.down,lemC.down,zap,zao,zam,reduceIte,zan,zaq,zar,zas,zat,zau,zav,zaw,zax,reduceCtorEq,t0]⟩
 ·(repeat (first|refine zP ?_|refine zL ?_|refine zO ?_|refine zC ?_|refine zB ?_|refine zJ ?_|refine zK ?_|refine zM ?_|refine zF ?_|refine zH ?_|refine zG ?_|refine zI (by decide) ?_|refine zN ?_|((first|refine zE ?_|refine zQ ?_|refine zS rfl rfl ?_|refine zR rfl ?_|refine zD ?_);simp only[yq195.down,zA,lemS.down,lemC.down,zap,zao,zam,reduceIte,zan,zaq,zar,zas,zat,zau,zav,zaw,zax,reduceCtorEq,zc,zY,lemH.down,t0])))
  have hd:b.length / 64=i:=by rw[List.length_drop] at hge;omega
  refine⟨.inl rfl,_,rfl,rfl,⟨by rw[hd];exact g8,hND,v,by rw[hd];exact gD,by rw[hd];exact gO⟩,gk⟩
end Go.X
end
section
open Go Go.X
namespace Go.X
set_option linter.unusedVariables false
theorem fill_dig {hs:List Nat} (h8:hs.length=8) {n:Nat} {z:Value}:zt [z,z,z,z,z,z,z,z,.slice none 0 0,.int .u64 0] [(0,8,.agg (hs.map (uw .u32)).toArray),(9,1,uw .u64 n)]=some (zn hs (.slice none 0 0) n):=by
 obtain⟨a,b,c,d,e,f,g,i,rfl⟩:=len8 h8
 simp[zt,zBi,zFX,putN,zn]
theorem Dig.push {g:Heap} {N D n:Nat} {hs:List Nat} {q:List UInt8} (hd:Dig g N D hs q n) (x:Nat) (hroom:q.length+1≤zU) :
  ∃v v' g2,Var g D (zn hs v n)∧Var (g.new [uw .u8 x]) D (zn hs v n)∧zAt (g.new [uw .u8 x]) 1 1 v (.slice (some ⟨g.next,0,none⟩) 1 1)=some (v',g2) ∧
   zAG g2 1 (.pointer (some ⟨D,8,none⟩)) v'=some (.tuple #[],g2.wr D (zn hs v' n))∧Dig (g2.wr D (zn hs v' n)) N D hs (q++[UInt8.ofNat x]) n∧Keeps (fun A=>N≤A) g (g2.wr D (zn hs v' n)):=by
 obtain⟨h8,hND,v,hD,hO⟩:=hd
 have hlt:D<g.next:=hD.1
 have hD1:=hD.new_old (m:=[uw .u8 x])
 have hO1:=hO.grow (Grows.new (l:=[uw .u8 x]))
 have hk1:Keeps (fun A=>N≤A) g (g.new [uw .u8 x]):=Keeps.new
 have hs1:=(Var.new_self (h:=g) (l:=[uw .u8 x])).src (n:=1) (esz:=1) (bytes:=1) (s:=v) (sp:=none) (c:=1) rfl (by decide)
 have hn1:(g.new [uw .u8 x]).next=g.next+1:=rfl
 obtain⟨v',g2,e2,hO2,k2⟩:=hO1.append (bytes:=1) (m:=1) (new:=[uw .u8 x]) rfl rfl (by decide) (by decide) (by omega)
 have hD2:=hD1.keep k2 (fun e=>e.2 rfl)
 rw[←zDG,←zDF] at hO2
 have hO2:Own g2 (fun A=>N≤A∧A≠D) 1 v' (q++[UInt8.ofNat x]).length (zV (q++[UInt8.ofNat x])):=by
  rw[List.length_append];exact hO2.mono fun A hA=>by
   rcases hA with hA|hA
   ·exact hA
   ·rw[zDG,hn1] at hA;exact⟨by omega,by omega⟩
 have st8:=hO2.store (i:=8) hD2 (by rw[zCF h8];decide)
 rw[zEU h8] at st8
 refine⟨v,v',g2,hD,hD1,by rw[hs1,e2],st8,⟨h8,hND,v',hD2.wr,hO2.keep Keeps.wr (fun A hA=>hA.2)⟩,(hk1.trans k2 (fun A _ e=>e.1)).trans Keeps.wr (fun A _ e=>e▸hND)⟩
theorem sum1_ok (pr:Prog) (k:List KI) (Q:XE→Fr→Heap→Prop) (h g:Heap) (O n:Nat) (hs:List Nat) (r:List UInt8) (hroom:r.length+200≤zU) (hd:Dig g O O hs (r++[128]) n) (hk:Keeps (fun A=>O≤A) h g)
  (hQ:∀t' g',Dig g' O O hs (r++[128]++List.replicate (zAr r.length) 0) n→Keeps (fun A=>O≤A) h g'→t'.get 3=.pointer (some ⟨O,0,none⟩)→extk pr k 0 Q t' g') (t:Fr) (t3:t.get 3=.pointer (some ⟨O,0,none⟩)) :
  wpk pr (.loop zI3) k Q t g:=by
 refine zAY (fun m t g=>∃j,m=zAr r.length - j∧j≤zAr r.length∧Dig g O O hs (r++[128]++List.replicate j 0) n∧Keeps (fun A=>O≤A) h g∧t.get 3=.pointer (some ⟨O,0,none⟩)) ?_ (zAr r.length) _ _ ⟨0,rfl,by omega,by simpa using hd,hk,t3⟩
 rintro m t g ⟨j,rfl,hj,gd,gk,t3⟩ hnext
 refine xq197_7k ?_
 dsimp only[zI4]
 have hlen:(r++[128]++List.replicate j (0:UInt8)).length=r.length+1+j:=by simp;omega
 have hz:zAr r.length<64:=Nat.mod_lt _ (by decide)
 obtain⟨v,v',g2,gD,gD1,e1,e2,gd',gk'⟩:=gd.push 0 (by rw[hlen];omega)
 rw[show uw .u8 0=.int .u8 0 from rfl] at gD1 e1
 have h8:=gd.1
 obtain⟨_,_,v0,gD0,gO⟩:=id gd
 have i8:=fun (v:Value) (n:Nat)=>zCd (v:=v) (n:=n) h8
 obtain rfl:v=v0:=by
  have a:=gD.load (i:=8) (sp:=none)
  rw[gD0.load (i:=8) (sp:=none),i8,i8] at a
  exact (Option.some.inj a).symm
 have e40:binX .rem (.int .i64 (((r++[128]++List.replicate j (0:UInt8)).length:Nat):Int)) (.int .i64 64)=some (.int .i64 (((r.length+1+j) % 64:Nat):Int)):=by
  rw[hlen];exact rem_nat (by decide)
 (repeat (first|refine zP ?_|refine zL ?_|refine zO ?_|refine zC ?_|refine zB ?_|refine zJ ?_|refine zK ?_|refine zM ?_|refine zF ?_|refine zH ?_|refine zG ?_|refine zI (by decide) ?_|refine zN ?_|((first|refine zE ?_|refine zQ ?_|refine zS rfl rfl ?_|refine zR rfl ?_|refine zD ?_);simp only[yq197.down,zA,lemS.down,lemC.down,zap,zao,zam,reduceIte,zan,zaq,zar,zas,zat,zau,zav,zaw,zax,reduceCtorEq,zc,zY,lemH.down,lemW.down,t3,gD.load,i8,gO.lenV,e40])))
 refine⟨fun hlt=>?_,fun hge=>?_⟩
 ·(repeat (first|refine zP ?_|refine zL ?_|refine zO ?_|refine zC ?_|refine zB ?_|refine zJ ?_|refine zK ?_|refine zM ?_|refine zF ?_|refine zH ?_|refine zG ?_|refine zI (by decide) ?_|refine zN ?_|((first|refine zE ?_|refine zQ ?_|refine zS rfl rfl ?_|refine zR rfl ?_|refine zD ?_);simp only[yq197.down,zA,lemS.down,lemC.down,zap,zao,zam,reduceIte,zan,zaq,zar,zas,zat,zau,zav,zaw,zax,reduceCtorEq,zc,zY,lemH.down,lemW.down,t3,gD.load,i8,e1,e2])))
  have hj':j<zAr r.length:=by
   unfold zAr at *;omega
  refine hnext (zAr r.length - (j+1)) _ _ (by omega) ⟨j+1,rfl,by omega,?_,gk.trans gk' (fun A _ e=>e),by simp only[yq197.down,zA,lemS.down,lemC.down,zap,zao,zam,reduceIte,zan,zaq,zar,zas,zat,zau,zav,zaw,zax,reduceCtorEq,t3]⟩
  rw[List.append_assoc] at gd'
  rw[List.replicate_succ']
  exact gd'
 ·(repeat (first|refine zP ?_|refine zL ?_|refine zO ?_|refine zC ?_|refine zB ?_|refine zJ ?_|refine zK ?_|refine zM ?_|refine zF ?_|refine zH ?_|refine zG ?_|refine zI (by decide) ?_|refine zN ?_|((first|refine zE ?_|refine zQ ?_|refine zS rfl rfl ?_|refine zR rfl ?_|refine zD ?_);simp only[yq197.down,zA,lemS.down,lemC.down,zap,zao,zam,reduceIte,zan,zaq,zar,zas,zat,zau,zav,zaw,zax,reduceCtorEq,zc,zY,lemH.down,lemW.down])))
  obtain rfl:j=zAr r.length:=by
   unfold zAr at *;omega
  exact hQ _ _ gd gk (by simp only[yq197.down,zA,lemS.down,lemC.down,zap,zao,zam,reduceIte,zan,zaq,zar,zas,zat,zau,zav,zaw,zax,reduceCtorEq,t3])
theorem sum2_ok (pr:Prog) (k:List KI) (Q:XE→Fr→Heap→Prop) (h g:Heap) (O n:Nat) (hs:List Nat) (p:List UInt8) (hroom:p.length+100≤zU) (hd:Dig g O O hs p n) (hk:Keeps (fun A=>O≤A) h g)
  (hQ:∀t' g',Dig g' O O hs (p++lenB (n*8)) n→Keeps (fun A=>O≤A) h g'→t'.get 3=.pointer (some ⟨O,0,none⟩)→extk pr k 2 Q t' g') (t:Fr) (t3:t.get 3=.pointer (some ⟨O,0,none⟩)) (t51:t.get 51=.int .i64 0) :
  wpk pr (.loop zIv) k Q t g:=by
 have hlb:∀j,j≤8→((lenB (n*8)).take j).length=j:=fun j hj=>by rw[List.length_take,zEd];omega
 refine zAY (fun m t g=>∃j,m=8 - j∧j≤8∧Dig g O O hs (p++(lenB (n*8)).take j) n∧Keeps (fun A=>O≤A) h g∧t.get 3=.pointer (some ⟨O,0,none⟩)∧t.get 51=.int .i64 (j:Int)) ?_ 8 _ _ ⟨0,rfl,by omega,by simpa using hd,hk,t3,t51⟩
 rintro m t g ⟨j,rfl,hj,gd,gk,t3,t51⟩ hnext
 refine zZ5 ?_
 dsimp only[zIw]
 (repeat (first|refine zP ?_|refine zL ?_|refine zO ?_|refine zC ?_|refine zB ?_|refine zJ ?_|refine zK ?_|refine zM ?_|refine zF ?_|refine zH ?_|refine zG ?_|refine zI (by decide) ?_|refine zN ?_|((first|refine zE ?_|refine zQ ?_|refine zS rfl rfl ?_|refine zR rfl ?_|refine zD ?_);simp only[yq197.down,zA,lemS.down,lemC.down,zap,zao,zam,reduceIte,zan,zaq,zar,zas,zat,zau,zav,zaw,zax,reduceCtorEq,zc,zY,lemH.down,lemW.down,t3,t51])))
 refine⟨fun hlt=>?_,fun hge=>?_⟩
 ·have hj':j<8:=by omega
  obtain⟨v,v',g2,gD,gD1,e1,e2,gd',gk'⟩:=gd.push (((n*8) % 18446744073709551616) >>> (8*(7 - j))) (by rw[List.length_append,hlb j hj];omega)
  have h8:=gd.1
  have i8:=fun (v:Value) (n:Nat)=>zCd (v:=v) (n:=n) h8
  have i9:=fun (v:Value) (n:Nat)=>zHI (v:=v) (n:=n) h8
  have w7:IntKind.i64.wrap (7 - (j:Int))=((7 - j:Nat):Int):=by rw[wrap_i64 (by omega) (by omega)];omega
  have w8:IntKind.i64.wrap (8*((7 - j:Nat):Int))=((8*(7 - j):Nat):Int):=by rw[wrap_i64 (by omega) (by omega)];omega
  have ww:IntKind.i64.wrap ((j:Int)+1)=((j+1:Nat):Int):=by rw[wrap_i64 (by omega) (by omega)];omega
  have u8:Value.int .u64 8=uw .u64 8:=rfl
  have sh:=fun x=>zL4 (k':=.i64) (x:=x) (n:=8*(7 - j)) (by omega)
  (repeat (first|refine zP ?_|refine zL ?_|refine zO ?_|refine zC ?_|refine zB ?_|refine zJ ?_|refine zK ?_|refine zM ?_|refine zF ?_|refine zH ?_|refine zG ?_|refine zI (by decide) ?_|refine zN ?_|((first|refine zE ?_|refine zQ ?_|refine zS rfl rfl ?_|refine zR rfl ?_|refine zD ?_);simp only[yq197.down,zA,lemS.down,lemC.down,zap,zao,zam,reduceIte,zan,zaq,zar,zas,zat,zau,zav,zaw,zax,reduceCtorEq,zc,zY,lemH.down,lemW.down,t3,t51,gD.load,gD1.load,i8,i9,w7,w8,u8,sh,e1,e2])))
  refine⟨⟨?_,?_⟩,?_⟩
  ·(refine zAa rfl rfl rfl ?_ ?_<;>simp only[yq197.down,zA,lemS.down,lemC.down,zap,zao,zam,reduceIte,zan,zaq,zar,zas,zat,zau,zav,zaw,zax,reduceCtorEq,t3,gD.load,gD1.load,i8,i9,zAA,zz,zAB,z8,zw,Option.isSome_some])
  ·(refine zAa rfl rfl rfl ?_ ?_<;>simp only[yq197.down,zA,lemS.down,lemC.down,zap,zao,zam,reduceIte,zan,zaq,zar,zas,zat,zau,zav,zaw,zax,reduceCtorEq,t3,gD.load,gD1.load,i8,i9,zAA,zz,zAB,z8,zw,Option.isSome_some])
  (repeat (first|refine zP ?_|refine zL ?_|refine zO ?_|refine zC ?_|refine zB ?_|refine zJ ?_|refine zK ?_|refine zM ?_|refine zF ?_|refine zH ?_|refine zG ?_|refine zI (by decide) ?_|refine zN ?_|((first|refine zE ?_|refine zQ ?_|refine zS rfl rfl ?_|refine zR rfl ?_|refine zD ?_);simp only[yq197.down,zA,lemS.down,lemC.down,zap,zao,zam,reduceIte,zan,zaq,zar,zas,zat,zau,zav,zaw,zax,reduceCtorEq,zc,zY,lemH.down,lemW.down,t3,t51,ww])))
  refine hnext (8 - (j+1)) _ _ (by omega) ⟨j+1,rfl,by omega,?_,gk.trans gk' (fun A _ e=>e),by simp only[yq197.down,zA,lemS.down,lemC.down,zap,zao,zam,reduceIte,zan,zaq,zar,zas,zat,zau,zav,zaw,zax,reduceCtorEq,t3],by simp only[yq197.down,zA,lemS.down,lemC.down,zap,zao,zam,reduceIte,zan,zaq,zar,zas,zat,zau,zav,zaw,zax,reduceCtorEq]⟩
  rw[List.take_succ_eq_append_getElem (by rw[zEd];exact hj'),←List.append_assoc]
  have:(lenB (n*8))[j]'(by rw[zEd];exact hj')=UInt8.ofNat (((n*8) % 18446744073709551616) >>> (8*(7 - j))):=by simp[lenB]
  rw[this]
  exact gd'
 ·(repeat (first|refine zP ?_|refine zL ?_|refine zO ?_|refine zC ?_|refine zB ?_|refine zJ ?_|refine zK ?_|refine zM ?_|refine zF ?_|refine zH ?_|refine zG ?_|refine zI (by decide) ?_|refine zN ?_|((first|refine zE ?_|refine zQ ?_|refine zS rfl rfl ?_|refine zR rfl ?_|refine zD ?_);simp only[yq197.down,zA,lemS.down,lemC.down,zap,zao,zam,reduceIte,zan,zaq,zar,zas,zat,zau,zav,zaw,zax,reduceCtorEq,zc,zY,lemH.down,lemW.down,t3])))
  obtain rfl:j=8:=by omega
  rw[List.take_of_length_le (by rw[zEd];decide)] at gd
  exact hQ _ _ gd gk (by simp only[yq197.down,zA,lemS.down,lemC.down,zap,zao,zam,reduceIte,zan,zaq,zar,zas,zat,zau,zav,zaw,zax,reduceCtorEq,t3])
theorem sum3_ok (pr:Prog) (hp:pr.prim 247=some (za zBG)) (hw:pr.prim 246=some zB9) (hk:pr.prim 245=some (za zCc)) (hb:pr.prim 222=none) (hc:pr.code 222=some zDe)
  (k:List KI) (Q:XE→Fr→Heap→Prop) (h g:Heap) (O n:Nat) (hs:List Nat) (b:List UInt8) (hb64:b.length=64*(b.length / 64)) (hd:Dig g O O hs b n) (hk:Keeps (fun A=>O≤A) h g)
  (hQ:∀t' g',Dig g' O O (absorb (b.length / 64) hs b) [] n→Keeps (fun A=>O≤A) h g'→t'.get 3=.pointer (some ⟨O,0,none⟩)→extk pr k 4 Q t' g') (t:Fr) (t3:t.get 3=.pointer (some ⟨O,0,none⟩)) :
  wpk pr (.loop zIx) k Q t g:=by
 have h8:=hd.1
 refine zAY (fun m t g=>∃i,m=b.length - 64*i∧64*i≤b.length∧Dig g O O (absorb i hs b) (b.drop (64*i)) n∧Keeps (fun A=>O≤A) h g∧t.get 3=.pointer (some ⟨O,0,none⟩)) ?_ b.length _ _ ⟨0,rfl,by omega,hd,hk,t3⟩
 rintro m t g ⟨i,rfl,hi,gd,gk,t3⟩ hnext
 refine zZ9 ?_
 dsimp only[zIy]
 obtain⟨g8,gND,v,gD,gO⟩:=id gd
 have i8:=fun (v:Value) (n:Nat)=>zCd (v:=v) (n:=n) g8
 (repeat (first|refine zP ?_|refine zL ?_|refine zO ?_|refine zC ?_|refine zB ?_|refine zJ ?_|refine zK ?_|refine zM ?_|refine zF ?_|refine zH ?_|refine zG ?_|refine zI (by decide) ?_|refine zN ?_|((first|refine zE ?_|refine zQ ?_|refine zS rfl rfl ?_|refine zR rfl ?_|refine zD ?_);simp only[yq197.down,zA,lemS.down,lemC.down,zap,zao,zam,reduceIte,zan,zaq,zar,zas,zat,zau,zav,zaw,zax,reduceCtorEq,zc,zY,lemH.down,t3,gD.load,i8,gO.lenV])))
 refine⟨fun hlt=>?_,fun hge=>?_⟩
 ·have hlt':64≤(b.drop (64*i)).length:=by rw[List.length_drop] at *;omega
  obtain⟨v3,e3,o3⟩:=gO.to (j:=64) (k:=.i64) hlt'
  have e3':zAq 1 v none (some (.int .i64 64)) none=some v3:=e3
  (repeat (first|refine zP ?_|refine zL ?_|refine zO ?_|refine zC ?_|refine zB ?_|refine zJ ?_|refine zK ?_|refine zM ?_|refine zF ?_|refine zH ?_|refine zG ?_|refine zI (by decide) ?_|refine zN ?_|((first|refine zE ?_|refine zQ ?_|refine zS rfl rfl ?_|refine zR rfl ?_|refine zD ?_);simp only[yq197.down,zA,lemS.down,lemC.down,zap,zao,zam,reduceIte,zan,zaq,zar,zas,zat,zau,zav,zaw,zax,reduceCtorEq,zc,zY,lemH.down,t3,gD.load,i8,e3'])))
  obtain⟨a3,c3,rfl,s3⟩:=o3.shape
  obtain⟨B,off,sp,rfl,ld3,_⟩:=s3 (by decide)
  rw[zFW] at ld3
  obtain⟨_,g2,e4,rfl,gD4,k4⟩:=zJx pr hp hw ‹_› hb hc g O c3 ⟨B,off,sp⟩ _ g8 [v,uw .u64 n] rfl _ gD ld3
  rw[zIh (by decide),←zGm] at gD4
  have g8':(absorb (i+1) hs b).length=8:=zFJ _ h8
  have gO4:=gO.keep k4 (fun A hA=>hA.2)
  have gk4:=gk.trans k4 (fun A _ e=>Nat.le_of_eq e.symm)
  obtain⟨v5,e5,o5⟩:=gO4.from (j:=64) (k:=.i64) hlt'
  have e5':zAq 1 v (some (.int .i64 64)) none none=some v5:=e5
  have j8:=zCd (v:=v) (n:=n) g8'
  have gD4':Var g2 O (zn (absorb (i+1) hs b) v n):=gD4
  rw[zG7,List.drop_drop,show 64*i+64*1=64*(i+1) by omega] at o5
  have o5:Own g2 (fun A=>O≤A∧A≠O) 1 v5 (b.drop (64*(i+1))).length (zV (b.drop (64*(i+1)))):=by
   rw[show (b.drop (64*(i+1))).length=(b.drop (64*i)).length - 64 by simp;omega];exact o5
  have st8:=o5.store (i:=8) gD4' (by rw[zCF g8'];decide)
  rw[zEU g8'] at st8
  simp only[yq197.down,zA,lemS.down,lemC.down,zap,zao,zam,reduceIte,zan,zaq,zar,zas,zat,zau,zav,zaw,zax,reduceCtorEq,zc,zY,lemH.down,e4]
  (repeat (first|refine zP ?_|refine zL ?_|refine zO ?_|refine zC ?_|refine zB ?_|refine zJ ?_|refine zK ?_|refine zM ?_|refine zF ?_|refine zH ?_|refine zG ?_|refine zI (by decide) ?_|refine zN ?_|((first|refine zE ?_|refine zQ ?_|refine zS rfl rfl ?_|refine zR rfl ?_|refine zD ?_);simp only[yq197.down,zA,lemS.down,lemC.down,zap,zao,zam,reduceIte,zan,zaq,zar,zas,zat,zau,zav,zaw,zax,reduceCtorEq,zc,zY,lemH.down,t3,gD4'.load,j8,e5',st8])))
  rw[List.length_drop] at hlt'
  refine hnext (b.length - 64*(i+1)) _ _ (by omega) ⟨i+1,rfl,by omega,⟨g8',Nat.le_refl _,v5,gD4'.wr,o5.keep Keeps.wr (fun A hA=>hA.2)⟩,gk4.trans Keeps.wr (fun A _ e=>Nat.le_of_eq e.symm),by simp only[yq197.down,zA,lemS.down,lemC.down,zap,zao,zam,reduceIte,zan,zaq,zar,zas,zat,zau,zav,zaw,zax,reduceCtorEq,t3]⟩
 ·(repeat (first|refine zP ?_|refine zL ?_|refine zO ?_|refine zC ?_|refine zB ?_|refine zJ ?_|refine zK ?_|refine zM ?_|refine zF ?_|refine zH ?_|refine zG ?_|refine zI (by decide) ?_|refine zN ?_|((first|refine zE ?_|refine zQ ?_|refine zS rfl rfl ?_|refine zR rfl ?_|refine zD ?_);simp only[yq197.down,zA,lemS.down,lemC.down,zap,zao,zam,reduceIte,zan,zaq,zar,zas,zat,zau,zav,zaw,zax,reduceCtorEq,zc,zY,lemH.down,t3])))
  rw[List.length_drop] at hge
  have hd':b.length / 64=i:=by omega
  have he:b.drop (64*i)=[]:=List.drop_of_length_le (by omega)
  rw[he,←hd'] at gd
  exact hQ _ _ gd gk (by simp only[yq197.down,zA,lemS.down,lemC.down,zap,zao,zam,reduceIte,zan,zaq,zar,zas,zat,zau,zav,zaw,zax,reduceCtorEq,t3])
theorem sum4i_ok (pr:Prog) (k:List KI) (Q:XE→Fr→Heap→Prop) (h g:Heap) (N x:Nat) (v:Value) (p:List UInt8) (r98 r99:Value) (hN:N≤g.next) (hroom:p.length+100≤zU) (hd:Own g (fun A=>N≤A) 1 v p.length (zV p)) (hk:Keeps (fun A=>N≤A) h g)
  (hQ:∀t' g' v',Own g' (fun A=>N≤A) 1 v' (p++outW x).length (zV (p++outW x))→Keeps (fun A=>N≤A) h g'→N≤g'.next→t'.get 5=v'→t'.get 98=r98→t'.get 99=r99→extk pr k 8 Q t' g') (t:Fr)
  (t5:t.get 5=v) (t7:t.get 7=uw .u32 x) (t98:t.get 98=r98) (t99:t.get 99=r99) (t102:t.get 102=.int .i64 0) :
  wpk pr (.loop zIz) k Q t g:=by
 have hol:(outW x).length=4:=by simp[outW]
 have hlb:∀j,j≤4→((outW x).take j).length=j:=fun j hj=>by rw[List.length_take,hol];omega
 refine zAY (fun m t g=>∃j v,m=4 - j∧j≤4∧Own g (fun A=>N≤A) 1 v (p++(outW x).take j).length (zV (p++(outW x).take j))∧Keeps (fun A=>N≤A) h g∧N≤g.next∧t.get 5=v∧t.get 7=uw .u32 x∧t.get 98=r98∧t.get 99=r99∧t.get 102=.int .i64 (j:Int)) ?_ 4 _ _ ⟨0,v,rfl,by omega,by simpa using hd,hk,hN,t5,t7,t98,t99,t102⟩
 rintro m t g ⟨j,v,rfl,hj,gO,gk,gN,t5,t7,t98,t99,t102⟩ hnext
 refine zaJ ?_
 dsimp only[zI0]
 (repeat (first|refine zP ?_|refine zL ?_|refine zO ?_|refine zC ?_|refine zB ?_|refine zJ ?_|refine zK ?_|refine zM ?_|refine zF ?_|refine zH ?_|refine zG ?_|refine zI (by decide) ?_|refine zN ?_|((first|refine zE ?_|refine zQ ?_|refine zS rfl rfl ?_|refine zR rfl ?_|refine zD ?_);simp only[yq197.down,zA,lemS.down,lemC.down,zap,zao,zam,reduceIte,zan,zaq,zar,zas,zat,zau,zav,zaw,zax,reduceCtorEq,zc,zY,lemH.down,lemW.down,t5,t7,t102])))
 refine⟨fun hlt=>?_,fun hge=>?_⟩
 ·have hj':j<4:=by omega
  have w7:IntKind.i64.wrap (3 - (j:Int))=((3 - j:Nat):Int):=by rw[wrap_i64 (by omega) (by omega)];omega
  have w8:IntKind.i64.wrap (8*((3 - j:Nat):Int))=((8*(3 - j):Nat):Int):=by rw[wrap_i64 (by omega) (by omega)];omega
  have ww:IntKind.i64.wrap ((j:Int)+1)=((j+1:Nat):Int):=by rw[wrap_i64 (by omega) (by omega)];omega
  have sh:=zL3 (k':=.i64) (x:=x) (n:=8*(3 - j)) (by omega)
  have hO1:=gO.grow (Grows.new (l:=[uw .u8 ((x % 4294967296) >>> (8*(3 - j)))]))
  have hs1:=(Var.new_self (h:=g) (l:=[uw .u8 ((x % 4294967296) >>> (8*(3 - j)))])).src (n:=1) (esz:=1) (bytes:=1) (s:=v) (sp:=none) (c:=1) rfl (by decide)
  obtain⟨v',g2,e2,hO2,k2⟩:=hO1.append (bytes:=1) (m:=1) (new:=[uw .u8 ((x % 4294967296) >>> (8*(3 - j)))]) rfl rfl (by decide) (by decide) (by rw[List.length_append,hlb j hj];omega)
  rw[e2] at hs1
  (repeat (first|refine zP ?_|refine zL ?_|refine zO ?_|refine zC ?_|refine zB ?_|refine zJ ?_|refine zK ?_|refine zM ?_|refine zF ?_|refine zH ?_|refine zG ?_|refine zI (by decide) ?_|refine zN ?_|((first|refine zE ?_|refine zQ ?_|refine zS rfl rfl ?_|refine zR rfl ?_|refine zD ?_);simp only[yq197.down,zA,lemS.down,lemC.down,zap,zao,zam,reduceIte,zan,zaq,zar,zas,zat,zau,zav,zaw,zax,reduceCtorEq,zc,zY,lemH.down,lemW.down,t5,t7,t102,w7,w8,sh,hs1,ww])))
  refine hnext (4 - (j+1)) _ _ (by omega) ⟨j+1,v',rfl,by omega,?_,(gk.trans (Keeps.new (W:=fun A=>N≤A)) (fun A _ e=>e)).trans k2 (fun A _ e=>e),Nat.le_trans gN (Nat.le_trans (Nat.le_succ _) k2.next),by simp only[yq197.down,zA,lemS.down,lemC.down,zap,zao,zam,reduceIte,zan,zaq,zar,zas,zat,zau,zav,zaw,zax,reduceCtorEq],by simp only[yq197.down,zA,lemS.down,lemC.down,zap,zao,zam,reduceIte,zan,zaq,zar,zas,zat,zau,zav,zaw,zax,reduceCtorEq,t7],by simp only[yq197.down,zA,lemS.down,lemC.down,zap,zao,zam,reduceIte,zan,zaq,zar,zas,zat,zau,zav,zaw,zax,reduceCtorEq,t98],by simp only[yq197.down,zA,lemS.down,lemC.down,zap,zao,zam,reduceIte,zan,zaq,zar,zas,zat,zau,zav,zaw,zax,reduceCtorEq,t99],by simp only[yq197.down,zA,lemS.down,lemC.down,zap,zao,zam,reduceIte,zan,zaq,zar,zas,zat,zau,zav,zaw,zax,reduceCtorEq]⟩
  rw[List.take_succ_eq_append_getElem (by rw[hol];exact hj'),←List.append_assoc]
  have:(outW x)[j]'(by rw[hol];exact hj')=UInt8.ofNat ((x % 4294967296) >>> (8*(3 - j))):=by simp[outW]
  rw[this,zDF (b:=[_]),zDG,List.length_append (bs:=[_])]
  exact hO2.mono fun A hA=>by
   rcases hA with hA|hA
   ·exact hA
   ·have:(g.new [uw .u8 ((x % 4294967296) >>> (8*(3 - j)))]).next=g.next+1:=rfl
    show N≤A
    omega
 ·(repeat (first|refine zP ?_|refine zL ?_|refine zO ?_|refine zC ?_|refine zB ?_|refine zJ ?_|refine zK ?_|refine zM ?_|refine zF ?_|refine zH ?_|refine zG ?_|refine zI (by decide) ?_|refine zN ?_|((first|refine zE ?_|refine zQ ?_|refine zS rfl rfl ?_|refine zR rfl ?_|refine zD ?_);simp only[yq197.down,zA,lemS.down,lemC.down,zap,zao,zam,reduceIte,zan,zaq,zar,zas,zat,zau,zav,zaw,zax,reduceCtorEq,zc,zY,lemH.down,lemW.down])))
  obtain rfl:j=4:=by omega
  rw[List.take_of_length_le (by rw[hol];decide)] at gO
  exact hQ _ _ _ gO gk gN (by simp only[yq197.down,zA,lemS.down,lemC.down,zap,zao,zam,reduceIte,zan,zaq,zar,zas,zat,zau,zav,zaw,zax,reduceCtorEq,t5]) (by simp only[yq197.down,zA,lemS.down,lemC.down,zap,zao,zam,reduceIte,zan,zaq,zar,zas,zat,zau,zav,zaw,zax,reduceCtorEq,t98]) (by simp only[yq197.down,zA,lemS.down,lemC.down,zap,zao,zam,reduceIte,zan,zaq,zar,zas,zat,zau,zav,zaw,zax,reduceCtorEq,t99])
theorem sum4_ok (pr:Prog) (k:List KI) (Q:XE→Fr→Heap→Prop) (h g:Heap) (N:Nat) (hs:List Nat) (h8:hs.length=8) (hN:N≤g.next) (hk:Keeps (fun A=>N≤A) h g)
  (hQ:∀t' g' v',Own g' (fun A=>N≤A) 1 v' (outB hs).length (zV (outB hs))→Keeps (fun A=>N≤A) h g'→t'.get 5=v'→extk pr k 6 Q t' g') (t:Fr)
  (t5:t.get 5=.slice none 0 0) (t98:t.get 98=.agg (hs.map (uw .u32)).toArray) (t99:t.get 99=.int .i64 0) :
  wpk pr (.loop zI1) k Q t g:=by
 refine zAY (fun m t g=>∃j v,m=8 - j∧j≤8∧Own g (fun A=>N≤A) 1 v (outB (hs.take j)).length (zV (outB (hs.take j)))∧Keeps (fun A=>N≤A) h g∧N≤g.next∧t.get 5=v∧t.get 98=.agg (hs.map (uw .u32)).toArray∧t.get 99=.int .i64 (j:Int)) ?_ 8 _ _ ⟨0,_,rfl,by omega,Own.nil,hk,hN,t5,t98,t99⟩
 rintro m t g ⟨j,v,rfl,hj,gO,gk,gN,t5,t98,t99⟩ hnext
 refine zaL ?_
 dsimp only[zI2]
 (repeat (first|refine zP ?_|refine zL ?_|refine zO ?_|refine zC ?_|refine zB ?_|refine zJ ?_|refine zK ?_|refine zM ?_|refine zF ?_|refine zH ?_|refine zG ?_|refine zI (by decide) ?_|refine zN ?_|((first|refine zE ?_|refine zQ ?_|refine zS rfl rfl ?_|refine zR rfl ?_|refine zD ?_);simp only[yq197.down,zA,lemS.down,lemC.down,zap,zao,zam,reduceIte,zan,zaq,zar,zas,zat,zau,zav,zaw,zax,reduceCtorEq,zc,zY,lemH.down,lemW.down,t5,t98,t99])))
 refine⟨fun hlt=>?_,fun hge=>?_⟩
 ·have hj':j<8:=by omega
  have ww:IntKind.i64.wrap ((j:Int)+1)=((j+1:Nat):Int):=by rw[wrap_i64 (by omega) (by omega)];omega
  have gi:(hs.map (uw .u32))[j]?=some (uw .u32 (hs.getD j 0)):=zEg (by omega)
  have hroom:(outB (hs.take j)).length+100≤zU:=by
   rw[zIA,List.length_take];unfold zU;omega
  (repeat (first|refine zP ?_|refine zL ?_|refine zO ?_|refine zC ?_|refine zB ?_|refine zJ ?_|refine zK ?_|refine zM ?_|refine zF ?_|refine zH ?_|refine zG ?_|refine zI (by decide) ?_|refine zN ?_|((first|refine zE ?_|refine zQ ?_|refine zS rfl rfl ?_|refine zR rfl ?_|refine zD ?_);simp only[yq197.down,zA,lemS.down,lemC.down,zap,zao,zam,reduceIte,zan,zaq,zar,zas,zat,zau,zav,zaw,zax,reduceCtorEq,zc,zY,lemH.down,lemW.down,t5,t98,t99,zYS hj',gi])))
  refine sum4i_ok pr _ _ h g N (hs.getD j 0) v _ (.agg (hs.map (uw .u32)).toArray) (.int .i64 (j:Int)) gN hroom gO gk ?_ _ (by simp only[yq197.down,zA,lemS.down,lemC.down,zap,zao,zam,reduceIte,zan,zaq,zar,zas,zat,zau,zav,zaw,zax,reduceCtorEq,t5]) (by simp only[yq197.down,zA,lemS.down,lemC.down,zap,zao,zam,reduceIte,zan,zaq,zar,zas,zat,zau,zav,zaw,zax,reduceCtorEq]) (by simp only[yq197.down,zA,lemS.down,lemC.down,zap,zao,zam,reduceIte,zan,zaq,zar,zas,zat,zau,zav,zaw,zax,reduceCtorEq,t98]) (by simp only[yq197.down,zA,lemS.down,lemC.down,zap,zao,zam,reduceIte,zan,zaq,zar,zas,zat,zau,zav,zaw,zax,reduceCtorEq,t99]) (by simp only[yq197.down,zA,lemS.down,lemC.down,zap,zao,zam,reduceIte,zan,zaq,zar,zas,zat,zau,zav,zaw,zax,reduceCtorEq])
  intro t' g' v' o' k' n' q5 q98 q99
  (repeat (first|refine zP ?_|refine zL ?_|refine zO ?_|refine zC ?_|refine zB ?_|refine zJ ?_|refine zK ?_|refine zM ?_|refine zF ?_|refine zH ?_|refine zG ?_|refine zI (by decide) ?_|refine zN ?_|((first|refine zE ?_|refine zQ ?_|refine zS rfl rfl ?_|refine zR rfl ?_|refine zD ?_);simp only[yq197.down,zA,lemS.down,lemC.down,zap,zao,zam,reduceIte,zan,zaq,zar,zas,zat,zau,zav,zaw,zax,reduceCtorEq,zc,zY,lemH.down,lemW.down,q5,q98,q99,ww])))
  refine hnext (8 - (j+1)) _ _ (by omega) ⟨j+1,v',rfl,by omega,?_,k',n',by simp only[yq197.down,zA,lemS.down,lemC.down,zap,zao,zam,reduceIte,zan,zaq,zar,zas,zat,zau,zav,zaw,zax,reduceCtorEq,q5],by simp only[yq197.down,zA,lemS.down,lemC.down,zap,zao,zam,reduceIte,zan,zaq,zar,zas,zat,zau,zav,zaw,zax,reduceCtorEq,q98],by simp only[yq197.down,zA,lemS.down,lemC.down,zap,zao,zam,reduceIte,zan,zaq,zar,zas,zat,zau,zav,zaw,zax,reduceCtorEq]⟩
  have:outB (hs.take (j+1))=outB (hs.take j)++outW (hs.getD j 0):=by
   unfold outB
   rw[List.take_succ_eq_append_getElem (by omega),List.flatMap_append,List.flatMap_cons,List.flatMap_nil,List.append_nil,List.getD_eq_getElem?_getD,List.getElem?_eq_getElem (show j<hs.length by omega)]
   rfl
  rw[this]
  exact o'
 ·(repeat (first|refine zP ?_|refine zL ?_|refine zO ?_|refine zC ?_|refine zB ?_|refine zJ ?_|refine zK ?_|refine zM ?_|refine zF ?_|refine zH ?_|refine zG ?_|refine zI (by decide) ?_|refine zN ?_|((first|refine zE ?_|refine zQ ?_|refine zS rfl rfl ?_|refine zR rfl ?_|refine zD ?_);simp only[yq197.down,zA,lemS.down,lemC.down,zap,zao,zam,reduceIte,zan,zaq,zar,zas,zat,zau,zav,zaw,zax,reduceCtorEq,zc,zY,lemH.down,lemW.down])))
  obtain rfl:j=8:=by omega
  rw[List.take_of_length_le (by omega)] at gO
  exact hQ _ _ _ gO gk (by simp only[yq197.down,zA,lemS.down,lemC.down,zap,zao,zam,reduceIte,zan,zaq,zar,zas,zat,zau,zav,zaw,zax,reduceCtorEq,t5])
theorem zJd (pr:Prog) (hp:pr.prim 247=some (za zBG)) (hw:pr.prim 246=some zB9) (hk:pr.prim 245=some (za zCc)) (hb:pr.prim 222=none) (hc:pr.code 222=some zDe)
  (hn:pr.prim 197=none) (hcs:pr.code 197=some xq197) (h:Heap) (N D n:Nat) (hs:List Nat) (r:List UInt8) (hd:Dig h N D hs r n) (hroom:r.length+300≤zU) :
  ∃v h',cfi pr 197 [.pointer (some ⟨D,0,none⟩)] h=some (v,h')∧v=.string (strOf (fin hs r n))∧Grows h h':=by
 refine zj hn hcs rfl ?_
 unfold xq197
 dsimp only[zW]
 refine wpk.out (k:=[]) ?_
 obtain⟨h8,hND,v,hD,hO⟩:=hd
 have i8:=fun (v:Value) (n:Nat)=>zCd (v:=v) (n:=n) h8
 have i9:=fun (v:Value) (n:Nat)=>zHI (v:=v) (n:=n) h8
 have ldD:∀sp,h.loadN ⟨D,0,sp⟩ 8=some (hs.map (uw .u32)):=fun sp=>by
  rw[hD.loadN]
  simp[zAg,zCF h8]
  rw[show Nat.ble 8 10=true from rfl]
  simp[zn,h8]
 (repeat (first|refine zP ?_|refine zL ?_|refine zO ?_|refine zC ?_|refine zB ?_|refine zJ ?_|refine zK ?_|refine zM ?_|refine zF ?_|refine zH ?_|refine zG ?_|refine zI (by decide) ?_|refine zN ?_|((first|refine zE ?_|refine zQ ?_|refine zS rfl rfl ?_|refine zR rfl ?_|refine zD ?_);simp only[yq197.down,zA,lemS.down,lemC.down,zap,zao,zam,reduceIte,zan,zaq,zar,zas,zat,zau,zav,zaw,zax,reduceCtorEq,zc,zY,lemH.down,lemW.down,zBj,ldD,hD.load,i9,fill_dig h8])))
 have hn1:(h.new (zn hs (.slice none 0 0) n)).next=h.next+1:=rfl
 have hD1:=hD.new_old (m:=zn hs (.slice none 0 0) n)
 have hO1:=hO.grow (Grows.new (l:=zn hs (.slice none 0 0) n))
 have hd1:Var (h.new (zn hs (.slice none 0 0) n)) h.next (zn hs (.slice none 0 0) n):=Var.new_self
 have hg1:Grows h (h.new (zn hs (.slice none 0 0) n)):=Grows.new
 have ldD1:∀sp,(h.new (zn hs (.slice none 0 0) n)).loadN ⟨D,0,sp⟩ 8=some (hs.map (uw .u32)):=fun sp=>by
  rw[hD1.loadN]
  simp[zAg,zCF h8]
  rw[show Nat.ble 8 10=true from rfl]
  simp[zn,h8]
 refine⟨⟨?_,?_⟩,?_⟩
 ·(refine zAa rfl rfl rfl ?_ ?_<;>simp only[yq197.down,zA,lemS.down,lemC.down,zap,zao,zam,reduceIte,zan,zaq,zar,zas,zat,zau,zav,zaw,zax,reduceCtorEq,ldD,ldD1,zAA,zz,zAB,z8,zw,Option.isSome_some])
 ·(refine zAa rfl rfl rfl ?_ ?_<;>simp only[yq197.down,zA,lemS.down,lemC.down,zap,zao,zam,reduceIte,zan,zaq,zar,zas,zat,zau,zav,zaw,zax,reduceCtorEq,hD.load,hD1.load,i9,zAA,zz,zAB,z8,zw,Option.isSome_some])
 generalize h.new (zn hs (.slice none 0 0) n)=h1 at *
 have hlt:D<h.next:=hD.1
 clear hD hO ldD ldD1
 obtain⟨va,h2,e2,hO2,k2⟩:=(Own.nil (h:=h1) (S:=zCq) (esz:=1)).append (bytes:=1) (m:=r.length) (new:=zV r) (by simp[zCE]) zFV (by decide) (by decide) (by omega)
 have e2':=hO1.src (bytes:=1) (s:=.slice none 0 0)
 rw[e2] at e2'
 (repeat (first|refine zP ?_|refine zL ?_|refine zO ?_|refine zC ?_|refine zB ?_|refine zJ ?_|refine zK ?_|refine zM ?_|refine zF ?_|refine zH ?_|refine zG ?_|refine zI (by decide) ?_|refine zN ?_|((first|refine zE ?_|refine zQ ?_|refine zS rfl rfl ?_|refine zR rfl ?_|refine zD ?_);simp only[yq197.down,zA,lemS.down,lemC.down,zap,zao,zam,reduceIte,zan,zaq,zar,zas,zat,zau,zav,zaw,zax,reduceCtorEq,zc,zY,lemH.down,lemW.down,hd1.load,i8,hD1.load,e2'])))
 have hd2:=hd1.keep k2 id
 have hg2:=hg1.then k2 (fun _ _=>id)
 have hO3:=hO2.grow (Grows.new (l:=[.int .u8 128]))
 have hs3:=(Var.new_self (h:=h2) (l:=[.int .u8 128])).src (n:=1) (esz:=1) (bytes:=1) (s:=va) (sp:=none) (c:=1) rfl (by decide)
 obtain⟨vb,h4,e4,hO4,k4⟩:=hO3.append (bytes:=1) (m:=1) (new:=[.int .u8 128]) rfl rfl (by decide) (by decide) (by omega)
 rw[e4] at hs3
 have hd4:=(hd2.new_old (m:=[.int .u8 128])).keep k4 (fun e=>by rcases e with e|e;exact e.elim;omega)
 have hg4:=(hg2.trans (Grows.new (l:=[.int .u8 128]))).then k4 (fun A hA e=>by rcases e with e|e;exact e.elim;omega)
 have hO4:Own h4 (fun A=>h.next≤A∧A≠h.next) 1 vb (r++[128]).length (zV (r++[128])):=by
  have e:zV (r++[128])=[]++zV r++[.int .u8 128]:=by rw[zDF];rfl
  have hn3:(h2.new [.int .u8 128]).next=h2.next+1:=rfl
  have:=k2.next
  rw[e,List.length_append,←Nat.zero_add r.length]
  refine hO4.mono fun A hA=>?_
  rcases hA with (hA|hA)|hA
  ·exact hA.elim
  ·exact⟨by omega,by omega⟩
  ·exact⟨by omega,by omega⟩
 have st8:=hO4.store (i:=8) hd4 (by rw[zCF h8];decide)
 rw[zEU h8] at st8
 simp only[yq197.down,zA,lemS.down,lemC.down,zap,zao,zam,reduceIte,zan,zaq,zar,zas,zat,zau,zav,zaw,zax,reduceCtorEq,zc,zY,lemH.down,hs3,st8]
 have hd5:Dig (h4.wr h.next (zn hs vb n)) h.next h.next hs (r++[128]) n:=⟨h8,Nat.le_refl _,vb,hd4.wr,hO4.keep Keeps.wr (fun A hA=>hA.2)⟩
 have hk5:Keeps (fun A=>h.next≤A) h (h4.wr h.next (zn hs vb n)):=Keeps.trans hg4.keeps Keeps.wr (fun A _ e=>Nat.le_of_eq e.symm)
 generalize h4.wr h.next (zn hs vb n)=h5 at *
 clear hd1 hg1 hD1 hO1 hd2 hg2 hO2 k2 e2 e2' hO3 hs3 e4 k4 hd4 hg4 hO4 st8
 (repeat (first|refine zP ?_|refine zL ?_|refine zO ?_|refine zC ?_|refine zB ?_|refine zJ ?_|refine zK ?_|refine zM ?_|refine zF ?_|refine zH ?_|refine zG ?_|refine zI (by decide) ?_|refine zN ?_|((first|refine zE ?_|refine zQ ?_|refine zS rfl rfl ?_|refine zR rfl ?_|refine zD ?_);simp only[yq197.down,zA,lemS.down,lemC.down,zap,zao,zam,reduceIte,zan,zaq,zar,zas,zat,zau,zav,zaw,zax,reduceCtorEq,zc,zY,lemH.down])))
 refine sum1_ok pr _ _ h h5 h.next n hs r (by omega) hd5 hk5 ?_ _ (by simp only[yq197.down,zA,lemS.down,lemC.down,zap,zao,zam,reduceIte,zan,zaq,zar,zas,zat,zau,zav,zaw,zax,reduceCtorEq])
 intro t g gd gk t3
 (repeat (first|refine zP ?_|refine zL ?_|refine zO ?_|refine zC ?_|refine zB ?_|refine zJ ?_|refine zK ?_|refine zM ?_|refine zF ?_|refine zH ?_|refine zG ?_|refine zI (by decide) ?_|refine zN ?_|((first|refine zE ?_|refine zQ ?_|refine zS rfl rfl ?_|refine zR rfl ?_|refine zD ?_);simp only[yq197.down,zA,lemS.down,lemC.down,zap,zao,zam,reduceIte,zan,zaq,zar,zas,zat,zau,zav,zaw,zax,reduceCtorEq,zc,zY,lemH.down])))
 have hz:zAr r.length<64:=Nat.mod_lt _ (by decide)
 refine sum2_ok pr _ _ h g h.next n hs _ (by simp;omega) gd gk ?_ _ (by simp only[yq197.down,zA,lemS.down,lemC.down,zap,zao,zam,reduceIte,zan,zaq,zar,zas,zat,zau,zav,zaw,zax,reduceCtorEq,t3]) (by simp only[yq197.down,zA,lemS.down,lemC.down,zap,zao,zam,reduceIte,zan,zaq,zar,zas,zat,zau,zav,zaw,zax,reduceCtorEq])
 intro t g gd gk t3
 (repeat (first|refine zP ?_|refine zL ?_|refine zO ?_|refine zC ?_|refine zB ?_|refine zJ ?_|refine zK ?_|refine zM ?_|refine zF ?_|refine zH ?_|refine zG ?_|refine zI (by decide) ?_|refine zN ?_|((first|refine zE ?_|refine zQ ?_|refine zS rfl rfl ?_|refine zR rfl ?_|refine zD ?_);simp only[yq197.down,zA,lemS.down,lemC.down,zap,zao,zam,reduceIte,zan,zaq,zar,zas,zat,zau,zav,zaw,zax,reduceCtorEq,zc,zY,lemH.down])))
 refine sum3_ok pr hp hw hk hb hc _ _ h g h.next n hs (padB r n) (zLS r n) gd gk ?_ _ (by simp only[yq197.down,zA,lemS.down,lemC.down,zap,zao,zam,reduceIte,zan,zaq,zar,zas,zat,zau,zav,zaw,zax,reduceCtorEq,t3])
 intro t g gd gk t3
 obtain⟨f8,fN,v,gD,gO⟩:=gd
 have ldE:∀sp,g.loadN ⟨h.next,0,sp⟩ 8=some ((absorb ((padB r n).length / 64) hs (padB r n)).map (uw .u32)):=fun sp=>by
  rw[gD.loadN]
  simp[zAg,zCF f8]
  rw[show Nat.ble 8 10=true from rfl]
  simp[zn,f8]
 (repeat (first|refine zP ?_|refine zL ?_|refine zO ?_|refine zC ?_|refine zB ?_|refine zJ ?_|refine zK ?_|refine zM ?_|refine zF ?_|refine zH ?_|refine zG ?_|refine zI (by decide) ?_|refine zN ?_|((first|refine zE ?_|refine zQ ?_|refine zS rfl rfl ?_|refine zR rfl ?_|refine zD ?_);simp only[yq197.down,zA,lemS.down,lemC.down,zap,zao,zam,reduceIte,zan,zaq,zar,zas,zat,zau,zav,zaw,zax,reduceCtorEq,zc,zY,lemH.down,t3,ldE])))
 refine sum4_ok pr _ _ h g h.next _ f8 (Nat.le_of_lt gD.1) gk ?_ _ (by simp only[yq197.down,zA,lemS.down,lemC.down,zap,zao,zam,reduceIte,zan,zaq,zar,zas,zat,zau,zav,zaw,zax,reduceCtorEq]) (by simp only[yq197.down,zA,lemS.down,lemC.down,zap,zao,zam,reduceIte,zan,zaq,zar,zas,zat,zau,zav,zaw,zax,reduceCtorEq]) (by simp only[yq197.down,zA,lemS.down,lemC.down,zap,zao,zam,reduceIte,zan,zaq,zar,zas,zat,zau,zav,zaw,zax,reduceCtorEq])
 intro t g v' go gk t5
 (repeat (first|refine zP ?_|refine zL ?_|refine zO ?_|refine zC ?_|refine zB ?_|refine zJ ?_|refine zK ?_|refine zM ?_|refine zF ?_|refine zH ?_|refine zG ?_|refine zI (by decide) ?_|refine zN ?_|((first|refine zE ?_|refine zQ ?_|refine zS rfl rfl ?_|refine zR rfl ?_|refine zD ?_);simp only[yq197.down,zA,lemS.down,lemC.down,zap,zao,zam,reduceIte,zan,zaq,zar,zas,zat,zau,zav,zaw,zax,reduceCtorEq,zc,zY,lemH.down,t5,go.cb2s])))
 refine⟨.inr rfl,_,rfl,?_,gk.grows (fun A hA=>by omega)⟩
 simp only[yq197.down,zA,lemS.down,lemC.down,zap,zao,zam,reduceIte,zan,zaq,zar,zas,zat,zau,zav,zaw,zax,reduceCtorEq]
 rfl
end Go.X
end
section
open Go Go.X
namespace Go.X
set_option linter.unusedVariables false
def shaS:List Value→Option Value
 | [.string s]=>if s.data.toList.length+400≤zU then some (.string (strOf (sha s.data.toList))) else none
 | _=>none
theorem zIQ {s:List UInt8} (h:s.length+400≤zU):shaS [.string (strOf s)]=some (.string (strOf (sha s))):=by
 simp only[shaS,zAk,if_pos h]
structure zCA (pr:Prog):Prop where
 right:pr.prim 247=some (za zBG)
 words:pr.prim 246=some zB9
 consts:pr.prim 245=some (za zCc)
 begin:pr.prim 221=some (za zEP)
 blk:pr.prim 222=none
 blkC:pr.code 222=some zDe
 new:pr.prim 194=none
 newC:pr.code 194=some xq194
 wr:pr.prim 195=none
 wrC:pr.code 195=some xq195
 sum:pr.prim 197=none
 sumC:pr.code 197=some xq197
theorem zZQ (pr:Prog) (T:zCA pr) (s:List UInt8) (hs:s.length+400≤zU) (h:Heap):Comes pr xq179 [.string (strOf s)] h (.string (strOf (sha s))):=by
 apply Comes.of
 unfold xq179
 dsimp only[zW]
 obtain⟨_,h1,e1,rfl,d1,g1⟩:=zJW pr T.begin T.new T.newC h
 obtain⟨_,h2,e2,rfl,d2,k2⟩:=zJf pr T.right T.words T.consts T.blk T.blkC T.wr T.wrC h1 _ _ _ _ [] s d1 (by simp;omega)
 rw[List.nil_append] at d2
 obtain⟨_,h3,e3,rfl,g3⟩:=zJd pr T.right T.words T.consts T.blk T.blkC T.sum T.sumC h2 _ _ _ _ _ d2 (by simp;omega)
 rw[Nat.zero_add,zL0] at e3
 (repeat (first|refine zP ?_|refine zL ?_|refine zO ?_|refine zC ?_|refine zB ?_|refine zJ ?_|refine zK ?_|refine zM ?_|refine zF ?_|refine zH ?_|refine zG ?_|refine zI (by decide) ?_|refine zN ?_|((first|refine zE ?_|refine zQ ?_|refine zS rfl rfl ?_|refine zR rfl ?_|refine zD ?_);simp only[yq179.down,zA,lemS.down,lemC.down,zap,zao,zam,reduceIte,zan,zaq,zar,zas,zat,zau,zav,zaw,zax,reduceCtorEq,e1,e2,e3])))
 exact⟨.inr rfl,by simp only[yq179.down,zA,lemS.down,lemC.down,zap,zao,zam,reduceIte,zan,zaq,zar,zas,zat,zau,zav,zaw,zax,reduceCtorEq],(g1.then k2 (fun A hA=>by omega)).trans g3⟩
end Go.X
end
section
open Go Go.X
namespace Go.X
set_option linter.unusedVariables false
theorem Own.push {g:Heap} {S:Nat→Prop} {v:Value} {q:List UInt8} (hO:Own g S 1 v q.length (zV q)) (x:Nat) (hroom:q.length+1≤zU) (hS:∀A,g.next≤A→S A) :
  ∃v' g',zAt (g.new [uw .u8 x]) 1 1 v (.slice (some ⟨g.next,0,none⟩) 1 1)=some (v',g')∧Own g' S 1 v' (q++[UInt8.ofNat x]).length (zV (q++[UInt8.ofNat x]))∧Keeps S g g':=by
 have hO1:=hO.grow (Grows.new (l:=[uw .u8 x]))
 have hs1:=(Var.new_self (h:=g) (l:=[uw .u8 x])).src (n:=1) (esz:=1) (bytes:=1) (s:=v) (sp:=none) (c:=1) rfl (by decide)
 obtain⟨v',g2,e2,hO2,k2⟩:=hO1.append (bytes:=1) (m:=1) (new:=[uw .u8 x]) rfl rfl (by decide) (by decide) (by omega)
 refine⟨v',g2,by rw[hs1,e2],?_,(Keeps.new (W:=S)).trans k2 (fun _ _ e=>e)⟩
 rw[←zDG,←zDF] at hO2
 rw[List.length_append]
 refine hO2.mono fun A hA=>?_
 rcases hA with hA|hA
 ·exact hA
 ·exact hS A (by rw[zDG] at hA;exact Nat.le_of_succ_le hA)
end Go.X
end
section
open Go Go.X
namespace Go.X
set_option linter.unusedVariables false
theorem zD7 (s:List UInt8):(sha s).length=32:=by
 unfold sha fin
 rw[zIA,zFJ _ rfl]
def keyB (k:List UInt8):List UInt8:=(if 64<k.length then sha k else k)++List.replicate (64 - (if 64<k.length then sha k else k).length) 0
theorem zKq (k:List UInt8):(keyB k).length=64:=by
 unfold keyB
 rw[List.length_append,List.length_replicate]
 split
 ·rw[zD7]
 ·omega
def padK (k:List UInt8) (b:UInt8):List UInt8:=(keyB k).map (· ^^^ b)
theorem zF7 (k:List UInt8) (b:UInt8):(padK k b).length=64:=by simp[padK,zKq]
def mac (k s:List UInt8):List UInt8:=sha (padK k 92++sha (padK k 54++s))
theorem mac_len (k s:List UInt8):(mac k s).length=32:=zD7 _
def zDU:List Value→Option Value
 | [.string s,.int .i64 c]=>if 0≤c∧c≤9223372036854775807∧s.data.toList.length*c.toNat≤zU then some (.string (strOf (List.replicate c.toNat s.data.toList).flatten)) else none
 | _=>none
theorem zY8 {s:List UInt8} {c:Nat} (h0:c≤9223372036854775807) (h:s.length*c≤zU):zDU [.string (strOf s),.int .i64 (c:Int)]=some (.string (strOf (List.replicate c s).flatten)):=by
 simp only[zDU,zAk]
 rw[if_pos ⟨by omega,by omega,by simpa using h⟩]
 simp
theorem flat1 (n:Nat) (x:UInt8):(List.replicate n [x]).flatten=List.replicate n x:=by
 induction n with
 | zero=>rfl
 | succ n ih=>simp[List.replicate_succ,ih]
def xorP (l:List UInt8) (b:UInt8) (i:Nat):List UInt8:=(l.take i).map (· ^^^ b)++l.drop i
theorem xorP_len {l:List UInt8} {b:UInt8} {i:Nat}:(xorP l b i).length=l.length:=by simp[xorP];omega
theorem xorP_get {l:List UInt8} {b:UInt8} {i:Nat} (hi:i<l.length):(xorP l b i).getD i 0=l.getD i 0:=by
 unfold xorP
 simp only[List.getD_eq_getElem?_getD]
 have e:((l.take i).map (· ^^^ b)).length=i:=by simp;omega
 rw[List.getElem?_append_right (by omega),e,List.getElem?_drop]
 simp
theorem xorP_set {l:List UInt8} {b:UInt8} {i:Nat} (hi:i<l.length):(xorP l b i).set i (l.getD i 0 ^^^ b)=xorP l b (i+1):=by
 unfold xorP
 have e:((l.take i).map (· ^^^ b)).length=i:=by simp;omega
 rw[List.set_append_right _ _ (by omega),e,Nat.sub_self,List.take_succ_eq_append_getElem hi,List.map_append,List.append_assoc,List.drop_eq_getElem_cons hi]
 simp only[List.getD_eq_getElem?_getD,List.getElem?_eq_getElem hi,Option.getD_some,List.set_cons_zero,List.map_cons,List.map_nil,List.cons_append,List.nil_append]
theorem pad_ok (pr:Prog) (hs:pr.prim 179=some (za shaS)) (hr:pr.prim 248=some (za zDU)) (k:List UInt8) (b:UInt8) (hk:k.length+400≤zU) (h:Heap):Comes pr xq223 [.string (strOf k),uw .u8 b.toNat] h (.string (strOf (padK k b))):=by
 apply Comes.of
 unfold xq223
 dsimp only[zW]
 have main:∀ (q:List UInt8) (t:Fr),q.length≤64→q++List.replicate (64 - q.length) 0=keyB k→t.get 0=.string (strOf q)→t.get 1=uw .u8 b.toNat →
   wpk pr (.seq (.ops zJB) (.seq (.seq (.ops zJC) (.block 0 (.loop zJD))) (.seq (.ops zJA) (.ret)))) [] (fun e t h'=>(e=XE.normal∨e=XE.ret)∧t.get 4=.string (strOf (padK k b))∧Grows h h') t h:=by
  intro q t hq hqk t0 t1
  have hr64:zU=140737488355328:=rfl
  have w64:IntKind.i64.wrap (64 - (q.length:Int))=((64 - q.length:Nat):Int):=by rw[wrap_i64 (by omega) (by omega)];omega
  have rep:cfi pr 248 [.string (strOf [0]),.int .i64 ((64 - q.length:Nat):Int)] h=some (.string (strOf (List.replicate (64 - q.length) 0)),h) :=
   zAQ hr (by rw[zY8 (by omega) (by simp;omega),flat1])
  have cat:=zGr (a:=q) (b:=List.replicate (64 - q.length) 0) (by simp;omega)
  rw[hqk] at cat
  (repeat (first|refine zP ?_|refine zL ?_|refine zO ?_|refine zC ?_|refine zB ?_|refine zJ ?_|refine zK ?_|refine zM ?_|refine zF ?_|refine zH ?_|refine zG ?_|refine zI (by decide) ?_|refine zN ?_|((first|refine zE ?_|refine zQ ?_|refine zS rfl rfl ?_|refine zR rfl ?_|refine zD ?_);simp only[yq223.down,zA,lemS.down,lemC.down,zap,zao,zam,reduceIte,zan,zaq,zar,zas,zat,zau,zav,zaw,zax,reduceCtorEq,lemH.down,lemW.down,t0,t1,w64,rep,cat,zFa])))
  have hO:=Own.newB (h:=h) (l:=zV (keyB k)) (n:=(keyB k).length) (esz:=1) (sp:=some 1) (by simp[zCE]) (.inr rfl)
  have hg:Grows h (h.newB (zV (keyB k))):=Grows.newB
  generalize h.newB (zV (keyB k))=h1 at *
  have hkl:=zKq k
  refine zAY (fun m t g=>∃i,m=64 - i∧i≤64∧Own g (fun A=>A=h.next) 1 (.slice (some ⟨h.next,0,some 1⟩) (keyB k).length (keyB k).length) (keyB k).length (zV (xorP (keyB k) b i))∧Keeps (fun A=>A=h.next) h1 g∧t.get 1=uw .u8 b.toNat∧t.get 5=.slice (some ⟨h.next,0,some 1⟩) (keyB k).length (keyB k).length∧t.get 20=.int .i64 ((keyB k).length:Int)∧t.get 21=.int .i64 (i:Int)) ?_ 64 _ _ ⟨0,rfl,by omega,by simpa [xorP] using hO,Keeps.refl,by simp only[yq223.down,zA,lemS.down,lemC.down,zap,zao,zam,reduceIte,zan,zaq,zar,zas,zat,zau,zav,zaw,zax,reduceCtorEq,t1],by simp only[yq223.down,zA,lemS.down,lemC.down,zap,zao,zam,reduceIte,zan,zaq,zar,zas,zat,zau,zav,zaw,zax,reduceCtorEq],by simp only[yq223.down,zA,lemS.down,lemC.down,zap,zao,zam,reduceIte,zan,zaq,zar,zas,zat,zau,zav,zaw,zax,reduceCtorEq],by (simp only[yq223.down,zA,lemS.down,lemC.down,zap,zao,zam,reduceIte,zan,zaq,zar,zas,zat,zau,zav,zaw,zax,reduceCtorEq])<;>rfl⟩
  rintro m t g ⟨i,rfl,hi,gO,gk,t1,t5,t20,t21⟩ hnext
  refine xq223_9k ?_
  dsimp only[zJE]
  (repeat (first|refine zP ?_|refine zL ?_|refine zO ?_|refine zC ?_|refine zB ?_|refine zJ ?_|refine zK ?_|refine zM ?_|refine zF ?_|refine zH ?_|refine zG ?_|refine zI (by decide) ?_|refine zN ?_|((first|refine zE ?_|refine zQ ?_|refine zS rfl rfl ?_|refine zR rfl ?_|refine zD ?_);simp only[yq223.down,zA,lemS.down,lemC.down,zap,zao,zam,reduceIte,zan,zaq,zar,zas,zat,zau,zav,zaw,zax,reduceCtorEq,lemH.down,lemW.down,t1,t5,t20,t21])))
  refine⟨fun hlt=>?_,fun hge=>?_⟩
  ·have hi':i<64:=by omega
   have ww:IntKind.i64.wrap ((i:Int)+1)=((i+1:Nat):Int):=by rw[wrap_i64 (by omega) (by omega)];omega
   obtain⟨B,o,a1,l1,st⟩:=gO.set1 (i:=i) (k:=.i64) (by omega)
   rw[zG8 (by rw[xorP_len];omega),xorP_get (by omega)] at l1
   obtain⟨g2,st2,gO2,gk2⟩:=st (uw .u8 (((keyB k).getD i 0).toNat ^^^ b.toNat)) rfl rfl
   rw[←UInt8.toNat_xor,zGX,zXX,xorP_set (by omega)] at gO2
   (repeat (first|refine zP ?_|refine zL ?_|refine zO ?_|refine zC ?_|refine zB ?_|refine zJ ?_|refine zK ?_|refine zM ?_|refine zF ?_|refine zH ?_|refine zG ?_|refine zI (by decide) ?_|refine zN ?_|((first|refine zE ?_|refine zQ ?_|refine zS rfl rfl ?_|refine zR rfl ?_|refine zD ?_);simp only[yq223.down,zA,lemS.down,lemC.down,zap,zao,zam,reduceIte,zan,zaq,zar,zas,zat,zau,zav,zaw,zax,reduceCtorEq,lemH.down,lemW.down,t1,t5,t20,t21,zBT,a1,l1,st2,ww])))
   refine hnext (64 - (i+1)) _ _ (by omega) ⟨i+1,rfl,by omega,gO2,gk.trans gk2 (fun _ _ e=>e),?_,?_,?_,?_⟩<;>simp only[yq223.down,zA,lemS.down,lemC.down,zap,zao,zam,reduceIte,zan,zaq,zar,zas,zat,zau,zav,zaw,zax,reduceCtorEq,t1,t5,t20]
  ·obtain rfl:i=64:=by omega
   have hx:xorP (keyB k) b 64=padK k b:=by
    unfold xorP padK
    rw[List.take_of_length_le (by omega),List.drop_of_length_le (by omega),List.append_nil]
   rw[hx] at gO
   (repeat (first|refine zP ?_|refine zL ?_|refine zO ?_|refine zC ?_|refine zB ?_|refine zJ ?_|refine zK ?_|refine zM ?_|refine zF ?_|refine zH ?_|refine zG ?_|refine zI (by decide) ?_|refine zN ?_|((first|refine zE ?_|refine zQ ?_|refine zS rfl rfl ?_|refine zR rfl ?_|refine zD ?_);simp only[yq223.down,zA,lemS.down,lemC.down,zap,zao,zam,reduceIte,zan,zaq,zar,zas,zat,zau,zav,zaw,zax,reduceCtorEq,lemH.down,lemW.down,t1,t5,t20,t21,gO.cb2s])))
   exact⟨.inr rfl,by simp only[yq223.down,zA,lemS.down,lemC.down,zap,zao,zam,reduceIte,zan,zaq,zar,zas,zat,zau,zav,zaw,zax,reduceCtorEq],hg.then gk (fun A hA e=>by omega)⟩
 (repeat (first|refine zP ?_|refine zL ?_|refine zO ?_|refine zC ?_|refine zB ?_|refine zJ ?_|refine zK ?_|refine zM ?_|refine zF ?_|refine zH ?_|refine zG ?_|refine zI (by decide) ?_|refine zN ?_|((first|refine zE ?_|refine zQ ?_|refine zS rfl rfl ?_|refine zR rfl ?_|refine zD ?_);simp only[yq223.down,zA,lemS.down,lemC.down,zap,zao,zam,reduceIte,zan,zaq,zar,zas,zat,zau,zav,zaw,zax,reduceCtorEq,lemH.down,lemW.down])))
 refine⟨fun hl=>?_,fun hl=>?_⟩
 ·refine zE ?_
  simp only[yq223.down,zA,lemS.down,lemC.down,zap,zao,zam,reduceIte,zan,zaq,zar,zas,zat,zau,zav,zaw,zax,reduceCtorEq,zAQ hs (zIQ hk)]
  refine zB (main (sha k) _ (by rw[zD7];decide) ?_ (by simp only[yq223.down,zA,lemS.down,lemC.down,zap,zao,zam,reduceIte,zan,zaq,zar,zas,zat,zau,zav,zaw,zax,reduceCtorEq]) (by simp only[yq223.down,zA,lemS.down,lemC.down,zap,zao,zam,reduceIte,zan,zaq,zar,zas,zat,zau,zav,zaw,zax,reduceCtorEq]))
  unfold keyB
  rw[if_pos (by omega)]
 ·refine zC (zB (main k _ (by omega) ?_ (by simp only[yq223.down,zA,lemS.down,lemC.down,zap,zao,zam,reduceIte,zan,zaq,zar,zas,zat,zau,zav,zaw,zax,reduceCtorEq]) (by simp only[yq223.down,zA,lemS.down,lemC.down,zap,zao,zam,reduceIte,zan,zaq,zar,zas,zat,zau,zav,zaw,zax,reduceCtorEq])))
  unfold keyB
  rw[if_neg (by omega)]
end Go.X
end
section
open Go Go.X
namespace Go.X
set_option linter.unusedVariables false
def padS:List Value→Option Value
 | [.string k,.int .u8 b]=>if k.data.toList.length+400≤zU∧0≤b∧b<256 then some (.string (strOf (padK k.data.toList (UInt8.ofNat b.toNat)))) else none
 | _=>none
theorem zLT {k:List UInt8} {b:Nat} (h:k.length+400≤zU) (hb:b<256):padS [.string (strOf k),.int .u8 (OfNat.ofNat b)]=some (.string (strOf (padK k (UInt8.ofNat b)))):=by
 have e:(OfNat.ofNat b:Int)=(b:Int):=rfl
 simp only[padS,zAk,e]
 rw[if_pos ⟨h,by omega,by omega⟩]
 simp
def tagS:List Value→Option Value
 | [.string k,.string s]=>if k.data.toList.length+400≤zU∧s.data.toList.length+500≤zU then some (.string (strOf (mac k.data.toList s.data.toList))) else none
 | _=>none
theorem tagS_at {k s:List UInt8} (h:k.length+400≤zU) (h2:s.length+500≤zU):tagS [.string (strOf k),.string (strOf s)]=some (.string (strOf (mac k s))):=by
 simp only[tagS,zAk,if_pos (And.intro h h2)]
theorem tag_ok (pr:Prog) (hs:pr.prim 179=some (za shaS)) (hp:pr.prim 223=some (za padS)) (k s:List UInt8) (hk:k.length+400≤zU) (hs5:s.length+500≤zU) (h:Heap):Comes pr xq199 [.string (strOf k),.string (strOf s)] h (.string (strOf (mac k s))):=by
 apply Comes.of
 unfold xq199
 dsimp only[zW]
 have hr64:zU=140737488355328:=rfl
 have p1:=zAQ (h:=h) hp (zLT (b:=92) hk (by decide))
 have p2:=zAQ (h:=h) hp (zLT (b:=54) hk (by decide))
 have c1:=zGr (a:=padK k (UInt8.ofNat 54)) (b:=s) (by rw[zF7];omega)
 have s1:=zAQ (h:=h) hs (zIQ (s:=padK k (UInt8.ofNat 54)++s) (by rw[List.length_append,zF7];omega))
 have c2:=zGr (a:=padK k (UInt8.ofNat 92)) (b:=sha (padK k (UInt8.ofNat 54)++s)) (by rw[zF7,zD7];omega)
 have s2:=zAQ (h:=h) hs (zIQ (s:=padK k (UInt8.ofNat 92)++sha (padK k (UInt8.ofNat 54)++s)) (by rw[List.length_append,zF7,zD7];omega))
 have p1:cfi pr 223 [.string (strOf k),.int .u8 92] h=_:=p1
 have p2:cfi pr 223 [.string (strOf k),.int .u8 54] h=_:=p2
 (repeat (first|refine zP ?_|refine zL ?_|refine zO ?_|refine zC ?_|refine zB ?_|refine zJ ?_|refine zK ?_|refine zM ?_|refine zF ?_|refine zH ?_|refine zG ?_|refine zI (by decide) ?_|refine zN ?_|((first|refine zE ?_|refine zQ ?_|refine zS rfl rfl ?_|refine zR rfl ?_|refine zD ?_);simp only[yq199.down,zA,lemS.down,lemC.down,zap,zao,zam,reduceIte,zan,zaq,zar,zas,zat,zau,zav,zaw,zax,reduceCtorEq,p1,p2,c1,s1,c2,s2])))
 exact⟨.inr rfl,by (simp only[yq199.down,zA,lemS.down,lemC.down,zap,zao,zam,reduceIte,zan,zaq,zar,zas,zat,zau,zav,zaw,zax,reduceCtorEq])<;>rfl,Grows.refl h⟩
def zC1 (x:UInt8):List UInt8→List UInt8→UInt8
 | a::l,b::m=>zC1 (x ||| (a ^^^ b)) l m
 | _,_=>x
theorem or_zero8 {x y:UInt8}:(x ||| y=0)↔(x=0∧y=0):=by
 constructor
 ·intro h
  have e:x.toNat ||| y.toNat=0:=by rw[←UInt8.toNat_or,h];rfl
  have:=Nat.or_eq_zero_iff.1 e
  exact⟨UInt8.toNat_inj.1 this.1,UInt8.toNat_inj.1 this.2⟩
 ·rintro⟨rfl,rfl⟩;rfl
theorem zLt:∀ (a b:List UInt8) (x:UInt8),a.length=b.length→(zC1 x a b=0↔x=0∧a=b)
 | [],[],x,_=>by simp[zC1]
 | a::l,b::m,x,h=>by
  simp only[zC1]
  rw[zLt l m _ (by simpa using h),or_zero8,UInt8.xor_eq_zero_iff]
  simp only[List.cons.injEq]
  constructor
  ·rintro⟨⟨h1,h2⟩,h3⟩;exact⟨h1,h2,h3⟩
  ·rintro⟨h1,h2,h3⟩;exact⟨⟨h1,h2⟩,h3⟩
 | [],_::_,_,h=>by simp at h
 | _::_,[],_,h=>by simp at h
def zDW:List Value→Option Value
 | [.string a,.string b]=>if a.data.toList.length≤zU then some (.bool (a.data.toList==b.data.toList)) else none
 | _=>none
theorem sameS_at {a b:List UInt8} (h:a.length≤zU):zDW [.string (strOf a),.string (strOf b)]=some (.bool (a==b)):=by
 simp only[zDW,zAk,if_pos h]
theorem zGH (pr:Prog) (a b:List UInt8) (hr:a.length≤zU) (h:Heap):Comes pr xq212 [.string (strOf a),.string (strOf b)] h (.bool (a==b)):=by
 apply Comes.of
 unfold xq212
 dsimp only[zW]
 have hr64:zU=140737488355328:=rfl
 (repeat (first|refine zP ?_|refine zL ?_|refine zO ?_|refine zC ?_|refine zB ?_|refine zJ ?_|refine zK ?_|refine zM ?_|refine zF ?_|refine zH ?_|refine zG ?_|refine zI (by decide) ?_|refine zN ?_|((first|refine zE ?_|refine zQ ?_|refine zS rfl rfl ?_|refine zR rfl ?_|refine zD ?_);simp only[yq212.down,zA,lemS.down,lemC.down,zap,zao,zam,reduceIte,zan,zaq,zar,zas,zat,zau,zav,zaw,zax,reduceCtorEq,lemH.down,lemW.down])))
 refine⟨fun hne=>?_,fun heq=>?_⟩
 ·(repeat (first|refine zP ?_|refine zL ?_|refine zO ?_|refine zC ?_|refine zB ?_|refine zJ ?_|refine zK ?_|refine zM ?_|refine zF ?_|refine zH ?_|refine zG ?_|refine zI (by decide) ?_|refine zN ?_|((first|refine zE ?_|refine zQ ?_|refine zS rfl rfl ?_|refine zR rfl ?_|refine zD ?_);simp only[yq212.down,zA,lemS.down,lemC.down,zap,zao,zam,reduceIte,zan,zaq,zar,zas,zat,zau,zav,zaw,zax,reduceCtorEq,lemH.down,lemW.down])))
  refine⟨.inr rfl,?_,Grows.refl h⟩
  simp only[yq212.down,zA,lemS.down,lemC.down,zap,zao,zam,reduceIte,zan,zaq,zar,zas,zat,zau,zav,zaw,zax,reduceCtorEq]
  congr 1
  symm
  rw[beq_eq_false_iff_ne]
  rintro rfl
  exact hne rfl
 ·have hl:a.length=b.length:=by omega
  (repeat (first|refine zP ?_|refine zL ?_|refine zO ?_|refine zC ?_|refine zB ?_|refine zJ ?_|refine zK ?_|refine zM ?_|refine zF ?_|refine zH ?_|refine zG ?_|refine zI (by decide) ?_|refine zN ?_|((first|refine zE ?_|refine zQ ?_|refine zS rfl rfl ?_|refine zR rfl ?_|refine zD ?_);simp only[yq212.down,zA,lemS.down,lemC.down,zap,zao,zam,reduceIte,zan,zaq,zar,zas,zat,zau,zav,zaw,zax,reduceCtorEq,lemH.down,lemW.down])))
  refine zAY (fun m t g=>∃i x,m=a.length - i∧i≤a.length∧g=h∧zC1 x (a.drop i) (b.drop i)=zC1 0 a b∧t.get 0=.string (strOf a)∧t.get 1=.string (strOf b)∧t.get 5=uw .u8 x.toNat∧t.get 13=.int .i64 (a.length:Int)∧t.get 14=.int .i64 (i:Int)) ?_ a.length _ _ ⟨0,0,rfl,by omega,rfl,rfl,by simp only[yq212.down,zA,lemS.down,lemC.down,zap,zao,zam,reduceIte,zan,zaq,zar,zas,zat,zau,zav,zaw,zax,reduceCtorEq],by simp only[yq212.down,zA,lemS.down,lemC.down,zap,zao,zam,reduceIte,zan,zaq,zar,zas,zat,zau,zav,zaw,zax,reduceCtorEq],by (simp only[yq212.down,zA,lemS.down,lemC.down,zap,zao,zam,reduceIte,zan,zaq,zar,zas,zat,zau,zav,zaw,zax,reduceCtorEq])<;>rfl,by simp only[yq212.down,zA,lemS.down,lemC.down,zap,zao,zam,reduceIte,zan,zaq,zar,zas,zat,zau,zav,zaw,zax,reduceCtorEq],by (simp only[yq212.down,zA,lemS.down,lemC.down,zap,zao,zam,reduceIte,zan,zaq,zar,zas,zat,zau,zav,zaw,zax,reduceCtorEq])<;>rfl⟩
  rintro m t g ⟨i,x,rfl,hi,rfl,hx,t0,t1,t5,t13,t14⟩ hnext
  refine xq212_9k ?_
  dsimp only[zI5]
  (repeat (first|refine zP ?_|refine zL ?_|refine zO ?_|refine zC ?_|refine zB ?_|refine zJ ?_|refine zK ?_|refine zM ?_|refine zF ?_|refine zH ?_|refine zG ?_|refine zI (by decide) ?_|refine zN ?_|((first|refine zE ?_|refine zQ ?_|refine zS rfl rfl ?_|refine zR rfl ?_|refine zD ?_);simp only[yq212.down,zA,lemS.down,lemC.down,zap,zao,zam,reduceIte,zan,zaq,zar,zas,zat,zau,zav,zaw,zax,reduceCtorEq,lemH.down,lemW.down,t0,t1,t5,t13,t14])))
  refine⟨fun hlt=>?_,fun hge=>?_⟩
  ·have hi':i<a.length:=by omega
   have ww:IntKind.i64.wrap ((i:Int)+1)=((i+1:Nat):Int):=by rw[wrap_i64 (by omega) (by omega)];omega
   (repeat (first|refine zP ?_|refine zL ?_|refine zO ?_|refine zC ?_|refine zB ?_|refine zJ ?_|refine zK ?_|refine zM ?_|refine zF ?_|refine zH ?_|refine zG ?_|refine zI (by decide) ?_|refine zN ?_|((first|refine zE ?_|refine zQ ?_|refine zS rfl rfl ?_|refine zR rfl ?_|refine zD ?_);simp only[yq212.down,zA,lemS.down,lemC.down,zap,zao,zam,reduceIte,zan,zaq,zar,zas,zat,zau,zav,zaw,zax,reduceCtorEq,lemH.down,lemW.down,t0,t1,t5,t13,t14,zHd hi',zHd (s:=b) (i:=i) (by omega),ww])))
   refine hnext (a.length - (i+1)) _ _ (by omega) ⟨i+1,x ||| (a.getD i 0 ^^^ b.getD i 0),rfl,by omega,rfl,?_,by simp only[yq212.down,zA,lemS.down,lemC.down,zap,zao,zam,reduceIte,zan,zaq,zar,zas,zat,zau,zav,zaw,zax,reduceCtorEq,t0],by simp only[yq212.down,zA,lemS.down,lemC.down,zap,zao,zam,reduceIte,zan,zaq,zar,zas,zat,zau,zav,zaw,zax,reduceCtorEq,t1],by simp only[yq212.down,zA,lemS.down,lemC.down,zap,zao,zam,reduceIte,zan,zaq,zar,zas,zat,zau,zav,zaw,zax,reduceCtorEq];rw[UInt8.toNat_or,UInt8.toNat_xor],by simp only[yq212.down,zA,lemS.down,lemC.down,zap,zao,zam,reduceIte,zan,zaq,zar,zas,zat,zau,zav,zaw,zax,reduceCtorEq,t13],by simp only[yq212.down,zA,lemS.down,lemC.down,zap,zao,zam,reduceIte,zan,zaq,zar,zas,zat,zau,zav,zaw,zax,reduceCtorEq]⟩
   rw[←hx,List.drop_eq_getElem_cons (l:=a) hi',List.drop_eq_getElem_cons (l:=b) (show i<b.length by omega)]
   simp only[zC1,List.getD_eq_getElem?_getD,List.getElem?_eq_getElem hi',List.getElem?_eq_getElem (show i<b.length by omega),Option.getD_some]
  ·obtain rfl:i=a.length:=by omega
   rw[List.drop_of_length_le (Nat.le_refl _),List.drop_of_length_le (by omega)] at hx
   have hx':x=zC1 0 a b:=hx
   have hz:=zLt a b 0 hl
   rw[←hx'] at hz
   rw[show uw .u8 x.toNat=.int .u8 (x.toNat:Int) from zGX x] at t5
   (repeat (first|refine zP ?_|refine zL ?_|refine zO ?_|refine zC ?_|refine zB ?_|refine zJ ?_|refine zK ?_|refine zM ?_|refine zF ?_|refine zH ?_|refine zG ?_|refine zI (by decide) ?_|refine zN ?_|((first|refine zE ?_|refine zQ ?_|refine zS rfl rfl ?_|refine zR rfl ?_|refine zD ?_);simp only[yq212.down,zA,lemS.down,lemC.down,zap,zao,zam,reduceIte,zan,zaq,zar,zas,zat,zau,zav,zaw,zax,reduceCtorEq,lemH.down,lemW.down,t5])))
   refine⟨.inr rfl,?_,Grows.refl _⟩
   simp only[yq212.down,zA,lemS.down,lemC.down,zap,zao,zam,reduceIte,zan,zaq,zar,zas,zat,zau,zav,zaw,zax,reduceCtorEq]
   congr 1
   by_cases e:a=b
   ·have hx0:=hz.2 ⟨rfl,e⟩
    rw[hx0,e];simp
   ·have:x≠0:=fun e'=>e (hz.1 e').2
    have:x.toNat≠0:=fun e'=>this (UInt8.toNat_inj.1 e')
    rw[show (a==b)=false by rw[beq_eq_false_iff_ne];exact e,beq_eq_false_iff_ne]
    omega
def zER:List Value→Option Value
 | [.string k,.string s,.string t]=>if k.data.toList.length+400≤zU∧s.data.toList.length+500≤zU then some (.bool (mac k.data.toList s.data.toList==t.data.toList)) else none
 | _=>none
theorem check_ok (pr:Prog) (hs:pr.prim 212=some (za zDW)) (hp:pr.prim 199=some (za tagS)) (k s t:List UInt8) (hk:k.length+400≤zU) (hs5:s.length+500≤zU) (h:Heap):Comes pr xq216 [.string (strOf k),.string (strOf s),.string (strOf t)] h (.bool (mac k s==t)):=by
 apply Comes.of
 unfold xq216
 dsimp only[zW]
 (repeat (first|refine zP ?_|refine zL ?_|refine zO ?_|refine zC ?_|refine zB ?_|refine zJ ?_|refine zK ?_|refine zM ?_|refine zF ?_|refine zH ?_|refine zG ?_|refine zI (by decide) ?_|refine zN ?_|((first|refine zE ?_|refine zQ ?_|refine zS rfl rfl ?_|refine zR rfl ?_|refine zD ?_);simp only[yq216.down,zA,lemS.down,lemC.down,zap,zao,zam,reduceIte,zan,zaq,zar,zas,zat,zau,zav,zaw,zax,reduceCtorEq,zAQ hp (tagS_at hk hs5),zAQ hs (sameS_at (show (mac k s).length≤zU by rw[mac_len];decide))])))
 exact⟨.inr rfl,by simp only[yq216.down,zA,lemS.down,lemC.down,zap,zao,zam,reduceIte,zan,zaq,zar,zas,zat,zau,zav,zaw,zax,reduceCtorEq],Grows.refl h⟩
end Go.X
end
section
open Go Go.X
namespace Go.X
set_option linter.unusedVariables false
def zAm (n:Nat):List UInt8:=[UInt8.ofNat (n / 16777216),UInt8.ofNat (n / 65536),UInt8.ofNat (n / 256),UInt8.ofNat n]
def zCu (s:List UInt8):List UInt8:=zAm s.length++s
def zAP (l:List (List UInt8)):List UInt8:=l.flatMap zCu
def tagged (p:UInt8) (l:List (List UInt8)):List UInt8:=sha (p::zAP l)
theorem zGP (p:UInt8) (l:List (List UInt8)):(tagged p l).length=32:=zD7 _
def zBK (l:List (List UInt8)):List Value:=l.map fun s=>.string (strOf s)
theorem zXa {l:List (List UInt8)}:(zBK l).length=l.length:=by simp[zBK]
theorem zXZ {l:List (List UInt8)} {i:Nat} (hi:i<l.length):(zBK l)[i]?=some (.string (strOf (l.getD i []))):=by
 simp[zBK,List.getElem?_map,List.getElem?_eq_getElem hi,List.getD_eq_getElem?_getD]
def zCh:List Value→Option Value
 | [.int .i64 n]=>if 0≤n∧n<9223372036854775808 then some (.string (strOf (zAm n.toNat))) else none
 | _=>none
theorem zKb {n:Nat} (h:n<9223372036854775808):zCh [.int .i64 (n:Int)]=some (.string (strOf (zAm n))):=by
 simp only[zCh]
 rw[if_pos (by omega)]
 simp
theorem zKa (n:Nat):zV (zAm n)=[uw .u8 (n / 16777216),uw .u8 (n / 65536),uw .u8 (n / 256),uw .u8 n]:=by
 simp only[←zDG]
 rfl
theorem fill4' {z:Value} {a b c d:Nat}:zt (List.replicate 4 z) [(0,1,uw .u8 a),(1,1,uw .u8 b),(2,1,uw .u8 c),(3,1,uw .u8 d)]=some [uw .u8 a,uw .u8 b,uw .u8 c,uw .u8 d]:=by simp[zt,zFX,putN,List.replicate]
theorem shrI {k:IntKind} {n j:Nat} (hj:j≤64):binX .shr (.int .i64 (n:Int)) (.int k (OfNat.ofNat j))=some (.int .i64 ((n / 2 ^ j:Nat):Int)):=by
 have e:(OfNat.ofNat j:Int)=(j:Int):=rfl
 rw[e,zJv (by omega),Int.toNat_natCast,Nat.min_eq_left (show j≤IntKind.i64.bits from hj),Int.fdiv_eq_ediv_of_nonneg _ (by exact Int.le_of_lt (Int.pow_pos (by omega)))]
 simp
theorem four_ok (pr:Prog) (n:Nat) (hn:n<9223372036854775808) (h:Heap):Comes pr xq196 [.int .i64 (n:Int)] h (.string (strOf (zAm n))):=by
 apply Comes.of
 unfold xq196
 dsimp only[zW]
 have c:=fun n=>zE2 (k:=.u8) (k':=.i64) zZn (n:=n)
 have hO:=Own.newSlice (h:=h) (l:=zV (zAm n)) (n:=4) (esz:=1) (sp:=none) (by rw[zKa];rfl) (.inl rfl)
 have s24:=shrI (k:=.u64) (n:=n) (j:=24) (by decide)
 have s16:=shrI (k:=.u64) (n:=n) (j:=16) (by decide)
 have s8:=shrI (k:=.u64) (n:=n) (j:=8) (by decide)
 simp only[Nat.reducePow] at s24 s16 s8
 have hb:=hO.cb2s
 rw[zKa] at hb
 (repeat (first|refine zP ?_|refine zL ?_|refine zO ?_|refine zC ?_|refine zB ?_|refine zJ ?_|refine zK ?_|refine zM ?_|refine zF ?_|refine zH ?_|refine zG ?_|refine zI (by decide) ?_|refine zN ?_|((first|refine zE ?_|refine zQ ?_|refine zS rfl rfl ?_|refine zR rfl ?_|refine zD ?_);simp only[yq196.down,zA,lemS.down,lemC.down,zap,zao,zam,reduceIte,zan,zaq,zar,zas,zat,zau,zav,zaw,zax,reduceCtorEq,lemH.down,lemW.down,s24,s16,s8,c,fill4',hb])))
 exact⟨.inr rfl,by simp only[yq196.down,zA,lemS.down,lemC.down,zap,zao,zam,reduceIte,zan,zaq,zar,zas,zat,zau,zav,zaw,zax,reduceCtorEq],Grows.new⟩
end Go.X
end
section
open Go Go.X
namespace Go.X
set_option linter.unusedVariables false
theorem st_app (b s:List UInt8):absorb ((b.drop (64*(b.length / 64))++s).length / 64) (absorb (b.length / 64) Sha.H0 b) (b.drop (64*(b.length / 64))++s)=absorb ((b++s).length / 64) Sha.H0 (b++s) ∧
  (b.drop (64*(b.length / 64))++s).drop (64*((b.drop (64*(b.length / 64))++s).length / 64))=(b++s).drop (64*((b++s).length / 64)):=by
 have hd:(b++s).drop (64*(b.length / 64))=b.drop (64*(b.length / 64))++s:=List.drop_append_of_le_length (by omega)
 have hl:(b.drop (64*(b.length / 64))++s).length=(b++s).length - 64*(b.length / 64):=by rw[←hd,List.length_drop]
 have hn:(b++s).length / 64=b.length / 64+(b.drop (64*(b.length / 64))++s).length / 64:=by
  rw[hl,List.length_append];omega
 constructor
 ·rw[hn,zGl,zFI (b.length / 64) Sha.H0 b s (by omega),hd]
 ·rw[hn,Nat.mul_add,←List.drop_drop,hd]
def DigB (h:Heap) (N D:Nat) (b:List UInt8):Prop:=Dig h N D (absorb (b.length / 64) Sha.H0 b) (b.drop (64*(b.length / 64))) b.length
theorem New_B {pr:Prog} (T:zCA pr) (h:Heap):∃v h',cfi pr 194 [] h=some (v,h')∧v=.pointer (some ⟨h.next,0,none⟩)∧DigB h' h.next h.next []∧Grows h h':=zJW pr T.begin T.new T.newC h
theorem zGk {pr:Prog} (T:zCA pr) {h:Heap} {N D:Nat} {b:List UInt8} (hd:DigB h N D b) (s:List UInt8) (hroom:s.length+64≤zU) :
  ∃v h',cfi pr 195 [.pointer (some ⟨D,0,none⟩),.string (strOf s)] h=some (v,h')∧v=.tuple #[]∧DigB h' N D (b++s)∧Keeps (fun A=>N≤A) h h':=by
 obtain⟨v,h',e,hv,d,k⟩:=zJf pr T.right T.words T.consts T.blk T.blkC T.wr T.wrC h N D _ _ _ s hd (by rw[List.length_drop];omega)
 rw[(st_app b s).1,(st_app b s).2,←List.length_append] at d
 exact⟨v,h',e,hv,d,k⟩
theorem Sum_B {pr:Prog} (T:zCA pr) {h:Heap} {N D:Nat} {b:List UInt8} (hd:DigB h N D b):∃v h',cfi pr 197 [.pointer (some ⟨D,0,none⟩)] h=some (v,h')∧v=.string (strOf (sha b))∧Grows h h':=by
 have:=zJd pr T.right T.words T.consts T.blk T.blkC T.sum T.sumC h N D _ _ _ hd (by rw[List.length_drop];have:zU=140737488355328:=rfl;omega)
 rw[zL0] at this
 exact this
def zC5:List Value→Option (List (List UInt8))
 | []=>some []
 | .string s::r=>(match zC5 r with|some l=>some (s.data.toList::l)|none=>none)
 | _::_=>none
theorem zME:∀l:List (List UInt8),zC5 (zBK l)=some l
 | []=>rfl
 | s::l=>by
  have:=zME l
  unfold zBK at this ⊢
  simp only[List.map_cons,zC5,this,zAk]
theorem zMF:∀ {cs:List Value} {l:List (List UInt8)},zC5 cs=some l→cs=zBK l
 | [],l,h=>by cases h;rfl
 | c::cs,l,h=>by
  unfold zC5 at h
  split at h
  ·rename_i heq;cases heq
  ·rename_i s r heq
   cases heq
   split at h
   ·rename_i q hq
    cases h
    rw[zMF hq]
    simp only[zBK,List.map_cons]
    rw[show strOf s.data.toList=s from zEB s]
   ·cases h
  ·cases h
def zBU (h:Heap):Value→Option (List (List UInt8))
 | .slice none n _=>if n=0 then some [] else none
 | .slice (some a) n _=>if n=0 then some [] else (match h.loadN a n with|some cs=>zC5 cs|none=>none)
 | _=>none
theorem Own.strs {h:Heap} {S:Nat→Prop} {v:Value} {n:Nat} {l:List (List UInt8)} (ho:Own h S 1 v n (zBK l)):zBU h v=some l:=by
 obtain⟨a,cap,rfl,hs⟩:=ho.shape
 by_cases h0:n=0
 ·subst h0
  have:=ho.nil_of
  obtain rfl:l=[]:=by cases l with|nil=>rfl|cons x l=>simp[zBK] at this
  cases a<;>simp[zBU]
 ·obtain⟨B,off,sp,rfl,h1,_⟩:=hs h0
  simp only[zBU]
  rw[if_neg h0]
  rw[Nat.mul_one] at h1
  simp only[h1,zME]
theorem zFu {h:Heap} {a:Addr} {n:Nat} {l:List Value} (hl:h.loadN a n=some l):l.length=n:=by
 unfold Heap.loadN at hl
 split at hl
 ·rename_i c hc
  unfold zAg at hl
  cases hb:(a.off+n).ble c.cells.length with
  | false=>rw[hb] at hl;cases hl
  | true =>
   rw[hb] at hl
   cases hl
   have:=Nat.le_of_ble_eq_true hb
   simp;omega
 ·cases hl
theorem zZh {h:Heap} {v:Value} {l:List (List UInt8)} (hs:zBU h v=some l):∃a cap,v=.slice a l.length cap∧∀i,i<l.length→∃B o,(∀k:IntKind,zA9 1 v (.int k (i:Int))=some (.pointer (some ⟨B,o,none⟩)))∧h.load ⟨B,o,none⟩=some (.string (strOf (l.getD i []))):=by
 unfold zBU at hs
 split at hs
 ·rename_i n c
  split at hs
  ·rename_i h0
   cases hs
   subst h0
   exact⟨none,c,rfl,fun i hi=>by simp at hi⟩
  ·cases hs
 ·rename_i a n c
  split at hs
  ·rename_i h0
   cases hs
   subst h0
   exact⟨some a,c,rfl,fun i hi=>by simp at hi⟩
  ·split at hs
   ·rename_i cs hcs
    obtain rfl:=zMF hs
    have hn:l.length=n:=by
     have:=zFu hcs
     rw[zXa] at this
     exact this
    subst hn
    exact⟨some a,c,rfl,fun i hi=>⟨a.block,a.off+i,fun k=>zCi hi,zEf hcs (zXZ hi)⟩⟩
   ·cases hs
 ·cases hs
def zB7:Prim:=fun args h=>match args with
 | [.int .u8 p,v]=>(match zBU h v with
  | some l=>if 0≤p∧p<256∧(zAP l).length+1000≤zU then some (.string (strOf (tagged (UInt8.ofNat p.toNat) l)),h) else none
  | none=>none)
 | _=>none
theorem zE0 {h:Heap} {v:Value} {l:List (List UInt8)} {p:Nat} (hs:zBU h v=some l) (hp:p<256) (hr:(zAP l).length+1000≤zU):zB7 [.int .u8 (OfNat.ofNat p),v] h=some (.string (strOf (tagged (UInt8.ofNat p) l)),h):=by
 have e:(OfNat.ofNat p:Int)=(p:Int):=rfl
 simp only[zB7,hs,e]
 rw[if_pos ⟨by omega,by omega,hr⟩]
 simp
theorem zLU {l:List (List UInt8)} {i:Nat} (hi:i<l.length):zAP (l.take (i+1))=zAP (l.take i)++zAm (l.getD i []).length++l.getD i []:=by
 unfold zAP
 rw[List.take_succ_eq_append_getElem hi,List.flatMap_append,List.flatMap_cons,List.flatMap_nil,List.append_nil,List.append_assoc]
 simp[zCu,List.getD_eq_getElem?_getD,List.getElem?_eq_getElem hi]
theorem part_le {l:List (List UInt8)} {i:Nat} (hi:i<l.length):(l.getD i []).length+4≤(zAP l).length:=by
 have h1:=zLU hi
 have h2:zAP l=zAP (l.take (i+1))++zAP (l.drop (i+1)):=by
  unfold zAP;rw[←List.flatMap_append,List.take_append_drop]
 rw[h2,h1]
 simp[zAm]
 omega
theorem zY1 {l:List (List UInt8)}:l.length*4≤(zAP l).length:=by
 induction l with
 | nil=>simp
 | cons s l ih =>
  unfold zAP at ih ⊢
  simp only[List.flatMap_cons,List.length_append,List.length_cons,zCu,zAm] at ih ⊢
  simp only[List.length_nil]
  omega
end Go.X
end
section
open Go Go.X
namespace Go.X
set_option linter.unusedVariables false
theorem zXR {p:Nat} (hp:p<256) {h:Heap}:zCa (h.new [uw .u8 p]) (.slice (some ⟨h.next,0,none⟩) 1 1)=some (.string (strOf [UInt8.ofNat p])):=by
 have hO:=Own.newSlice (h:=h) (l:=zV [UInt8.ofNat p]) (n:=1) (esz:=1) (sp:=none) rfl (.inl rfl)
 have:=hO.cb2s
 rw[zDG] at this
 exact this
theorem zZk (pr:Prog) (T:zCA pr) (hf:pr.prim 196=some (za zCh)) (p:Nat) (hp:p<256) (h:Heap) (wf:HWF h) (v:Value) (l:List (List UInt8)) (hs:zBU h v=some l) (hr:(zAP l).length+1000≤zU) :
  Comes pr xq160 [uw .u8 p,v] h (.string (strOf (tagged (UInt8.ofNat p) l))):=by
 apply Comes.of
 unfold xq160
 dsimp only[zW]
 have hr64:zU=140737488355328:=rfl
 obtain⟨a,cap,rfl,hel⟩:=zZh hs
 obtain⟨_,h1,e1,rfl,d1,g1⟩:=New_B T h
 have g2:Grows h (h1.new [uw .u8 p]):=g1.trans Grows.new
 obtain⟨_,h3,e3,rfl,d3,k3⟩:=zGk T (d1.keep (W:=zCq) (Grows.new (l:=[uw .u8 p])).keeps (fun _ _=>id)) [UInt8.ofNat p] (by simp;omega)
 have g3:=g2.then k3 (fun A hA=>by omega)
 (repeat (first|refine zP ?_|refine zL ?_|refine zO ?_|refine zC ?_|refine zB ?_|refine zJ ?_|refine zK ?_|refine zM ?_|refine zF ?_|refine zH ?_|refine zG ?_|refine zI (by decide) ?_|refine zN ?_|((first|refine zE ?_|refine zQ ?_|refine zS rfl rfl ?_|refine zR rfl ?_|refine zD ?_);simp only[yq160.down,zA,lemS.down,lemC.down,zap,zao,zam,reduceIte,zan,zaq,zar,zas,zat,zau,zav,zaw,zax,reduceCtorEq,lemH.down,lemW.down,e1,zXR hp,e3])))
 refine zAY (fun m t g=>∃i,m=l.length - i∧i≤l.length∧DigB g h.next h.next (UInt8.ofNat p::zAP (l.take i))∧Grows h g∧t.get 5=.pointer (some ⟨h.next,0,none⟩)∧t.get 14=.slice a l.length cap∧t.get 15=.int .i64 (l.length:Int)∧t.get 16=.int .i64 (i:Int)) ?_ l.length _ _ ⟨0,rfl,by omega,by simpa [zAP] using d3,g3,by simp only[yq160.down,zA,lemS.down,lemC.down,zap,zao,zam,reduceIte,zan,zaq,zar,zas,zat,zau,zav,zaw,zax,reduceCtorEq],by simp only[yq160.down,zA,lemS.down,lemC.down,zap,zao,zam,reduceIte,zan,zaq,zar,zas,zat,zau,zav,zaw,zax,reduceCtorEq],by simp only[yq160.down,zA,lemS.down,lemC.down,zap,zao,zam,reduceIte,zan,zaq,zar,zas,zat,zau,zav,zaw,zax,reduceCtorEq],by (simp only[yq160.down,zA,lemS.down,lemC.down,zap,zao,zam,reduceIte,zan,zaq,zar,zas,zat,zau,zav,zaw,zax,reduceCtorEq])<;>rfl⟩
 rintro m t g ⟨i,rfl,hi,gd,gg,t5,t14,t15,t16⟩ hnext
 refine xq160_9k ?_
 dsimp only[zIt]
 (repeat (first|refine zP ?_|refine zL ?_|refine zO ?_|refine zC ?_|refine zB ?_|refine zJ ?_|refine zK ?_|refine zM ?_|refine zF ?_|refine zH ?_|refine zG ?_|refine zI (by decide) ?_|refine zN ?_|((first|refine zE ?_|refine zQ ?_|refine zS rfl rfl ?_|refine zR rfl ?_|refine zD ?_);simp only[yq160.down,zA,lemS.down,lemC.down,zap,zao,zam,reduceIte,zan,zaq,zar,zas,zat,zau,zav,zaw,zax,reduceCtorEq,lemH.down,lemW.down,t5,t14,t15,t16])))
 refine⟨fun hlt=>?_,fun hge=>?_⟩
 ·have hi':i<l.length:=by omega
  have hpl:=part_le hi'
  have hpc:=zY1 (l:=l)
  have ww:IntKind.i64.wrap ((i:Int)+1)=((i+1:Nat):Int):=by rw[wrap_i64 (by omega) (by omega)];omega
  obtain⟨B,o,ia,ld⟩:=hel i hi'
  have ld:=gg.load wf ld
  have f4:=zAQ (h:=g) hf (zKb (n:=(l.getD i []).length) (by omega))
  obtain⟨_,h4,e4,rfl,d4,k4⟩:=zGk T gd (zAm (l.getD i []).length) (by simp[zAm];omega)
  obtain⟨_,h5,e5,rfl,d5,k5⟩:=zGk T d4 (l.getD i []) (by omega)
  (repeat (first|refine zP ?_|refine zL ?_|refine zO ?_|refine zC ?_|refine zB ?_|refine zJ ?_|refine zK ?_|refine zM ?_|refine zF ?_|refine zH ?_|refine zG ?_|refine zI (by decide) ?_|refine zN ?_|((first|refine zE ?_|refine zQ ?_|refine zS rfl rfl ?_|refine zR rfl ?_|refine zD ?_);simp only[yq160.down,zA,lemS.down,lemC.down,zap,zao,zam,reduceIte,zan,zaq,zar,zas,zat,zau,zav,zaw,zax,reduceCtorEq,lemH.down,lemW.down,t5,t14,t15,t16,zBT,ia,ld,f4,e4,e5,ww])))
  refine hnext (l.length - (i+1)) _ _ (by omega) ⟨i+1,rfl,by omega,?_,(gg.then k4 (fun A hA=>by omega)).then k5 (fun A hA=>by omega),by simp only[yq160.down,zA,lemS.down,lemC.down,zap,zao,zam,reduceIte,zan,zaq,zar,zas,zat,zau,zav,zaw,zax,reduceCtorEq,t5],by simp only[yq160.down,zA,lemS.down,lemC.down,zap,zao,zam,reduceIte,zan,zaq,zar,zas,zat,zau,zav,zaw,zax,reduceCtorEq,t14],by simp only[yq160.down,zA,lemS.down,lemC.down,zap,zao,zam,reduceIte,zan,zaq,zar,zas,zat,zau,zav,zaw,zax,reduceCtorEq,t15],by simp only[yq160.down,zA,lemS.down,lemC.down,zap,zao,zam,reduceIte,zan,zaq,zar,zas,zat,zau,zav,zaw,zax,reduceCtorEq]⟩
  rw[zLU hi']
  simpa using d5
 ·obtain rfl:i=l.length:=by omega
  rw[List.take_length] at gd
  obtain⟨_,h6,e6,rfl,g6⟩:=Sum_B T gd
  (repeat (first|refine zP ?_|refine zL ?_|refine zO ?_|refine zC ?_|refine zB ?_|refine zJ ?_|refine zK ?_|refine zM ?_|refine zF ?_|refine zH ?_|refine zG ?_|refine zI (by decide) ?_|refine zN ?_|((first|refine zE ?_|refine zQ ?_|refine zS rfl rfl ?_|refine zR rfl ?_|refine zD ?_);simp only[yq160.down,zA,lemS.down,lemC.down,zap,zao,zam,reduceIte,zan,zaq,zar,zas,zat,zau,zav,zaw,zax,reduceCtorEq,lemH.down,lemW.down,t5,t14,t15,t16,e6])))
  exact⟨.inr rfl,by (simp only[yq160.down,zA,lemS.down,lemC.down,zap,zao,zam,reduceIte,zan,zaq,zar,zas,zat,zau,zav,zaw,zax,reduceCtorEq])<;>rfl,gg.trans g6⟩
end Go.X
end
