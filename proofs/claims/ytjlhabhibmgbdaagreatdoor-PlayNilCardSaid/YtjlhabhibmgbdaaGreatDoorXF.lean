/- The digest: what is written and what is summed. -/
import Derived.Test.YtjlhabhibmgbdaaGreatDoorXC
import Derived.Test.YtjlhabhibmgbdaaGreatDoorXD
import Derived.Test.YtjlhabhibmgbdaaGreatDoorXE
set_option linter.unusedSimpArgs false
set_option linter.unusedVariables false
set_option maxHeartbeats 2000000
open Nat renaming reduceLeDiff → zPT, reduceEqDiff → zPU, reduceAdd → zPV
open Int renaming reduceBEq → zPW, reduceLT → zPX, reduceLE → zPY, reduceGT → zPZ, reduceGE → zPa, reduceEq → zPb, reduceAdd → zPc, reduceSub → zPd, reduceMul → zPe
section
open Go Go.X
namespace Go.X
set_option linter.unusedVariables false
def ze (hs:List Nat) (v:Value) (n:Nat):List Value:=hs.map (uw .u32)++[v,uw .u64 n]
theorem zBE {hs:List Nat} (h8:hs.length=8) {v:Value} {n:Nat}:(ze hs v n).length=10:=by simp[ze,h8]
theorem zBc {hs:List Nat} (h8:hs.length=8) {v:Value} {n:Nat}:(ze hs v n)[8]?=some v:=by
 unfold ze;rw[List.getElem?_append_right (by simp[h8])];simp[h8]
theorem zEu {hs:List Nat} (h8:hs.length=8) {v:Value} {n:Nat}:(ze hs v n)[9]?=some (uw .u64 n):=by
 unfold ze;rw[List.getElem?_append_right (by simp[h8])];simp[h8]
theorem zC4 {hs:List Nat} (h8:hs.length=8) {v w:Value} {n:Nat}:(ze hs v n).set 8 w=ze hs w n:=by
 unfold ze;rw[List.set_append_right _ _ (by simp[h8])];simp[h8]
theorem zM7 {hs:List Nat} (h8:hs.length=8) {v:Value} {n m:Nat}:(ze hs v n).set 9 (uw .u64 m)=ze hs v m:=by
 unfold ze;rw[List.set_append_right _ _ (by simp[h8])];simp[h8]
def Dig (h:Heap) (N D:Nat) (hs:List Nat) (r:List UInt8) (n:Nat):Prop :=
 hs.length=8∧N≤D∧∃v,Var h D (ze hs v n)∧Own h (fun A=>N≤A∧A≠D) 1 v r.length (zV r)
theorem Dig.keep {W:Nat→Prop} {h h':Heap} {N D n:Nat} {hs:List Nat} {r:List UInt8} (hd:Dig h N D hs r n) (hk:Keeps W h h') (hW:∀A,N≤A→¬W A):Dig h' N D hs r n:=by
 obtain⟨h1,h2,v,h3,h4⟩:=hd
 exact⟨h1,h2,v,h3.keep hk (hW D h2),h4.keep hk fun A hA=>hW A hA.1⟩
theorem zEb:∀ (i:Nat) {h:List Nat} {b:List UInt8},h.length=8→(absorb i h b).length=8
 | 0,h,b,h8=>h8
 | i+1,h,b,h8=>zEb i (by
  unfold Sha.block
  rw[show Sha.sched 64 (winB b)=Sha.ext (winB b) 48 from Sha.sched_ext 48 _ (zBw _)]
  have hw:(Sha.ext (winB b) 48).length=64:=by rw[Sha.ext_len,winB,zBw]
  have hr:(Sha.rounds Sha.K (Sha.ext (winB b) 48) h).length=8:=by rw[←zFi hw];exact zEG hw h8 64 (by omega)
  rw[zCw _ _ (by rw[hr,h8]),h8])
theorem zGV (pr:Prog) (hb:pr.prim 346=some (zg zCz)) (hn:pr.prim 245=none) (hc:pr.code 245=some xq245) (h:Heap) :
  ∃v h',cfi pr 245 [] h=some (v,h')∧v=.pointer (some ⟨h.next,0,none⟩)∧Dig h' h.next h.next Sha.H0 [] 0∧Grows h h':=by
 refine zDp hn hc rfl ?_
 unfold xq245
 dsimp only[zs]
 refine wpk.out (k:=[]) ?_
 (repeat (first|refine zS ?_|refine zJ ?_|refine zR ?_|refine zT ?_|refine zH ?_|refine zG ?_|refine zI ?_|refine zO ?_|refine zC ?_|refine zE ?_|refine zD ?_|refine zF (by decide) ?_|refine zQ ?_|((first|refine zP ?_|refine zL ?_|refine zN rfl rfl ?_|refine zM rfl ?_|refine zK ?_);simp only[yq245.down,zA,lemS.down,lemC.down,zPW,zPV,zPT,reduceIte,zPU,zPX,zPY,zPZ,zPa,zPb,zPc,zPd,zPe,reduceCtorEq,zX,zW,lemH.down,zAV hb (s:=zCz) (args:=[]) rfl])))
 refine zF7 (v:=.agg (ze Sha.H0 (.slice none 0 0) 0).toArray) (by kernel_rfl) ?_
 dsimp only
 simp only[yq245.down,zA,lemS.down,lemC.down,zPW,zPV,zPT,reduceIte,zPU,zPX,zPY,zPZ,zPa,zPb,zPc,zPd,zPe,reduceCtorEq,zX,zW,lemH.down]
 (repeat (first|refine zS ?_|refine zJ ?_|refine zR ?_|refine zT ?_|refine zH ?_|refine zG ?_|refine zI ?_|refine zO ?_|refine zC ?_|refine zE ?_|refine zD ?_|refine zF (by decide) ?_|refine zQ ?_|((first|refine zP ?_|refine zL ?_|refine zN rfl rfl ?_|refine zM rfl ?_|refine zK ?_);simp only[yq245.down,zA,lemS.down,lemC.down,zPW,zPV,zPT,reduceIte,zPU,zPX,zPY,zPZ,zPa,zPb,zPc,zPd,zPe,reduceCtorEq,zX,zW,lemH.down])))
 exact⟨.inr rfl,_,rfl,rfl,⟨rfl,Nat.le_refl _,_,Var.new_self,Own.nil⟩,Grows.new⟩
theorem zGX (pr:Prog) (hp:pr.prim 417=some (zg zAX)) (hw:pr.prim 416=some zA8) (hk:pr.prim 415=some (zg zBb)) (hb:pr.prim 347=none) (hc:pr.code 347=some zCJ)
  (hn:pr.prim 246=none) (hcw:pr.code 246=some xq246) (h:Heap) (N D n:Nat) (hs:List Nat) (r s:List UInt8) (hd:Dig h N D hs r n) (hroom:r.length+s.length≤zj) :
  ∃v h',cfi pr 246 [.pointer (some ⟨D,0,none⟩),.string (zY s)] h=some (v,h')∧v=.tuple #[]∧Dig h' N D (absorb ((r++s).length / 64) hs (r++s)) ((r++s).drop (64*((r++s).length / 64))) (n+s.length)∧Keeps (fun A=>N≤A) h h':=by
 refine zDp hn hcw rfl ?_
 unfold xq246
 dsimp only[zs]
 refine wpk.out (k:=[]) ?_
 obtain⟨h8,hND,v,hD,hO⟩:=hd
 have hlt:D<h.next:=hD.1
 have i8:=fun (v:Value) (n:Nat)=>zBc (v:=v) (n:=n) h8
 have i9:=fun (v:Value) (n:Nat)=>zEu (v:=v) (n:=n) h8
 have st9:=hD.store1 (i:=9) (v:=uw .u64 (n+s.length)) (sp:=none) (by rw[zBE h8];decide) rfl
 rw[zM7 h8] at st9
 have hD1:=hD.wr (m:=ze hs v (n+s.length))
 have hO1:=hO.keep (Keeps.wr (A:=D) (l:=ze hs v (n+s.length))) (fun A hA=>hA.2)
 have hk1:Keeps (fun A=>N≤A) h (h.wr D (ze hs v (n+s.length))):=Keeps.wr.mono fun A _ e=>e▸hND
 have hn1:(h.wr D (ze hs v (n+s.length))).next=h.next:=rfl
 (repeat (first|refine zS ?_|refine zJ ?_|refine zR ?_|refine zT ?_|refine zH ?_|refine zG ?_|refine zI ?_|refine zO ?_|refine zC ?_|refine zE ?_|refine zD ?_|refine zF (by decide) ?_|refine zQ ?_|((first|refine zP ?_|refine zL ?_|refine zN rfl rfl ?_|refine zM rfl ?_|refine zK ?_);simp only[yq246.down,zA,lemS.down,lemC.down,zPW,zPV,zPT,reduceIte,zPU,zPX,zPY,zPZ,zPa,zPb,zPc,zPd,zPe,reduceCtorEq,zX,zW,lemH.down,lemW.down,eqX_pn,hD.load,i9,st9,zIp zOZ])))
 obtain⟨v2,h2,e2,hO2,k2⟩:=hO1.append (bytes:=1) (m:=s.length) (new:=zV s) (by simp[zEp]) zG1 (by decide) (by decide) (by omega)
 have hD2:=hD1.keep k2 (fun e=>e.2 rfl)
 rw[←zDn] at hO2
 have hO2:Own h2 (fun A=>N≤A∧A≠D) 1 v2 (r++s).length (zV (r++s)):=by
  rw[List.length_append];exact hO2.mono fun A hA=>by
   rcases hA with hA|hA
   ·exact hA
   ·rw[hn1] at hA;exact⟨by omega,by omega⟩
 have hk2:=hk1.trans k2 (fun A _ e=>e.1)
 have st8:=hO2.store (i:=8) hD2 (by rw[zBE h8];decide)
 rw[zC4 h8] at st8
 simp only[yq246.down,zA,lemS.down,lemC.down,zPW,zPV,zPT,reduceIte,zPU,zPX,zPY,zPZ,zPa,zPb,zPc,zPd,zPe,reduceCtorEq,zX,zW,lemH.down,hD1.load,i8,e2,st8]
 have hD3:=hD2.wr (m:=ze hs v2 (n+s.length))
 have hO3:=hO2.keep (Keeps.wr (A:=D) (l:=ze hs v2 (n+s.length))) (fun A hA=>hA.2)
 have hk3:=hk2.trans (Keeps.wr (A:=D) (l:=ze hs v2 (n+s.length))) (fun A _ e=>e▸hND)
 generalize h2.wr D (ze hs v2 (n+s.length))=h3 at *
 clear hD2 hO2 hk2 st8 k2 e2 hD1 hO1 hk1 st9 hD hO
 generalize hb0:r++s=b at *
 generalize n+s.length=n' at *
 (repeat (first|refine zS ?_|refine zJ ?_|refine zR ?_|refine zT ?_|refine zH ?_|refine zG ?_|refine zI ?_|refine zO ?_|refine zC ?_|refine zE ?_|refine zD ?_|refine zF (by decide) ?_|refine zQ ?_|((first|refine zP ?_|refine zL ?_|refine zN rfl rfl ?_|refine zM rfl ?_|refine zK ?_);simp only[yq246.down,zA,lemS.down,lemC.down,zPW,zPV,zPT,reduceIte,zPU,zPX,zPY,zPZ,zPa,zPb,zPc,zPd,zPe,reduceCtorEq,zX,zW,lemH.down])))
 refine zAo (fun m t g=>∃i v,m=b.length - 64*i∧64*i≤b.length∧(absorb i hs b).length=8∧Var g D (ze (absorb i hs b) v n')∧Own g (fun A=>N≤A∧A≠D) 1 v (b.drop (64*i)).length (zV (b.drop (64*i)))∧Keeps (fun A=>N≤A) h g∧t.get 0=.pointer (some ⟨D,0,none⟩)) ?_ b.length _ _ ⟨0,v2,rfl,by omega,h8,hD3,hO3,hk3,by simp only[yq246.down,zA,lemS.down,lemC.down,zPW,zPV,zPT,reduceIte,zPU,zPX,zPY,zPZ,zPa,zPb,zPc,zPd,zPe,reduceCtorEq]⟩
 rintro m t g ⟨i,v,rfl,hi,g8,gD,gO,gk,t0⟩ hnext
 refine xq246_6k ?_
 dsimp only[zGB]
 have i8:=fun (v:Value) (n:Nat)=>zBc (v:=v) (n:=n) g8
 (repeat (first|refine zS ?_|refine zJ ?_|refine zR ?_|refine zT ?_|refine zH ?_|refine zG ?_|refine zI ?_|refine zO ?_|refine zC ?_|refine zE ?_|refine zD ?_|refine zF (by decide) ?_|refine zQ ?_|((first|refine zP ?_|refine zL ?_|refine zN rfl rfl ?_|refine zM rfl ?_|refine zK ?_);simp only[yq246.down,zA,lemS.down,lemC.down,zPW,zPV,zPT,reduceIte,zPU,zPX,zPY,zPZ,zPa,zPb,zPc,zPd,zPe,reduceCtorEq,zX,zW,lemH.down,t0,gD.load,i8,gO.lenV])))
 refine⟨fun hlt=>?_,fun hge=>?_⟩
 ·have hlt':64≤(b.drop (64*i)).length:=by omega
  obtain⟨v3,e3,o3⟩:=gO.to (j:=64) (k:=.i64) hlt'
  have e3':zAK 1 v none (some (.int .i64 64)) none=some v3:=e3
  (repeat (first|refine zS ?_|refine zJ ?_|refine zR ?_|refine zT ?_|refine zH ?_|refine zG ?_|refine zI ?_|refine zO ?_|refine zC ?_|refine zE ?_|refine zD ?_|refine zF (by decide) ?_|refine zQ ?_|((first|refine zP ?_|refine zL ?_|refine zN rfl rfl ?_|refine zM rfl ?_|refine zK ?_);simp only[yq246.down,zA,lemS.down,lemC.down,zPW,zPV,zPT,reduceIte,zPU,zPX,zPY,zPZ,zPa,zPb,zPc,zPd,zPe,reduceCtorEq,zX,zW,lemH.down,t0,gD.load,i8,e3'])))
  obtain⟨a3,c3,rfl,s3⟩:=o3.shape
  obtain⟨B,off,sp,rfl,ld3,_⟩:=s3 (by decide)
  rw[zG3] at ld3
  obtain⟨_,g2,e4,rfl,gD4,k4⟩:=zGo pr hp hw hk hb hc g D c3 ⟨B,off,sp⟩ _ g8 [v,uw .u64 n'] rfl _ gD ld3
  rw[zF6 (by decide),←zEc] at gD4
  have g8':(absorb (i+1) hs b).length=8:=zEb _ h8
  have gO4:=gO.keep k4 (fun A hA=>hA.2)
  have gk4:=gk.trans k4 (fun A _ e=>e▸hND)
  obtain⟨v5,e5,o5⟩:=gO4.from (j:=64) (k:=.i64) hlt'
  have e5':zAK 1 v (some (.int .i64 64)) none none=some v5:=e5
  have j8:=zBc (v:=v) (n:=n') g8'
  have gD4':Var g2 D (ze (absorb (i+1) hs b) v n'):=gD4
  rw[zG2,List.drop_drop,show 64*i+64*1=64*(i+1) by omega] at o5
  have o5:Own g2 (fun A=>N≤A∧A≠D) 1 v5 (b.drop (64*(i+1))).length (zV (b.drop (64*(i+1)))):=by
   rw[show (b.drop (64*(i+1))).length=(b.drop (64*i)).length - 64 by simp;omega];exact o5
  have st8:=o5.store (i:=8) gD4' (by rw[zBE g8'];decide)
  rw[zC4 g8'] at st8
  simp only[yq246.down,zA,lemS.down,lemC.down,zPW,zPV,zPT,reduceIte,zPU,zPX,zPY,zPZ,zPa,zPb,zPc,zPd,zPe,reduceCtorEq,zX,zW,lemH.down,e4]
  (repeat (first|refine zS ?_|refine zJ ?_|refine zR ?_|refine zT ?_|refine zH ?_|refine zG ?_|refine zI ?_|refine zO ?_|refine zC ?_|refine zE ?_|refine zD ?_|refine zF (by decide) ?_|refine zQ ?_|((first|refine zP ?_|refine zL ?_|refine zN rfl rfl ?_|refine zM rfl ?_|refine zK ?_);simp only[yq246.down,zA,lemS.down,lemC.down,zPW,zPV,zPT,reduceIte,zPU,zPX,zPY,zPZ,zPa,zPb,zPc,zPd,zPe,reduceCtorEq,zX,zW,lemH.down,t0,gD4'.load,j8,e5',st8])))
  rw[List.length_drop] at hlt'
  refine hnext (b.length - 64*(i+1)) _ _ (by omega) ⟨i+1,v5,rfl,by omega,g8',gD4'.wr,o5.keep Keeps.wr (fun A hA=>hA.2),gk4.trans Keeps.wr (fun A _ e=>e▸hND),by simp only[yq246.down,zA,lemS.down,lemC.down,zPW,zPV,zPT,reduceIte,zPU,zPX,zPY,zPZ,zPa,zPb,zPc,zPd,zPe,reduceCtorEq,t0]⟩
 ·(repeat (first|refine zS ?_|refine zJ ?_|refine zR ?_|refine zT ?_|refine zH ?_|refine zG ?_|refine zI ?_|refine zO ?_|refine zC ?_|refine zE ?_|refine zD ?_|refine zF (by decide) ?_|refine zQ ?_|((first|refine zP ?_|refine zL ?_|refine zN rfl rfl ?_|refine zM rfl ?_|refine zK ?_);simp only[yq246.down,zA,lemS.down,lemC.down,zPW,zPV,zPT,reduceIte,zPU,zPX,zPY,zPZ,zPa,zPb,zPc,zPd,zPe,reduceCtorEq,zX,zW,lemH.down,t0])))
  have hd:b.length / 64=i:=by rw[List.length_drop] at hge;omega
  refine⟨.inl rfl,_,rfl,rfl,⟨by rw[hd];exact g8,hND,v,by rw[hd];exact gD,by rw[hd];exact gO⟩,gk⟩
end Go.X
end
section
open Go Go.X
namespace Go.X
set_option linter.unusedVariables false
theorem fill_dig {hs:List Nat} (h8:hs.length=8) {n:Nat} {z:Value}:zAH [z,z,z,z,z,z,z,z,.slice none 0 0,.int .u64 0] [(0,8,.agg (hs.map (uw .u32)).toArray),(9,1,uw .u64 n)]=some (ze hs (.slice none 0 0) n):=by
 obtain⟨a,b,c,d,e,f,g,i,rfl⟩:=len8 h8
 simp[zAH,zG4,zDo,putN,ze]
theorem Dig.push {g:Heap} {N D n:Nat} {hs:List Nat} {q:List UInt8} (hd:Dig g N D hs q n) (x:Nat) (hroom:q.length+1≤zj) :
  ∃v v' g2,Var g D (ze hs v n)∧Var (g.new [uw .u8 x]) D (ze hs v n)∧zAw (g.new [uw .u8 x]) 1 1 v (.slice (some ⟨g.next,0,none⟩) 1 1)=some (v',g2) ∧
   zAt g2 1 (.pointer (some ⟨D,8,none⟩)) v'=some (.tuple #[],g2.wr D (ze hs v' n))∧Dig (g2.wr D (ze hs v' n)) N D hs (q++[UInt8.ofNat x]) n∧Keeps (fun A=>N≤A) g (g2.wr D (ze hs v' n)):=by
 obtain⟨h8,hND,v,hD,hO⟩:=hd
 have hlt:D<g.next:=hD.1
 have hD1:=hD.new_old (m:=[uw .u8 x])
 have hO1:=hO.grow (Grows.new (l:=[uw .u8 x]))
 have hk1:Keeps (fun A=>N≤A) g (g.new [uw .u8 x]):=Keeps.new
 have hs1:=(Var.new_self (h:=g) (l:=[uw .u8 x])).src (n:=1) (esz:=1) (bytes:=1) (s:=v) (sp:=none) (c:=1) rfl (by decide)
 have hn1:(g.new [uw .u8 x]).next=g.next+1:=rfl
 obtain⟨v',g2,e2,hO2,k2⟩:=hO1.append (bytes:=1) (m:=1) (new:=[uw .u8 x]) rfl rfl (by decide) (by decide) (by omega)
 have hD2:=hD1.keep k2 (fun e=>e.2 rfl)
 rw[←zC1,←zDn] at hO2
 have hO2:Own g2 (fun A=>N≤A∧A≠D) 1 v' (q++[UInt8.ofNat x]).length (zV (q++[UInt8.ofNat x])):=by
  rw[List.length_append];exact hO2.mono fun A hA=>by
   rcases hA with hA|hA
   ·exact hA
   ·rw[zC1,hn1] at hA;exact⟨by omega,by omega⟩
 have st8:=hO2.store (i:=8) hD2 (by rw[zBE h8];decide)
 rw[zC4 h8] at st8
 refine⟨v,v',g2,hD,hD1,by rw[hs1,e2],st8,⟨h8,hND,v',hD2.wr,hO2.keep Keeps.wr (fun A hA=>hA.2)⟩,(hk1.trans k2 (fun A _ e=>e.1)).trans Keeps.wr (fun A _ e=>e▸hND)⟩
theorem sum1_ok (pr:Prog) (k:List KI) (Q:XE→Fr→Heap→Prop) (h g:Heap) (O n:Nat) (hs:List Nat) (r:List UInt8) (hroom:r.length+200≤zj) (hd:Dig g O O hs (r++[128]) n) (hk:Keeps (fun A=>O≤A) h g)
  (hQ:∀t' g',Dig g' O O hs (r++[128]++List.replicate (zAL r.length) 0) n→Keeps (fun A=>O≤A) h g'→t'.get 3=.pointer (some ⟨O,0,none⟩)→extk pr k 0 Q t' g') (t:Fr) (t3:t.get 3=.pointer (some ⟨O,0,none⟩)) :
  wpk pr (.loop zGK) k Q t g:=by
 refine zAo (fun m t g=>∃j,m=zAL r.length - j∧j≤zAL r.length∧Dig g O O hs (r++[128]++List.replicate j 0) n∧Keeps (fun A=>O≤A) h g∧t.get 3=.pointer (some ⟨O,0,none⟩)) ?_ (zAL r.length) _ _ ⟨0,rfl,by omega,by simpa using hd,hk,t3⟩
 rintro m t g ⟨j,rfl,hj,gd,gk,t3⟩ hnext
 refine xq248_7k ?_
 dsimp only[zGL]
 have hlen:(r++[128]++List.replicate j (0:UInt8)).length=r.length+1+j:=by simp;omega
 have hz:zAL r.length<64:=Nat.mod_lt _ (by decide)
 obtain⟨v,v',g2,gD,gD1,e1,e2,gd',gk'⟩:=gd.push 0 (by rw[hlen];omega)
 rw[show uw .u8 0=.int .u8 0 from rfl] at gD1 e1
 have h8:=gd.1
 obtain⟨_,_,v0,gD0,gO⟩:=id gd
 have i8:=fun (v:Value) (n:Nat)=>zBc (v:=v) (n:=n) h8
 obtain rfl:v=v0:=by
  have a:=gD.load (i:=8) (sp:=none)
  rw[gD0.load (i:=8) (sp:=none),i8,i8] at a
  exact (Option.some.inj a).symm
 have e40:binX .rem (.int .i64 (((r++[128]++List.replicate j (0:UInt8)).length:Nat):Int)) (.int .i64 64)=some (.int .i64 (((r.length+1+j) % 64:Nat):Int)):=by
  rw[hlen];exact rem_nat (by decide)
 (repeat (first|refine zS ?_|refine zJ ?_|refine zR ?_|refine zT ?_|refine zH ?_|refine zG ?_|refine zI ?_|refine zO ?_|refine zC ?_|refine zE ?_|refine zD ?_|refine zF (by decide) ?_|refine zQ ?_|((first|refine zP ?_|refine zL ?_|refine zN rfl rfl ?_|refine zM rfl ?_|refine zK ?_);simp only[yq248.down,zA,lemS.down,lemC.down,zPW,zPV,zPT,reduceIte,zPU,zPX,zPY,zPZ,zPa,zPb,zPc,zPd,zPe,reduceCtorEq,zX,zW,lemH.down,lemW.down,t3,gD.load,i8,gO.lenV,e40])))
 refine⟨fun hlt=>?_,fun hge=>?_⟩
 ·(repeat (first|refine zS ?_|refine zJ ?_|refine zR ?_|refine zT ?_|refine zH ?_|refine zG ?_|refine zI ?_|refine zO ?_|refine zC ?_|refine zE ?_|refine zD ?_|refine zF (by decide) ?_|refine zQ ?_|((first|refine zP ?_|refine zL ?_|refine zN rfl rfl ?_|refine zM rfl ?_|refine zK ?_);simp only[yq248.down,zA,lemS.down,lemC.down,zPW,zPV,zPT,reduceIte,zPU,zPX,zPY,zPZ,zPa,zPb,zPc,zPd,zPe,reduceCtorEq,zX,zW,lemH.down,lemW.down,t3,gD.load,i8,e1,e2])))
  have hj':j<zAL r.length:=by
   unfold zAL at *;omega
  refine hnext (zAL r.length - (j+1)) _ _ (by omega) ⟨j+1,rfl,by omega,?_,gk.trans gk' (fun A _ e=>e),by simp only[yq248.down,zA,lemS.down,lemC.down,zPW,zPV,zPT,reduceIte,zPU,zPX,zPY,zPZ,zPa,zPb,zPc,zPd,zPe,reduceCtorEq,t3]⟩
  rw[List.append_assoc] at gd'
  rw[List.replicate_succ']
  exact gd'
 ·(repeat (first|refine zS ?_|refine zJ ?_|refine zR ?_|refine zT ?_|refine zH ?_|refine zG ?_|refine zI ?_|refine zO ?_|refine zC ?_|refine zE ?_|refine zD ?_|refine zF (by decide) ?_|refine zQ ?_|((first|refine zP ?_|refine zL ?_|refine zN rfl rfl ?_|refine zM rfl ?_|refine zK ?_);simp only[yq248.down,zA,lemS.down,lemC.down,zPW,zPV,zPT,reduceIte,zPU,zPX,zPY,zPZ,zPa,zPb,zPc,zPd,zPe,reduceCtorEq,zX,zW,lemH.down,lemW.down])))
  obtain rfl:j=zAL r.length:=by
   unfold zAL at *;omega
  exact hQ _ _ gd gk (by simp only[yq248.down,zA,lemS.down,lemC.down,zPW,zPV,zPT,reduceIte,zPU,zPX,zPY,zPZ,zPa,zPb,zPc,zPd,zPe,reduceCtorEq,t3])
theorem sum2_ok (pr:Prog) (k:List KI) (Q:XE→Fr→Heap→Prop) (h g:Heap) (O n:Nat) (hs:List Nat) (p:List UInt8) (hroom:p.length+100≤zj) (hd:Dig g O O hs p n) (hk:Keeps (fun A=>O≤A) h g)
  (hQ:∀t' g',Dig g' O O hs (p++lenB (n*8)) n→Keeps (fun A=>O≤A) h g'→t'.get 3=.pointer (some ⟨O,0,none⟩)→extk pr k 2 Q t' g') (t:Fr) (t3:t.get 3=.pointer (some ⟨O,0,none⟩)) (t51:t.get 51=.int .i64 0) :
  wpk pr (.loop zGC) k Q t g:=by
 have hlb:∀j,j≤8→((lenB (n*8)).take j).length=j:=fun j hj=>by rw[List.length_take,zDF];omega
 refine zAo (fun m t g=>∃j,m=8 - j∧j≤8∧Dig g O O hs (p++(lenB (n*8)).take j) n∧Keeps (fun A=>O≤A) h g∧t.get 3=.pointer (some ⟨O,0,none⟩)∧t.get 51=.int .i64 (j:Int)) ?_ 8 _ _ ⟨0,rfl,by omega,by simpa using hd,hk,t3,t51⟩
 rintro m t g ⟨j,rfl,hj,gd,gk,t3,t51⟩ hnext
 refine zOn ?_
 dsimp only[zGD]
 (repeat (first|refine zS ?_|refine zJ ?_|refine zR ?_|refine zT ?_|refine zH ?_|refine zG ?_|refine zI ?_|refine zO ?_|refine zC ?_|refine zE ?_|refine zD ?_|refine zF (by decide) ?_|refine zQ ?_|((first|refine zP ?_|refine zL ?_|refine zN rfl rfl ?_|refine zM rfl ?_|refine zK ?_);simp only[yq248.down,zA,lemS.down,lemC.down,zPW,zPV,zPT,reduceIte,zPU,zPX,zPY,zPZ,zPa,zPb,zPc,zPd,zPe,reduceCtorEq,zX,zW,lemH.down,lemW.down,t3,t51])))
 refine⟨fun hlt=>?_,fun hge=>?_⟩
 ·have hj':j<8:=by omega
  obtain⟨v,v',g2,gD,gD1,e1,e2,gd',gk'⟩:=gd.push (((n*8) % 18446744073709551616) >>> (8*(7 - j))) (by rw[List.length_append,hlb j hj];omega)
  have h8:=gd.1
  have i8:=fun (v:Value) (n:Nat)=>zBc (v:=v) (n:=n) h8
  have i9:=fun (v:Value) (n:Nat)=>zEu (v:=v) (n:=n) h8
  have w7:IntKind.i64.wrap (7 - (j:Int))=((7 - j:Nat):Int):=by rw[wrap_i64 (by omega) (by omega)];omega
  have w8:IntKind.i64.wrap (8*((7 - j:Nat):Int))=((8*(7 - j):Nat):Int):=by rw[wrap_i64 (by omega) (by omega)];omega
  have ww:IntKind.i64.wrap ((j:Int)+1)=((j+1:Nat):Int):=by rw[wrap_i64 (by omega) (by omega)];omega
  have u8:Value.int .u64 8=uw .u64 8:=rfl
  have sh:=fun x=>shrV_u64 (k':=.i64) (x:=x) (n:=8*(7 - j)) (by omega)
  (repeat (first|refine zS ?_|refine zJ ?_|refine zR ?_|refine zT ?_|refine zH ?_|refine zG ?_|refine zI ?_|refine zO ?_|refine zC ?_|refine zE ?_|refine zD ?_|refine zF (by decide) ?_|refine zQ ?_|((first|refine zP ?_|refine zL ?_|refine zN rfl rfl ?_|refine zM rfl ?_|refine zK ?_);simp only[yq248.down,zA,lemS.down,lemC.down,zPW,zPV,zPT,reduceIte,zPU,zPX,zPY,zPZ,zPa,zPb,zPc,zPd,zPe,reduceCtorEq,zX,zW,lemH.down,lemW.down,t3,t51,gD.load,gD1.load,i8,i9,w7,w8,u8,sh,e1,e2])))
  refine⟨⟨?_,?_⟩,?_⟩
  ·(refine zDq rfl rfl rfl ?_ ?_<;>simp only[yq248.down,zA,lemS.down,lemC.down,zPW,zPV,zPT,reduceIte,zPU,zPX,zPY,zPZ,zPa,zPb,zPc,zPd,zPe,reduceCtorEq,t3,gD.load,gD1.load,i8,i9,zDS,zDG,zDT,zDH,zCM,Option.isSome_some])
  ·(refine zDq rfl rfl rfl ?_ ?_<;>simp only[yq248.down,zA,lemS.down,lemC.down,zPW,zPV,zPT,reduceIte,zPU,zPX,zPY,zPZ,zPa,zPb,zPc,zPd,zPe,reduceCtorEq,t3,gD.load,gD1.load,i8,i9,zDS,zDG,zDT,zDH,zCM,Option.isSome_some])
  (repeat (first|refine zS ?_|refine zJ ?_|refine zR ?_|refine zT ?_|refine zH ?_|refine zG ?_|refine zI ?_|refine zO ?_|refine zC ?_|refine zE ?_|refine zD ?_|refine zF (by decide) ?_|refine zQ ?_|((first|refine zP ?_|refine zL ?_|refine zN rfl rfl ?_|refine zM rfl ?_|refine zK ?_);simp only[yq248.down,zA,lemS.down,lemC.down,zPW,zPV,zPT,reduceIte,zPU,zPX,zPY,zPZ,zPa,zPb,zPc,zPd,zPe,reduceCtorEq,zX,zW,lemH.down,lemW.down,t3,t51,ww])))
  refine hnext (8 - (j+1)) _ _ (by omega) ⟨j+1,rfl,by omega,?_,gk.trans gk' (fun A _ e=>e),by simp only[yq248.down,zA,lemS.down,lemC.down,zPW,zPV,zPT,reduceIte,zPU,zPX,zPY,zPZ,zPa,zPb,zPc,zPd,zPe,reduceCtorEq,t3],by simp only[yq248.down,zA,lemS.down,lemC.down,zPW,zPV,zPT,reduceIte,zPU,zPX,zPY,zPZ,zPa,zPb,zPc,zPd,zPe,reduceCtorEq]⟩
  rw[List.take_succ_eq_append_getElem (by rw[zDF];exact hj'),←List.append_assoc]
  have:(lenB (n*8))[j]'(by rw[zDF];exact hj')=UInt8.ofNat (((n*8) % 18446744073709551616) >>> (8*(7 - j))):=by simp[lenB]
  rw[this]
  exact gd'
 ·(repeat (first|refine zS ?_|refine zJ ?_|refine zR ?_|refine zT ?_|refine zH ?_|refine zG ?_|refine zI ?_|refine zO ?_|refine zC ?_|refine zE ?_|refine zD ?_|refine zF (by decide) ?_|refine zQ ?_|((first|refine zP ?_|refine zL ?_|refine zN rfl rfl ?_|refine zM rfl ?_|refine zK ?_);simp only[yq248.down,zA,lemS.down,lemC.down,zPW,zPV,zPT,reduceIte,zPU,zPX,zPY,zPZ,zPa,zPb,zPc,zPd,zPe,reduceCtorEq,zX,zW,lemH.down,lemW.down,t3])))
  obtain rfl:j=8:=by omega
  rw[List.take_of_length_le (by rw[zDF];decide)] at gd
  exact hQ _ _ gd gk (by simp only[yq248.down,zA,lemS.down,lemC.down,zPW,zPV,zPT,reduceIte,zPU,zPX,zPY,zPZ,zPa,zPb,zPc,zPd,zPe,reduceCtorEq,t3])
theorem sum3_ok (pr:Prog) (hp:pr.prim 417=some (zg zAX)) (hw:pr.prim 416=some zA8) (hk:pr.prim 415=some (zg zBb)) (hb:pr.prim 347=none) (hc:pr.code 347=some zCJ)
  (k:List KI) (Q:XE→Fr→Heap→Prop) (h g:Heap) (O n:Nat) (hs:List Nat) (b:List UInt8) (hb64:b.length=64*(b.length / 64)) (hd:Dig g O O hs b n) (hk:Keeps (fun A=>O≤A) h g)
  (hQ:∀t' g',Dig g' O O (absorb (b.length / 64) hs b) [] n→Keeps (fun A=>O≤A) h g'→t'.get 3=.pointer (some ⟨O,0,none⟩)→extk pr k 4 Q t' g') (t:Fr) (t3:t.get 3=.pointer (some ⟨O,0,none⟩)) :
  wpk pr (.loop zGE) k Q t g:=by
 have h8:=hd.1
 refine zAo (fun m t g=>∃i,m=b.length - 64*i∧64*i≤b.length∧Dig g O O (absorb i hs b) (b.drop (64*i)) n∧Keeps (fun A=>O≤A) h g∧t.get 3=.pointer (some ⟨O,0,none⟩)) ?_ b.length _ _ ⟨0,rfl,by omega,hd,hk,t3⟩
 rintro m t g ⟨i,rfl,hi,gd,gk,t3⟩ hnext
 refine zOr ?_
 dsimp only[zGF]
 obtain⟨g8,gND,v,gD,gO⟩:=id gd
 have i8:=fun (v:Value) (n:Nat)=>zBc (v:=v) (n:=n) g8
 (repeat (first|refine zS ?_|refine zJ ?_|refine zR ?_|refine zT ?_|refine zH ?_|refine zG ?_|refine zI ?_|refine zO ?_|refine zC ?_|refine zE ?_|refine zD ?_|refine zF (by decide) ?_|refine zQ ?_|((first|refine zP ?_|refine zL ?_|refine zN rfl rfl ?_|refine zM rfl ?_|refine zK ?_);simp only[yq248.down,zA,lemS.down,lemC.down,zPW,zPV,zPT,reduceIte,zPU,zPX,zPY,zPZ,zPa,zPb,zPc,zPd,zPe,reduceCtorEq,zX,zW,lemH.down,t3,gD.load,i8,gO.lenV])))
 refine⟨fun hlt=>?_,fun hge=>?_⟩
 ·have hlt':64≤(b.drop (64*i)).length:=by rw[List.length_drop] at *;omega
  obtain⟨v3,e3,o3⟩:=gO.to (j:=64) (k:=.i64) hlt'
  have e3':zAK 1 v none (some (.int .i64 64)) none=some v3:=e3
  (repeat (first|refine zS ?_|refine zJ ?_|refine zR ?_|refine zT ?_|refine zH ?_|refine zG ?_|refine zI ?_|refine zO ?_|refine zC ?_|refine zE ?_|refine zD ?_|refine zF (by decide) ?_|refine zQ ?_|((first|refine zP ?_|refine zL ?_|refine zN rfl rfl ?_|refine zM rfl ?_|refine zK ?_);simp only[yq248.down,zA,lemS.down,lemC.down,zPW,zPV,zPT,reduceIte,zPU,zPX,zPY,zPZ,zPa,zPb,zPc,zPd,zPe,reduceCtorEq,zX,zW,lemH.down,t3,gD.load,i8,e3'])))
  obtain⟨a3,c3,rfl,s3⟩:=o3.shape
  obtain⟨B,off,sp,rfl,ld3,_⟩:=s3 (by decide)
  rw[zG3] at ld3
  obtain⟨_,g2,e4,rfl,gD4,k4⟩:=zGo pr hp hw ‹_› hb hc g O c3 ⟨B,off,sp⟩ _ g8 [v,uw .u64 n] rfl _ gD ld3
  rw[zF6 (by decide),←zEc] at gD4
  have g8':(absorb (i+1) hs b).length=8:=zEb _ h8
  have gO4:=gO.keep k4 (fun A hA=>hA.2)
  have gk4:=gk.trans k4 (fun A _ e=>Nat.le_of_eq e.symm)
  obtain⟨v5,e5,o5⟩:=gO4.from (j:=64) (k:=.i64) hlt'
  have e5':zAK 1 v (some (.int .i64 64)) none none=some v5:=e5
  have j8:=zBc (v:=v) (n:=n) g8'
  have gD4':Var g2 O (ze (absorb (i+1) hs b) v n):=gD4
  rw[zG2,List.drop_drop,show 64*i+64*1=64*(i+1) by omega] at o5
  have o5:Own g2 (fun A=>O≤A∧A≠O) 1 v5 (b.drop (64*(i+1))).length (zV (b.drop (64*(i+1)))):=by
   rw[show (b.drop (64*(i+1))).length=(b.drop (64*i)).length - 64 by simp;omega];exact o5
  have st8:=o5.store (i:=8) gD4' (by rw[zBE g8'];decide)
  rw[zC4 g8'] at st8
  simp only[yq248.down,zA,lemS.down,lemC.down,zPW,zPV,zPT,reduceIte,zPU,zPX,zPY,zPZ,zPa,zPb,zPc,zPd,zPe,reduceCtorEq,zX,zW,lemH.down,e4]
  (repeat (first|refine zS ?_|refine zJ ?_|refine zR ?_|refine zT ?_|refine zH ?_|refine zG ?_|refine zI ?_|refine zO ?_|refine zC ?_|refine zE ?_|refine zD ?_|refine zF (by decide) ?_|refine zQ ?_|((first|refine zP ?_|refine zL ?_|refine zN rfl rfl ?_|refine zM rfl ?_|refine zK ?_);simp only[yq248.down,zA,lemS.down,lemC.down,zPW,zPV,zPT,reduceIte,zPU,zPX,zPY,zPZ,zPa,zPb,zPc,zPd,zPe,reduceCtorEq,zX,zW,lemH.down,t3,gD4'.load,j8,e5',st8])))
  rw[List.length_drop] at hlt'
  refine hnext (b.length - 64*(i+1)) _ _ (by omega) ⟨i+1,rfl,by omega,⟨g8',Nat.le_refl _,v5,gD4'.wr,o5.keep Keeps.wr (fun A hA=>hA.2)⟩,gk4.trans Keeps.wr (fun A _ e=>Nat.le_of_eq e.symm),by simp only[yq248.down,zA,lemS.down,lemC.down,zPW,zPV,zPT,reduceIte,zPU,zPX,zPY,zPZ,zPa,zPb,zPc,zPd,zPe,reduceCtorEq,t3]⟩
 ·(repeat (first|refine zS ?_|refine zJ ?_|refine zR ?_|refine zT ?_|refine zH ?_|refine zG ?_|refine zI ?_|refine zO ?_|refine zC ?_|refine zE ?_|refine zD ?_|refine zF (by decide) ?_|refine zQ ?_|((first|refine zP ?_|refine zL ?_|refine zN rfl rfl ?_|refine zM rfl ?_|refine zK ?_);simp only[yq248.down,zA,lemS.down,lemC.down,zPW,zPV,zPT,reduceIte,zPU,zPX,zPY,zPZ,zPa,zPb,zPc,zPd,zPe,reduceCtorEq,zX,zW,lemH.down,t3])))
  rw[List.length_drop] at hge
  have hd':b.length / 64=i:=by omega
  have he:b.drop (64*i)=[]:=List.drop_of_length_le (by omega)
  rw[he,←hd'] at gd
  exact hQ _ _ gd gk (by simp only[yq248.down,zA,lemS.down,lemC.down,zPW,zPV,zPT,reduceIte,zPU,zPX,zPY,zPZ,zPa,zPb,zPc,zPd,zPe,reduceCtorEq,t3])
theorem sum4i_ok (pr:Prog) (k:List KI) (Q:XE→Fr→Heap→Prop) (h g:Heap) (N x:Nat) (v:Value) (p:List UInt8) (r98 r99:Value) (hN:N≤g.next) (hroom:p.length+100≤zj) (hd:Own g (fun A=>N≤A) 1 v p.length (zV p)) (hk:Keeps (fun A=>N≤A) h g)
  (hQ:∀t' g' v',Own g' (fun A=>N≤A) 1 v' (p++outW x).length (zV (p++outW x))→Keeps (fun A=>N≤A) h g'→N≤g'.next→t'.get 5=v'→t'.get 98=r98→t'.get 99=r99→extk pr k 8 Q t' g') (t:Fr)
  (t5:t.get 5=v) (t7:t.get 7=uw .u32 x) (t98:t.get 98=r98) (t99:t.get 99=r99) (t102:t.get 102=.int .i64 0) :
  wpk pr (.loop zGG) k Q t g:=by
 have hol:(outW x).length=4:=by simp[outW]
 have hlb:∀j,j≤4→((outW x).take j).length=j:=fun j hj=>by rw[List.length_take,hol];omega
 refine zAo (fun m t g=>∃j v,m=4 - j∧j≤4∧Own g (fun A=>N≤A) 1 v (p++(outW x).take j).length (zV (p++(outW x).take j))∧Keeps (fun A=>N≤A) h g∧N≤g.next∧t.get 5=v∧t.get 7=uw .u32 x∧t.get 98=r98∧t.get 99=r99∧t.get 102=.int .i64 (j:Int)) ?_ 4 _ _ ⟨0,v,rfl,by omega,by simpa using hd,hk,hN,t5,t7,t98,t99,t102⟩
 rintro m t g ⟨j,v,rfl,hj,gO,gk,gN,t5,t7,t98,t99,t102⟩ hnext
 refine zO1 ?_
 dsimp only[zGH]
 (repeat (first|refine zS ?_|refine zJ ?_|refine zR ?_|refine zT ?_|refine zH ?_|refine zG ?_|refine zI ?_|refine zO ?_|refine zC ?_|refine zE ?_|refine zD ?_|refine zF (by decide) ?_|refine zQ ?_|((first|refine zP ?_|refine zL ?_|refine zN rfl rfl ?_|refine zM rfl ?_|refine zK ?_);simp only[yq248.down,zA,lemS.down,lemC.down,zPW,zPV,zPT,reduceIte,zPU,zPX,zPY,zPZ,zPa,zPb,zPc,zPd,zPe,reduceCtorEq,zX,zW,lemH.down,lemW.down,t5,t7,t102])))
 refine⟨fun hlt=>?_,fun hge=>?_⟩
 ·have hj':j<4:=by omega
  have w7:IntKind.i64.wrap (3 - (j:Int))=((3 - j:Nat):Int):=by rw[wrap_i64 (by omega) (by omega)];omega
  have w8:IntKind.i64.wrap (8*((3 - j:Nat):Int))=((8*(3 - j):Nat):Int):=by rw[wrap_i64 (by omega) (by omega)];omega
  have ww:IntKind.i64.wrap ((j:Int)+1)=((j+1:Nat):Int):=by rw[wrap_i64 (by omega) (by omega)];omega
  have sh:=zIb (k':=.i64) (x:=x) (n:=8*(3 - j)) (by omega)
  have hO1:=gO.grow (Grows.new (l:=[uw .u8 ((x % 4294967296) >>> (8*(3 - j)))]))
  have hs1:=(Var.new_self (h:=g) (l:=[uw .u8 ((x % 4294967296) >>> (8*(3 - j)))])).src (n:=1) (esz:=1) (bytes:=1) (s:=v) (sp:=none) (c:=1) rfl (by decide)
  obtain⟨v',g2,e2,hO2,k2⟩:=hO1.append (bytes:=1) (m:=1) (new:=[uw .u8 ((x % 4294967296) >>> (8*(3 - j)))]) rfl rfl (by decide) (by decide) (by rw[List.length_append,hlb j hj];omega)
  rw[e2] at hs1
  (repeat (first|refine zS ?_|refine zJ ?_|refine zR ?_|refine zT ?_|refine zH ?_|refine zG ?_|refine zI ?_|refine zO ?_|refine zC ?_|refine zE ?_|refine zD ?_|refine zF (by decide) ?_|refine zQ ?_|((first|refine zP ?_|refine zL ?_|refine zN rfl rfl ?_|refine zM rfl ?_|refine zK ?_);simp only[yq248.down,zA,lemS.down,lemC.down,zPW,zPV,zPT,reduceIte,zPU,zPX,zPY,zPZ,zPa,zPb,zPc,zPd,zPe,reduceCtorEq,zX,zW,lemH.down,lemW.down,t5,t7,t102,w7,w8,sh,hs1,ww])))
  refine hnext (4 - (j+1)) _ _ (by omega) ⟨j+1,v',rfl,by omega,?_,(gk.trans (Keeps.new (W:=fun A=>N≤A)) (fun A _ e=>e)).trans k2 (fun A _ e=>e),Nat.le_trans gN (Nat.le_trans (Nat.le_succ _) k2.next),by simp only[yq248.down,zA,lemS.down,lemC.down,zPW,zPV,zPT,reduceIte,zPU,zPX,zPY,zPZ,zPa,zPb,zPc,zPd,zPe,reduceCtorEq],by simp only[yq248.down,zA,lemS.down,lemC.down,zPW,zPV,zPT,reduceIte,zPU,zPX,zPY,zPZ,zPa,zPb,zPc,zPd,zPe,reduceCtorEq,t7],by simp only[yq248.down,zA,lemS.down,lemC.down,zPW,zPV,zPT,reduceIte,zPU,zPX,zPY,zPZ,zPa,zPb,zPc,zPd,zPe,reduceCtorEq,t98],by simp only[yq248.down,zA,lemS.down,lemC.down,zPW,zPV,zPT,reduceIte,zPU,zPX,zPY,zPZ,zPa,zPb,zPc,zPd,zPe,reduceCtorEq,t99],by simp only[yq248.down,zA,lemS.down,lemC.down,zPW,zPV,zPT,reduceIte,zPU,zPX,zPY,zPZ,zPa,zPb,zPc,zPd,zPe,reduceCtorEq]⟩
  rw[List.take_succ_eq_append_getElem (by rw[hol];exact hj'),←List.append_assoc]
  have:(outW x)[j]'(by rw[hol];exact hj')=UInt8.ofNat ((x % 4294967296) >>> (8*(3 - j))):=by simp[outW]
  rw[this,zDn (b:=[_]),zC1,List.length_append (bs:=[_])]
  exact hO2.mono fun A hA=>by
   rcases hA with hA|hA
   ·exact hA
   ·have:(g.new [uw .u8 ((x % 4294967296) >>> (8*(3 - j)))]).next=g.next+1:=rfl
    show N≤A
    omega
 ·(repeat (first|refine zS ?_|refine zJ ?_|refine zR ?_|refine zT ?_|refine zH ?_|refine zG ?_|refine zI ?_|refine zO ?_|refine zC ?_|refine zE ?_|refine zD ?_|refine zF (by decide) ?_|refine zQ ?_|((first|refine zP ?_|refine zL ?_|refine zN rfl rfl ?_|refine zM rfl ?_|refine zK ?_);simp only[yq248.down,zA,lemS.down,lemC.down,zPW,zPV,zPT,reduceIte,zPU,zPX,zPY,zPZ,zPa,zPb,zPc,zPd,zPe,reduceCtorEq,zX,zW,lemH.down,lemW.down])))
  obtain rfl:j=4:=by omega
  rw[List.take_of_length_le (by rw[hol];decide)] at gO
  exact hQ _ _ _ gO gk gN (by simp only[yq248.down,zA,lemS.down,lemC.down,zPW,zPV,zPT,reduceIte,zPU,zPX,zPY,zPZ,zPa,zPb,zPc,zPd,zPe,reduceCtorEq,t5]) (by simp only[yq248.down,zA,lemS.down,lemC.down,zPW,zPV,zPT,reduceIte,zPU,zPX,zPY,zPZ,zPa,zPb,zPc,zPd,zPe,reduceCtorEq,t98]) (by simp only[yq248.down,zA,lemS.down,lemC.down,zPW,zPV,zPT,reduceIte,zPU,zPX,zPY,zPZ,zPa,zPb,zPc,zPd,zPe,reduceCtorEq,t99])
theorem sum4_ok (pr:Prog) (k:List KI) (Q:XE→Fr→Heap→Prop) (h g:Heap) (N:Nat) (hs:List Nat) (h8:hs.length=8) (hN:N≤g.next) (hk:Keeps (fun A=>N≤A) h g)
  (hQ:∀t' g' v',Own g' (fun A=>N≤A) 1 v' (outB hs).length (zV (outB hs))→Keeps (fun A=>N≤A) h g'→t'.get 5=v'→extk pr k 6 Q t' g') (t:Fr)
  (t5:t.get 5=.slice none 0 0) (t98:t.get 98=.agg (hs.map (uw .u32)).toArray) (t99:t.get 99=.int .i64 0) :
  wpk pr (.loop zGI) k Q t g:=by
 refine zAo (fun m t g=>∃j v,m=8 - j∧j≤8∧Own g (fun A=>N≤A) 1 v (outB (hs.take j)).length (zV (outB (hs.take j)))∧Keeps (fun A=>N≤A) h g∧N≤g.next∧t.get 5=v∧t.get 98=.agg (hs.map (uw .u32)).toArray∧t.get 99=.int .i64 (j:Int)) ?_ 8 _ _ ⟨0,_,rfl,by omega,Own.nil,hk,hN,t5,t98,t99⟩
 rintro m t g ⟨j,v,rfl,hj,gO,gk,gN,t5,t98,t99⟩ hnext
 refine zO3 ?_
 dsimp only[zGJ]
 (repeat (first|refine zS ?_|refine zJ ?_|refine zR ?_|refine zT ?_|refine zH ?_|refine zG ?_|refine zI ?_|refine zO ?_|refine zC ?_|refine zE ?_|refine zD ?_|refine zF (by decide) ?_|refine zQ ?_|((first|refine zP ?_|refine zL ?_|refine zN rfl rfl ?_|refine zM rfl ?_|refine zK ?_);simp only[yq248.down,zA,lemS.down,lemC.down,zPW,zPV,zPT,reduceIte,zPU,zPX,zPY,zPZ,zPa,zPb,zPc,zPd,zPe,reduceCtorEq,zX,zW,lemH.down,lemW.down,t5,t98,t99])))
 refine⟨fun hlt=>?_,fun hge=>?_⟩
 ·have hj':j<8:=by omega
  have ww:IntKind.i64.wrap ((j:Int)+1)=((j+1:Nat):Int):=by rw[wrap_i64 (by omega) (by omega)];omega
  have gi:(hs.map (uw .u32))[j]?=some (uw .u32 (hs.getD j 0)):=zDI (by omega)
  have hroom:(outB (hs.take j)).length+100≤zj:=by
   rw[zHz,List.length_take];unfold zj;omega
  (repeat (first|refine zS ?_|refine zJ ?_|refine zR ?_|refine zT ?_|refine zH ?_|refine zG ?_|refine zI ?_|refine zO ?_|refine zC ?_|refine zE ?_|refine zD ?_|refine zF (by decide) ?_|refine zQ ?_|((first|refine zP ?_|refine zL ?_|refine zN rfl rfl ?_|refine zM rfl ?_|refine zK ?_);simp only[yq248.down,zA,lemS.down,lemC.down,zPW,zPV,zPT,reduceIte,zPU,zPX,zPY,zPZ,zPa,zPb,zPc,zPd,zPe,reduceCtorEq,zX,zW,lemH.down,lemW.down,t5,t98,t99,zNb hj',gi])))
  refine sum4i_ok pr _ _ h g N (hs.getD j 0) v _ (.agg (hs.map (uw .u32)).toArray) (.int .i64 (j:Int)) gN hroom gO gk ?_ _ (by simp only[yq248.down,zA,lemS.down,lemC.down,zPW,zPV,zPT,reduceIte,zPU,zPX,zPY,zPZ,zPa,zPb,zPc,zPd,zPe,reduceCtorEq,t5]) (by simp only[yq248.down,zA,lemS.down,lemC.down,zPW,zPV,zPT,reduceIte,zPU,zPX,zPY,zPZ,zPa,zPb,zPc,zPd,zPe,reduceCtorEq]) (by simp only[yq248.down,zA,lemS.down,lemC.down,zPW,zPV,zPT,reduceIte,zPU,zPX,zPY,zPZ,zPa,zPb,zPc,zPd,zPe,reduceCtorEq,t98]) (by simp only[yq248.down,zA,lemS.down,lemC.down,zPW,zPV,zPT,reduceIte,zPU,zPX,zPY,zPZ,zPa,zPb,zPc,zPd,zPe,reduceCtorEq,t99]) (by simp only[yq248.down,zA,lemS.down,lemC.down,zPW,zPV,zPT,reduceIte,zPU,zPX,zPY,zPZ,zPa,zPb,zPc,zPd,zPe,reduceCtorEq])
  intro t' g' v' o' k' n' q5 q98 q99
  (repeat (first|refine zS ?_|refine zJ ?_|refine zR ?_|refine zT ?_|refine zH ?_|refine zG ?_|refine zI ?_|refine zO ?_|refine zC ?_|refine zE ?_|refine zD ?_|refine zF (by decide) ?_|refine zQ ?_|((first|refine zP ?_|refine zL ?_|refine zN rfl rfl ?_|refine zM rfl ?_|refine zK ?_);simp only[yq248.down,zA,lemS.down,lemC.down,zPW,zPV,zPT,reduceIte,zPU,zPX,zPY,zPZ,zPa,zPb,zPc,zPd,zPe,reduceCtorEq,zX,zW,lemH.down,lemW.down,q5,q98,q99,ww])))
  refine hnext (8 - (j+1)) _ _ (by omega) ⟨j+1,v',rfl,by omega,?_,k',n',by simp only[yq248.down,zA,lemS.down,lemC.down,zPW,zPV,zPT,reduceIte,zPU,zPX,zPY,zPZ,zPa,zPb,zPc,zPd,zPe,reduceCtorEq,q5],by simp only[yq248.down,zA,lemS.down,lemC.down,zPW,zPV,zPT,reduceIte,zPU,zPX,zPY,zPZ,zPa,zPb,zPc,zPd,zPe,reduceCtorEq,q98],by simp only[yq248.down,zA,lemS.down,lemC.down,zPW,zPV,zPT,reduceIte,zPU,zPX,zPY,zPZ,zPa,zPb,zPc,zPd,zPe,reduceCtorEq]⟩
  have:outB (hs.take (j+1))=outB (hs.take j)++outW (hs.getD j 0):=by
   unfold outB
   rw[List.take_succ_eq_append_getElem (by omega),List.flatMap_append,List.flatMap_cons,List.flatMap_nil,List.append_nil,List.getD_eq_getElem?_getD,List.getElem?_eq_getElem (show j<hs.length by omega)]
   rfl
  rw[this]
  exact o'
 ·(repeat (first|refine zS ?_|refine zJ ?_|refine zR ?_|refine zT ?_|refine zH ?_|refine zG ?_|refine zI ?_|refine zO ?_|refine zC ?_|refine zE ?_|refine zD ?_|refine zF (by decide) ?_|refine zQ ?_|((first|refine zP ?_|refine zL ?_|refine zN rfl rfl ?_|refine zM rfl ?_|refine zK ?_);simp only[yq248.down,zA,lemS.down,lemC.down,zPW,zPV,zPT,reduceIte,zPU,zPX,zPY,zPZ,zPa,zPb,zPc,zPd,zPe,reduceCtorEq,zX,zW,lemH.down,lemW.down])))
  obtain rfl:j=8:=by omega
  rw[List.take_of_length_le (by omega)] at gO
  exact hQ _ _ _ gO gk (by simp only[yq248.down,zA,lemS.down,lemC.down,zPW,zPV,zPT,reduceIte,zPU,zPX,zPY,zPZ,zPa,zPb,zPc,zPd,zPe,reduceCtorEq,t5])
theorem zGW (pr:Prog) (hp:pr.prim 417=some (zg zAX)) (hw:pr.prim 416=some zA8) (hk:pr.prim 415=some (zg zBb)) (hb:pr.prim 347=none) (hc:pr.code 347=some zCJ)
  (hn:pr.prim 248=none) (hcs:pr.code 248=some xq248) (h:Heap) (N D n:Nat) (hs:List Nat) (r:List UInt8) (hd:Dig h N D hs r n) (hroom:r.length+300≤zj) :
  ∃v h',cfi pr 248 [.pointer (some ⟨D,0,none⟩)] h=some (v,h')∧v=.string (zY (fin hs r n))∧Grows h h':=by
 refine zDp hn hcs rfl ?_
 unfold xq248
 dsimp only[zs]
 refine wpk.out (k:=[]) ?_
 obtain⟨h8,hND,v,hD,hO⟩:=hd
 have i8:=fun (v:Value) (n:Nat)=>zBc (v:=v) (n:=n) h8
 have i9:=fun (v:Value) (n:Nat)=>zEu (v:=v) (n:=n) h8
 have ldD:∀sp,h.loadN ⟨D,0,sp⟩ 8=some (hs.map (uw .u32)):=fun sp=>by
  rw[hD.loadN]
  simp[zAD,zBE h8]
  rw[show Nat.ble 8 10=true from rfl]
  simp[ze,h8]
 (repeat (first|refine zS ?_|refine zJ ?_|refine zR ?_|refine zT ?_|refine zH ?_|refine zG ?_|refine zI ?_|refine zO ?_|refine zC ?_|refine zE ?_|refine zD ?_|refine zF (by decide) ?_|refine zQ ?_|((first|refine zP ?_|refine zL ?_|refine zN rfl rfl ?_|refine zM rfl ?_|refine zK ?_);simp only[yq248.down,zA,lemS.down,lemC.down,zPW,zPV,zPT,reduceIte,zPU,zPX,zPY,zPZ,zPa,zPb,zPc,zPd,zPe,reduceCtorEq,zX,zW,lemH.down,lemW.down,eqX_pn,ldD,hD.load,i9,fill_dig h8])))
 have hn1:(h.new (ze hs (.slice none 0 0) n)).next=h.next+1:=rfl
 have hD1:=hD.new_old (m:=ze hs (.slice none 0 0) n)
 have hO1:=hO.grow (Grows.new (l:=ze hs (.slice none 0 0) n))
 have hd1:Var (h.new (ze hs (.slice none 0 0) n)) h.next (ze hs (.slice none 0 0) n):=Var.new_self
 have hg1:Grows h (h.new (ze hs (.slice none 0 0) n)):=Grows.new
 have ldD1:∀sp,(h.new (ze hs (.slice none 0 0) n)).loadN ⟨D,0,sp⟩ 8=some (hs.map (uw .u32)):=fun sp=>by
  rw[hD1.loadN]
  simp[zAD,zBE h8]
  rw[show Nat.ble 8 10=true from rfl]
  simp[ze,h8]
 refine⟨⟨?_,?_⟩,?_⟩
 ·(refine zDq rfl rfl rfl ?_ ?_<;>simp only[yq248.down,zA,lemS.down,lemC.down,zPW,zPV,zPT,reduceIte,zPU,zPX,zPY,zPZ,zPa,zPb,zPc,zPd,zPe,reduceCtorEq,ldD,ldD1,zDS,zDG,zDT,zDH,zCM,Option.isSome_some])
 ·(refine zDq rfl rfl rfl ?_ ?_<;>simp only[yq248.down,zA,lemS.down,lemC.down,zPW,zPV,zPT,reduceIte,zPU,zPX,zPY,zPZ,zPa,zPb,zPc,zPd,zPe,reduceCtorEq,hD.load,hD1.load,i9,zDS,zDG,zDT,zDH,zCM,Option.isSome_some])
 generalize h.new (ze hs (.slice none 0 0) n)=h1 at *
 have hlt:D<h.next:=hD.1
 clear hD hO ldD ldD1
 obtain⟨va,h2,e2,hO2,k2⟩:=(Own.nil (h:=h1) (S:=none1) (esz:=1)).append (bytes:=1) (m:=r.length) (new:=zV r) (by simp[zEp]) zG1 (by decide) (by decide) (by omega)
 have e2':=hO1.src (bytes:=1) (s:=.slice none 0 0)
 rw[e2] at e2'
 (repeat (first|refine zS ?_|refine zJ ?_|refine zR ?_|refine zT ?_|refine zH ?_|refine zG ?_|refine zI ?_|refine zO ?_|refine zC ?_|refine zE ?_|refine zD ?_|refine zF (by decide) ?_|refine zQ ?_|((first|refine zP ?_|refine zL ?_|refine zN rfl rfl ?_|refine zM rfl ?_|refine zK ?_);simp only[yq248.down,zA,lemS.down,lemC.down,zPW,zPV,zPT,reduceIte,zPU,zPX,zPY,zPZ,zPa,zPb,zPc,zPd,zPe,reduceCtorEq,zX,zW,lemH.down,lemW.down,hd1.load,i8,hD1.load,e2'])))
 have hd2:=hd1.keep k2 id
 have hg2:=hg1.then k2 (fun _ _=>id)
 have hO3:=hO2.grow (Grows.new (l:=[.int .u8 128]))
 have hs3:=(Var.new_self (h:=h2) (l:=[.int .u8 128])).src (n:=1) (esz:=1) (bytes:=1) (s:=va) (sp:=none) (c:=1) rfl (by decide)
 obtain⟨vb,h4,e4,hO4,k4⟩:=hO3.append (bytes:=1) (m:=1) (new:=[.int .u8 128]) rfl rfl (by decide) (by decide) (by omega)
 rw[e4] at hs3
 have hd4:=(hd2.new_old (m:=[.int .u8 128])).keep k4 (fun e=>by rcases e with e|e;exact e.elim;omega)
 have hg4:=(hg2.trans (Grows.new (l:=[.int .u8 128]))).then k4 (fun A hA e=>by rcases e with e|e;exact e.elim;omega)
 have hO4:Own h4 (fun A=>h.next≤A∧A≠h.next) 1 vb (r++[128]).length (zV (r++[128])):=by
  have e:zV (r++[128])=[]++zV r++[.int .u8 128]:=by rw[zDn];rfl
  have hn3:(h2.new [.int .u8 128]).next=h2.next+1:=rfl
  have:=k2.next
  rw[e,List.length_append,←Nat.zero_add r.length]
  refine hO4.mono fun A hA=>?_
  rcases hA with (hA|hA)|hA
  ·exact hA.elim
  ·exact⟨by omega,by omega⟩
  ·exact⟨by omega,by omega⟩
 have st8:=hO4.store (i:=8) hd4 (by rw[zBE h8];decide)
 rw[zC4 h8] at st8
 simp only[yq248.down,zA,lemS.down,lemC.down,zPW,zPV,zPT,reduceIte,zPU,zPX,zPY,zPZ,zPa,zPb,zPc,zPd,zPe,reduceCtorEq,zX,zW,lemH.down,hs3,st8]
 have hd5:Dig (h4.wr h.next (ze hs vb n)) h.next h.next hs (r++[128]) n:=⟨h8,Nat.le_refl _,vb,hd4.wr,hO4.keep Keeps.wr (fun A hA=>hA.2)⟩
 have hk5:Keeps (fun A=>h.next≤A) h (h4.wr h.next (ze hs vb n)):=Keeps.trans hg4.keeps Keeps.wr (fun A _ e=>Nat.le_of_eq e.symm)
 generalize h4.wr h.next (ze hs vb n)=h5 at *
 clear hd1 hg1 hD1 hO1 hd2 hg2 hO2 k2 e2 e2' hO3 hs3 e4 k4 hd4 hg4 hO4 st8
 (repeat (first|refine zS ?_|refine zJ ?_|refine zR ?_|refine zT ?_|refine zH ?_|refine zG ?_|refine zI ?_|refine zO ?_|refine zC ?_|refine zE ?_|refine zD ?_|refine zF (by decide) ?_|refine zQ ?_|((first|refine zP ?_|refine zL ?_|refine zN rfl rfl ?_|refine zM rfl ?_|refine zK ?_);simp only[yq248.down,zA,lemS.down,lemC.down,zPW,zPV,zPT,reduceIte,zPU,zPX,zPY,zPZ,zPa,zPb,zPc,zPd,zPe,reduceCtorEq,zX,zW,lemH.down])))
 refine sum1_ok pr _ _ h h5 h.next n hs r (by omega) hd5 hk5 ?_ _ (by simp only[yq248.down,zA,lemS.down,lemC.down,zPW,zPV,zPT,reduceIte,zPU,zPX,zPY,zPZ,zPa,zPb,zPc,zPd,zPe,reduceCtorEq])
 intro t g gd gk t3
 (repeat (first|refine zS ?_|refine zJ ?_|refine zR ?_|refine zT ?_|refine zH ?_|refine zG ?_|refine zI ?_|refine zO ?_|refine zC ?_|refine zE ?_|refine zD ?_|refine zF (by decide) ?_|refine zQ ?_|((first|refine zP ?_|refine zL ?_|refine zN rfl rfl ?_|refine zM rfl ?_|refine zK ?_);simp only[yq248.down,zA,lemS.down,lemC.down,zPW,zPV,zPT,reduceIte,zPU,zPX,zPY,zPZ,zPa,zPb,zPc,zPd,zPe,reduceCtorEq,zX,zW,lemH.down])))
 have hz:zAL r.length<64:=Nat.mod_lt _ (by decide)
 refine sum2_ok pr _ _ h g h.next n hs _ (by simp;omega) gd gk ?_ _ (by simp only[yq248.down,zA,lemS.down,lemC.down,zPW,zPV,zPT,reduceIte,zPU,zPX,zPY,zPZ,zPa,zPb,zPc,zPd,zPe,reduceCtorEq,t3]) (by simp only[yq248.down,zA,lemS.down,lemC.down,zPW,zPV,zPT,reduceIte,zPU,zPX,zPY,zPZ,zPa,zPb,zPc,zPd,zPe,reduceCtorEq])
 intro t g gd gk t3
 (repeat (first|refine zS ?_|refine zJ ?_|refine zR ?_|refine zT ?_|refine zH ?_|refine zG ?_|refine zI ?_|refine zO ?_|refine zC ?_|refine zE ?_|refine zD ?_|refine zF (by decide) ?_|refine zQ ?_|((first|refine zP ?_|refine zL ?_|refine zN rfl rfl ?_|refine zM rfl ?_|refine zK ?_);simp only[yq248.down,zA,lemS.down,lemC.down,zPW,zPV,zPT,reduceIte,zPU,zPX,zPY,zPZ,zPa,zPb,zPc,zPd,zPe,reduceCtorEq,zX,zW,lemH.down])))
 refine sum3_ok pr hp hw hk hb hc _ _ h g h.next n hs (padB r n) (zH1 r n) gd gk ?_ _ (by simp only[yq248.down,zA,lemS.down,lemC.down,zPW,zPV,zPT,reduceIte,zPU,zPX,zPY,zPZ,zPa,zPb,zPc,zPd,zPe,reduceCtorEq,t3])
 intro t g gd gk t3
 obtain⟨f8,fN,v,gD,gO⟩:=gd
 have ldE:∀sp,g.loadN ⟨h.next,0,sp⟩ 8=some ((absorb ((padB r n).length / 64) hs (padB r n)).map (uw .u32)):=fun sp=>by
  rw[gD.loadN]
  simp[zAD,zBE f8]
  rw[show Nat.ble 8 10=true from rfl]
  simp[ze,f8]
 (repeat (first|refine zS ?_|refine zJ ?_|refine zR ?_|refine zT ?_|refine zH ?_|refine zG ?_|refine zI ?_|refine zO ?_|refine zC ?_|refine zE ?_|refine zD ?_|refine zF (by decide) ?_|refine zQ ?_|((first|refine zP ?_|refine zL ?_|refine zN rfl rfl ?_|refine zM rfl ?_|refine zK ?_);simp only[yq248.down,zA,lemS.down,lemC.down,zPW,zPV,zPT,reduceIte,zPU,zPX,zPY,zPZ,zPa,zPb,zPc,zPd,zPe,reduceCtorEq,zX,zW,lemH.down,t3,ldE])))
 refine sum4_ok pr _ _ h g h.next _ f8 (Nat.le_of_lt gD.1) gk ?_ _ (by simp only[yq248.down,zA,lemS.down,lemC.down,zPW,zPV,zPT,reduceIte,zPU,zPX,zPY,zPZ,zPa,zPb,zPc,zPd,zPe,reduceCtorEq]) (by simp only[yq248.down,zA,lemS.down,lemC.down,zPW,zPV,zPT,reduceIte,zPU,zPX,zPY,zPZ,zPa,zPb,zPc,zPd,zPe,reduceCtorEq]) (by simp only[yq248.down,zA,lemS.down,lemC.down,zPW,zPV,zPT,reduceIte,zPU,zPX,zPY,zPZ,zPa,zPb,zPc,zPd,zPe,reduceCtorEq])
 intro t g v' go gk t5
 (repeat (first|refine zS ?_|refine zJ ?_|refine zR ?_|refine zT ?_|refine zH ?_|refine zG ?_|refine zI ?_|refine zO ?_|refine zC ?_|refine zE ?_|refine zD ?_|refine zF (by decide) ?_|refine zQ ?_|((first|refine zP ?_|refine zL ?_|refine zN rfl rfl ?_|refine zM rfl ?_|refine zK ?_);simp only[yq248.down,zA,lemS.down,lemC.down,zPW,zPV,zPT,reduceIte,zPU,zPX,zPY,zPZ,zPa,zPb,zPc,zPd,zPe,reduceCtorEq,zX,zW,lemH.down,t5,go.cb2s])))
 refine⟨.inr rfl,_,rfl,?_,gk.grows (fun A hA=>by omega)⟩
 simp only[yq248.down,zA,lemS.down,lemC.down,zPW,zPV,zPT,reduceIte,zPU,zPX,zPY,zPZ,zPa,zPb,zPc,zPd,zPe,reduceCtorEq]
 rfl
end Go.X
end
section
open Go Go.X
namespace Go.X
set_option linter.unusedVariables false
def shaS:List Value→Option Value
 | [.string s]=>if s.data.toList.length+400≤zj then some (.string (zY (sha s.data.toList))) else none
 | _=>none
structure zBB (pr:Prog):Prop where
 right:pr.prim 417=some (zg zAX)
 words:pr.prim 416=some zA8
 consts:pr.prim 415=some (zg zBb)
 begin:pr.prim 346=some (zg zCz)
 blk:pr.prim 347=none
 blkC:pr.code 347=some zCJ
 new:pr.prim 245=none
 newC:pr.code 245=some xq245
 wr:pr.prim 246=none
 wrC:pr.code 246=some xq246
 sum:pr.prim 248=none
 sumC:pr.code 248=some xq248
theorem zOI (pr:Prog) (T:zBB pr) (s:List UInt8) (hs:s.length+400≤zj) (h:Heap):Comes pr xq266 [.string (zY s)] h (.string (zY (sha s))):=by
 apply Comes.of
 unfold xq266
 dsimp only[zs]
 obtain⟨_,h1,e1,rfl,d1,g1⟩:=zGV pr T.begin T.new T.newC h
 obtain⟨_,h2,e2,rfl,d2,k2⟩:=zGX pr T.right T.words T.consts T.blk T.blkC T.wr T.wrC h1 _ _ _ _ [] s d1 (by simp;omega)
 rw[List.nil_append] at d2
 obtain⟨_,h3,e3,rfl,g3⟩:=zGW pr T.right T.words T.consts T.blk T.blkC T.sum T.sumC h2 _ _ _ _ _ d2 (by simp;omega)
 rw[Nat.zero_add,zIZ] at e3
 (repeat (first|refine zS ?_|refine zJ ?_|refine zR ?_|refine zT ?_|refine zH ?_|refine zG ?_|refine zI ?_|refine zO ?_|refine zC ?_|refine zE ?_|refine zD ?_|refine zF (by decide) ?_|refine zQ ?_|((first|refine zP ?_|refine zL ?_|refine zN rfl rfl ?_|refine zM rfl ?_|refine zK ?_);simp only[yq266.down,zA,lemS.down,lemC.down,zPW,zPV,zPT,reduceIte,zPU,zPX,zPY,zPZ,zPa,zPb,zPc,zPd,zPe,reduceCtorEq,e1,e2,e3])))
 exact⟨.inr rfl,by simp only[yq266.down,zA,lemS.down,lemC.down,zPW,zPV,zPT,reduceIte,zPU,zPX,zPY,zPZ,zPa,zPb,zPc,zPd,zPe,reduceCtorEq],(g1.then k2 (fun A hA=>by omega)).trans g3⟩
end Go.X
end
section
open Go Go.X
namespace Go.X
set_option linter.unusedVariables false
end Go.X
end
section
open Go Go.X
namespace Go.X
set_option linter.unusedVariables false
def zBu (x:UInt8):List UInt8→List UInt8→UInt8
 | a::l,b::m=>zBu (x ||| (a ^^^ b)) l m
 | _,_=>x
theorem or_zero8 {x y:UInt8}:(x ||| y=0)↔(x=0∧y=0):=by
 constructor
 ·intro h
  have e:x.toNat ||| y.toNat=0:=by rw[←UInt8.toNat_or,h];rfl
  have:=Nat.or_eq_zero_iff.1 e
  exact⟨UInt8.toNat_inj.1 this.1,UInt8.toNat_inj.1 this.2⟩
 ·rintro⟨rfl,rfl⟩;rfl
theorem zIR:∀ (a b:List UInt8) (x:UInt8),a.length=b.length→(zBu x a b=0↔x=0∧a=b)
 | [],[],x,_=>by simp[zBu]
 | a::l,b::m,x,h=>by
  simp only[zBu]
  rw[zIR l m _ (by simpa using h),or_zero8,UInt8.xor_eq_zero_iff]
  simp only[List.cons.injEq]
  constructor
  ·rintro⟨⟨h1,h2⟩,h3⟩;exact⟨h1,h2,h3⟩
  ·rintro⟨h1,h2,h3⟩;exact⟨⟨h1,h2⟩,h3⟩
 | [],_::_,_,h=>by simp at h
 | _::_,[],_,h=>by simp at h
theorem zFo (pr:Prog) (a b:List UInt8) (hr:a.length≤zj) (h:Heap):Comes pr xq381 [.string (zY a),.string (zY b)] h (.bool (a==b)):=by
 apply Comes.of
 unfold xq381
 dsimp only[zs]
 have hr64:zj=140737488355328:=rfl
 (repeat (first|refine zS ?_|refine zJ ?_|refine zR ?_|refine zT ?_|refine zH ?_|refine zG ?_|refine zI ?_|refine zO ?_|refine zC ?_|refine zE ?_|refine zD ?_|refine zF (by decide) ?_|refine zQ ?_|((first|refine zP ?_|refine zL ?_|refine zN rfl rfl ?_|refine zM rfl ?_|refine zK ?_);simp only[yq381.down,zA,lemS.down,lemC.down,zPW,zPV,zPT,reduceIte,zPU,zPX,zPY,zPZ,zPa,zPb,zPc,zPd,zPe,reduceCtorEq,lemH.down,lemW.down])))
 refine⟨fun hne=>?_,fun heq=>?_⟩
 ·(repeat (first|refine zS ?_|refine zJ ?_|refine zR ?_|refine zT ?_|refine zH ?_|refine zG ?_|refine zI ?_|refine zO ?_|refine zC ?_|refine zE ?_|refine zD ?_|refine zF (by decide) ?_|refine zQ ?_|((first|refine zP ?_|refine zL ?_|refine zN rfl rfl ?_|refine zM rfl ?_|refine zK ?_);simp only[yq381.down,zA,lemS.down,lemC.down,zPW,zPV,zPT,reduceIte,zPU,zPX,zPY,zPZ,zPa,zPb,zPc,zPd,zPe,reduceCtorEq,lemH.down,lemW.down])))
  refine⟨.inr rfl,?_,Grows.refl h⟩
  simp only[yq381.down,zA,lemS.down,lemC.down,zPW,zPV,zPT,reduceIte,zPU,zPX,zPY,zPZ,zPa,zPb,zPc,zPd,zPe,reduceCtorEq]
  congr 1
  symm
  rw[beq_eq_false_iff_ne]
  rintro rfl
  exact hne rfl
 ·have hl:a.length=b.length:=by omega
  (repeat (first|refine zS ?_|refine zJ ?_|refine zR ?_|refine zT ?_|refine zH ?_|refine zG ?_|refine zI ?_|refine zO ?_|refine zC ?_|refine zE ?_|refine zD ?_|refine zF (by decide) ?_|refine zQ ?_|((first|refine zP ?_|refine zL ?_|refine zN rfl rfl ?_|refine zM rfl ?_|refine zK ?_);simp only[yq381.down,zA,lemS.down,lemC.down,zPW,zPV,zPT,reduceIte,zPU,zPX,zPY,zPZ,zPa,zPb,zPc,zPd,zPe,reduceCtorEq,lemH.down,lemW.down])))
  refine zAo (fun m t g=>∃i x,m=a.length - i∧i≤a.length∧g=h∧zBu x (a.drop i) (b.drop i)=zBu 0 a b∧t.get 0=.string (zY a)∧t.get 1=.string (zY b)∧t.get 5=uw .u8 x.toNat∧t.get 13=.int .i64 (a.length:Int)∧t.get 14=.int .i64 (i:Int)) ?_ a.length _ _ ⟨0,0,rfl,by omega,rfl,rfl,by simp only[yq381.down,zA,lemS.down,lemC.down,zPW,zPV,zPT,reduceIte,zPU,zPX,zPY,zPZ,zPa,zPb,zPc,zPd,zPe,reduceCtorEq],by simp only[yq381.down,zA,lemS.down,lemC.down,zPW,zPV,zPT,reduceIte,zPU,zPX,zPY,zPZ,zPa,zPb,zPc,zPd,zPe,reduceCtorEq],by (simp only[yq381.down,zA,lemS.down,lemC.down,zPW,zPV,zPT,reduceIte,zPU,zPX,zPY,zPZ,zPa,zPb,zPc,zPd,zPe,reduceCtorEq])<;>rfl,by simp only[yq381.down,zA,lemS.down,lemC.down,zPW,zPV,zPT,reduceIte,zPU,zPX,zPY,zPZ,zPa,zPb,zPc,zPd,zPe,reduceCtorEq],by (simp only[yq381.down,zA,lemS.down,lemC.down,zPW,zPV,zPT,reduceIte,zPU,zPX,zPY,zPZ,zPa,zPb,zPc,zPd,zPe,reduceCtorEq])<;>rfl⟩
  rintro m t g ⟨i,x,rfl,hi,rfl,hx,t0,t1,t5,t13,t14⟩ hnext
  refine xq381_9k ?_
  dsimp only[zGQ]
  (repeat (first|refine zS ?_|refine zJ ?_|refine zR ?_|refine zT ?_|refine zH ?_|refine zG ?_|refine zI ?_|refine zO ?_|refine zC ?_|refine zE ?_|refine zD ?_|refine zF (by decide) ?_|refine zQ ?_|((first|refine zP ?_|refine zL ?_|refine zN rfl rfl ?_|refine zM rfl ?_|refine zK ?_);simp only[yq381.down,zA,lemS.down,lemC.down,zPW,zPV,zPT,reduceIte,zPU,zPX,zPY,zPZ,zPa,zPb,zPc,zPd,zPe,reduceCtorEq,lemH.down,lemW.down,t0,t1,t5,t13,t14])))
  refine⟨fun hlt=>?_,fun hge=>?_⟩
  ·have hi':i<a.length:=by omega
   have ww:IntKind.i64.wrap ((i:Int)+1)=((i+1:Nat):Int):=by rw[wrap_i64 (by omega) (by omega)];omega
   (repeat (first|refine zS ?_|refine zJ ?_|refine zR ?_|refine zT ?_|refine zH ?_|refine zG ?_|refine zI ?_|refine zO ?_|refine zC ?_|refine zE ?_|refine zD ?_|refine zF (by decide) ?_|refine zQ ?_|((first|refine zP ?_|refine zL ?_|refine zN rfl rfl ?_|refine zM rfl ?_|refine zK ?_);simp only[yq381.down,zA,lemS.down,lemC.down,zPW,zPV,zPT,reduceIte,zPU,zPX,zPY,zPZ,zPa,zPb,zPc,zPd,zPe,reduceCtorEq,lemH.down,lemW.down,t0,t1,t5,t13,t14,zHW hi',zHW (s:=b) (i:=i) (by omega),ww])))
   refine hnext (a.length - (i+1)) _ _ (by omega) ⟨i+1,x ||| (a.getD i 0 ^^^ b.getD i 0),rfl,by omega,rfl,?_,by simp only[yq381.down,zA,lemS.down,lemC.down,zPW,zPV,zPT,reduceIte,zPU,zPX,zPY,zPZ,zPa,zPb,zPc,zPd,zPe,reduceCtorEq,t0],by simp only[yq381.down,zA,lemS.down,lemC.down,zPW,zPV,zPT,reduceIte,zPU,zPX,zPY,zPZ,zPa,zPb,zPc,zPd,zPe,reduceCtorEq,t1],by simp only[yq381.down,zA,lemS.down,lemC.down,zPW,zPV,zPT,reduceIte,zPU,zPX,zPY,zPZ,zPa,zPb,zPc,zPd,zPe,reduceCtorEq];rw[UInt8.toNat_or,UInt8.toNat_xor],by simp only[yq381.down,zA,lemS.down,lemC.down,zPW,zPV,zPT,reduceIte,zPU,zPX,zPY,zPZ,zPa,zPb,zPc,zPd,zPe,reduceCtorEq,t13],by simp only[yq381.down,zA,lemS.down,lemC.down,zPW,zPV,zPT,reduceIte,zPU,zPX,zPY,zPZ,zPa,zPb,zPc,zPd,zPe,reduceCtorEq]⟩
   rw[←hx,List.drop_eq_getElem_cons (l:=a) hi',List.drop_eq_getElem_cons (l:=b) (show i<b.length by omega)]
   simp only[zBu,List.getD_eq_getElem?_getD,List.getElem?_eq_getElem hi',List.getElem?_eq_getElem (show i<b.length by omega),Option.getD_some]
  ·obtain rfl:i=a.length:=by omega
   rw[List.drop_of_length_le (Nat.le_refl _),List.drop_of_length_le (by omega)] at hx
   have hx':x=zBu 0 a b:=hx
   have hz:=zIR a b 0 hl
   rw[←hx'] at hz
   rw[show uw .u8 x.toNat=.int .u8 (x.toNat:Int) from zIo x] at t5
   (repeat (first|refine zS ?_|refine zJ ?_|refine zR ?_|refine zT ?_|refine zH ?_|refine zG ?_|refine zI ?_|refine zO ?_|refine zC ?_|refine zE ?_|refine zD ?_|refine zF (by decide) ?_|refine zQ ?_|((first|refine zP ?_|refine zL ?_|refine zN rfl rfl ?_|refine zM rfl ?_|refine zK ?_);simp only[yq381.down,zA,lemS.down,lemC.down,zPW,zPV,zPT,reduceIte,zPU,zPX,zPY,zPZ,zPa,zPb,zPc,zPd,zPe,reduceCtorEq,lemH.down,lemW.down,t5])))
   refine⟨.inr rfl,?_,Grows.refl _⟩
   simp only[yq381.down,zA,lemS.down,lemC.down,zPW,zPV,zPT,reduceIte,zPU,zPX,zPY,zPZ,zPa,zPb,zPc,zPd,zPe,reduceCtorEq]
   congr 1
   by_cases e:a=b
   ·have hx0:=hz.2 ⟨rfl,e⟩
    rw[hx0,e];simp
   ·have:x≠0:=fun e'=>e (hz.1 e').2
    have:x.toNat≠0:=fun e'=>this (UInt8.toNat_inj.1 e')
    rw[show (a==b)=false by rw[beq_eq_false_iff_ne];exact e,beq_eq_false_iff_ne]
    omega
end Go.X
end
section
open Go Go.X
namespace Go.X
set_option linter.unusedVariables false
def zAh (n:Nat):List UInt8:=[UInt8.ofNat (n / 16777216),UInt8.ofNat (n / 65536),UInt8.ofNat (n / 256),UInt8.ofNat n]
def partB (s:List UInt8):List UInt8:=zAh s.length++s
def zAF (l:List (List UInt8)):List UInt8:=l.flatMap partB
def tagged (p:UInt8) (l:List (List UInt8)):List UInt8:=sha (p::zAF l)
def zCS (l:List (List UInt8)):List Value:=l.map fun s=>.string (zY s)
theorem zMn {l:List (List UInt8)}:(zCS l).length=l.length:=by simp[zCS]
theorem zMm {l:List (List UInt8)} {i:Nat} (hi:i<l.length):(zCS l)[i]?=some (.string (zY (l.getD i []))):=by
 simp[zCS,List.getElem?_map,List.getElem?_eq_getElem hi,List.getD_eq_getElem?_getD]
def zBf:List Value→Option Value
 | [.int .i64 n]=>if 0≤n∧n<9223372036854775808 then some (.string (zY (zAh n.toNat))) else none
 | _=>none
theorem zHR {n:Nat} (h:n<9223372036854775808):zBf [.int .i64 (n:Int)]=some (.string (zY (zAh n))):=by
 simp only[zBf]
 rw[if_pos (by omega)]
 simp
theorem zHQ (n:Nat):zV (zAh n)=[uw .u8 (n / 16777216),uw .u8 (n / 65536),uw .u8 (n / 256),uw .u8 n]:=by
 simp only[←zC1]
 rfl
theorem fill4' {z:Value} {a b c d:Nat}:zAH (List.replicate 4 z) [(0,1,uw .u8 a),(1,1,uw .u8 b),(2,1,uw .u8 c),(3,1,uw .u8 d)]=some [uw .u8 a,uw .u8 b,uw .u8 c,uw .u8 d]:=by simp[zAH,zDo,putN,List.replicate]
theorem shrI {k:IntKind} {n j:Nat} (hj:j≤64):binX .shr (.int .i64 (n:Int)) (.int k (OfNat.ofNat j))=some (.int .i64 ((n / 2 ^ j:Nat):Int)):=by
 have e:(OfNat.ofNat j:Int)=(j:Int):=rfl
 rw[e,zGm (by omega),Int.toNat_natCast,Nat.min_eq_left (show j≤IntKind.i64.bits from hj),Int.fdiv_eq_ediv_of_nonneg _ (by exact Int.le_of_lt (Int.pow_pos (by omega)))]
 simp
theorem four_ok (pr:Prog) (n:Nat) (hn:n<9223372036854775808) (h:Heap):Comes pr xq247 [.int .i64 (n:Int)] h (.string (zY (zAh n))):=by
 apply Comes.of
 unfold xq247
 dsimp only[zs]
 have c:=fun n=>zIp (k:=.u8) (k':=.i64) zOa (n:=n)
 have hO:=Own.newSlice (h:=h) (l:=zV (zAh n)) (n:=4) (esz:=1) (sp:=none) (by rw[zHQ];rfl) (.inl rfl)
 have s24:=shrI (k:=.u64) (n:=n) (j:=24) (by decide)
 have s16:=shrI (k:=.u64) (n:=n) (j:=16) (by decide)
 have s8:=shrI (k:=.u64) (n:=n) (j:=8) (by decide)
 simp only[Nat.reducePow] at s24 s16 s8
 have hb:=hO.cb2s
 rw[zHQ] at hb
 (repeat (first|refine zS ?_|refine zJ ?_|refine zR ?_|refine zT ?_|refine zH ?_|refine zG ?_|refine zI ?_|refine zO ?_|refine zC ?_|refine zE ?_|refine zD ?_|refine zF (by decide) ?_|refine zQ ?_|((first|refine zP ?_|refine zL ?_|refine zN rfl rfl ?_|refine zM rfl ?_|refine zK ?_);simp only[yq247.down,zA,lemS.down,lemC.down,zPW,zPV,zPT,reduceIte,zPU,zPX,zPY,zPZ,zPa,zPb,zPc,zPd,zPe,reduceCtorEq,lemH.down,lemW.down,s24,s16,s8,c,fill4',hb])))
 exact⟨.inr rfl,by simp only[yq247.down,zA,lemS.down,lemC.down,zPW,zPV,zPT,reduceIte,zPU,zPX,zPY,zPZ,zPa,zPb,zPc,zPd,zPe,reduceCtorEq],Grows.new⟩
end Go.X
end
section
open Go Go.X
namespace Go.X
set_option linter.unusedVariables false
theorem st_app (b s:List UInt8):absorb ((b.drop (64*(b.length / 64))++s).length / 64) (absorb (b.length / 64) Sha.H0 b) (b.drop (64*(b.length / 64))++s)=absorb ((b++s).length / 64) Sha.H0 (b++s) ∧
  (b.drop (64*(b.length / 64))++s).drop (64*((b.drop (64*(b.length / 64))++s).length / 64))=(b++s).drop (64*((b++s).length / 64)):=by
 have hd:(b++s).drop (64*(b.length / 64))=b.drop (64*(b.length / 64))++s:=List.drop_append_of_le_length (by omega)
 have hl:(b.drop (64*(b.length / 64))++s).length=(b++s).length - 64*(b.length / 64):=by rw[←hd,List.length_drop]
 have hn:(b++s).length / 64=b.length / 64+(b.drop (64*(b.length / 64))++s).length / 64:=by
  rw[hl,List.length_append];omega
 constructor
 ·rw[hn,zEa,zDd (b.length / 64) Sha.H0 b s (by omega),hd]
 ·rw[hn,Nat.mul_add,←List.drop_drop,hd]
def DigB (h:Heap) (N D:Nat) (b:List UInt8):Prop:=Dig h N D (absorb (b.length / 64) Sha.H0 b) (b.drop (64*(b.length / 64))) b.length
theorem New_B {pr:Prog} (T:zBB pr) (h:Heap):∃v h',cfi pr 245 [] h=some (v,h')∧v=.pointer (some ⟨h.next,0,none⟩)∧DigB h' h.next h.next []∧Grows h h':=zGV pr T.begin T.new T.newC h
theorem zEZ {pr:Prog} (T:zBB pr) {h:Heap} {N D:Nat} {b:List UInt8} (hd:DigB h N D b) (s:List UInt8) (hroom:s.length+64≤zj) :
  ∃v h',cfi pr 246 [.pointer (some ⟨D,0,none⟩),.string (zY s)] h=some (v,h')∧v=.tuple #[]∧DigB h' N D (b++s)∧Keeps (fun A=>N≤A) h h':=by
 obtain⟨v,h',e,hv,d,k⟩:=zGX pr T.right T.words T.consts T.blk T.blkC T.wr T.wrC h N D _ _ _ s hd (by rw[List.length_drop];omega)
 rw[(st_app b s).1,(st_app b s).2,←List.length_append] at d
 exact⟨v,h',e,hv,d,k⟩
theorem Sum_B {pr:Prog} (T:zBB pr) {h:Heap} {N D:Nat} {b:List UInt8} (hd:DigB h N D b):∃v h',cfi pr 248 [.pointer (some ⟨D,0,none⟩)] h=some (v,h')∧v=.string (zY (sha b))∧Grows h h':=by
 have:=zGW pr T.right T.words T.consts T.blk T.blkC T.sum T.sumC h N D _ _ _ hd (by rw[List.length_drop];have:zj=140737488355328:=rfl;omega)
 rw[zIZ] at this
 exact this
def zCo:List Value→Option (List (List UInt8))
 | []=>some []
 | .string s::r=>(match zCo r with|some l=>some (s.data.toList::l)|none=>none)
 | _::_=>none
theorem zIk:∀ {cs:List Value} {l:List (List UInt8)},zCo cs=some l→cs=zCS l
 | [],l,h=>by cases h;rfl
 | c::cs,l,h=>by
  unfold zCo at h
  split at h
  ·rename_i heq;cases heq
  ·rename_i s r heq
   cases heq
   split at h
   ·rename_i q hq
    cases h
    rw[zIk hq]
    simp only[zCS,List.map_cons]
    rw[show zY s.data.toList=s from zFt s]
   ·cases h
  ·cases h
def zCp (h:Heap):Value→Option (List (List UInt8))
 | .slice none n _=>if n=0 then some [] else none
 | .slice (some a) n _=>if n=0 then some [] else (match h.loadN a n with|some cs=>zCo cs|none=>none)
 | _=>none
theorem zNn {h:Heap} {a:Addr} {n:Nat} {l:List Value} (hl:h.loadN a n=some l):l.length=n:=by
 unfold Heap.loadN at hl
 split at hl
 ·rename_i c hc
  unfold zAD at hl
  cases hb:(a.off+n).ble c.cells.length with
  | false=>rw[hb] at hl;cases hl
  | true =>
   rw[hb] at hl
   cases hl
   have:=Nat.le_of_ble_eq_true hb
   simp;omega
 ·cases hl
theorem zOW {h:Heap} {v:Value} {l:List (List UInt8)} (hs:zCp h v=some l):∃a cap,v=.slice a l.length cap∧∀i,i<l.length→∃B o,(∀k:IntKind,zC9 1 v (.int k (i:Int))=some (.pointer (some ⟨B,o,none⟩)))∧h.load ⟨B,o,none⟩=some (.string (zY (l.getD i []))):=by
 unfold zCp at hs
 split at hs
 ·rename_i n c
  split at hs
  ·rename_i h0
   cases hs
   subst h0
   exact⟨none,c,rfl,fun i hi=>by simp at hi⟩
  ·cases hs
 ·rename_i a n c
  split at hs
  ·rename_i h0
   cases hs
   subst h0
   exact⟨some a,c,rfl,fun i hi=>by simp at hi⟩
  ·split at hs
   ·rename_i cs hcs
    obtain rfl:=zIk hs
    have hn:l.length=n:=by
     have:=zNn hcs
     rw[zMn] at this
     exact this
    subst hn
    exact⟨some a,c,rfl,fun i hi=>⟨a.block,a.off+i,fun k=>zDA hi,zHg hcs (zMm hi)⟩⟩
   ·cases hs
 ·cases hs
def zCq:Prim:=fun args h=>match args with
 | [.int .u8 p,v]=>(match zCp h v with
  | some l=>if 0≤p∧p<256∧(zAF l).length+1000≤zj then some (.string (zY (tagged (UInt8.ofNat p.toNat) l)),h) else none
  | none=>none)
 | _=>none
theorem zH2 {l:List (List UInt8)} {i:Nat} (hi:i<l.length):zAF (l.take (i+1))=zAF (l.take i)++zAh (l.getD i []).length++l.getD i []:=by
 unfold zAF
 rw[List.take_succ_eq_append_getElem hi,List.flatMap_append,List.flatMap_cons,List.flatMap_nil,List.append_nil,List.append_assoc]
 simp[partB,List.getD_eq_getElem?_getD,List.getElem?_eq_getElem hi]
theorem part_le {l:List (List UInt8)} {i:Nat} (hi:i<l.length):(l.getD i []).length+4≤(zAF l).length:=by
 have h1:=zH2 hi
 have h2:zAF l=zAF (l.take (i+1))++zAF (l.drop (i+1)):=by
  unfold zAF;rw[←List.flatMap_append,List.take_append_drop]
 rw[h2,h1]
 simp[zAh]
 omega
theorem zNz {l:List (List UInt8)}:l.length*4≤(zAF l).length:=by
 induction l with
 | nil=>simp
 | cons s l ih =>
  unfold zAF at ih ⊢
  simp only[List.flatMap_cons,List.length_append,List.length_cons,partB,zAh] at ih ⊢
  simp only[List.length_nil]
  omega
end Go.X
end
section
open Go Go.X
namespace Go.X
set_option linter.unusedVariables false
theorem zMg {p:Nat} (hp:p<256) {h:Heap}:zCR (h.new [uw .u8 p]) (.slice (some ⟨h.next,0,none⟩) 1 1)=some (.string (zY [UInt8.ofNat p])):=by
 have hO:=Own.newSlice (h:=h) (l:=zV [UInt8.ofNat p]) (n:=1) (esz:=1) (sp:=none) rfl (.inl rfl)
 have:=hO.cb2s
 rw[zC1] at this
 exact this
theorem zOX (pr:Prog) (T:zBB pr) (hf:pr.prim 247=some (zg zBf)) (p:Nat) (hp:p<256) (h:Heap) (wf:HWF h) (v:Value) (l:List (List UInt8)) (hs:zCp h v=some l) (hr:(zAF l).length+1000≤zj) :
  Comes pr xq144 [uw .u8 p,v] h (.string (zY (tagged (UInt8.ofNat p) l))):=by
 apply Comes.of
 unfold xq144
 dsimp only[zs]
 have hr64:zj=140737488355328:=rfl
 obtain⟨a,cap,rfl,hel⟩:=zOW hs
 obtain⟨_,h1,e1,rfl,d1,g1⟩:=New_B T h
 have g2:Grows h (h1.new [uw .u8 p]):=g1.trans Grows.new
 obtain⟨_,h3,e3,rfl,d3,k3⟩:=zEZ T (d1.keep (W:=none1) (Grows.new (l:=[uw .u8 p])).keeps (fun _ _=>id)) [UInt8.ofNat p] (by simp;omega)
 have g3:=g2.then k3 (fun A hA=>by omega)
 (repeat (first|refine zS ?_|refine zJ ?_|refine zR ?_|refine zT ?_|refine zH ?_|refine zG ?_|refine zI ?_|refine zO ?_|refine zC ?_|refine zE ?_|refine zD ?_|refine zF (by decide) ?_|refine zQ ?_|((first|refine zP ?_|refine zL ?_|refine zN rfl rfl ?_|refine zM rfl ?_|refine zK ?_);simp only[yq144.down,zA,lemS.down,lemC.down,zPW,zPV,zPT,reduceIte,zPU,zPX,zPY,zPZ,zPa,zPb,zPc,zPd,zPe,reduceCtorEq,lemH.down,lemW.down,e1,zMg hp,e3])))
 refine zAo (fun m t g=>∃i,m=l.length - i∧i≤l.length∧DigB g h.next h.next (UInt8.ofNat p::zAF (l.take i))∧Grows h g∧t.get 5=.pointer (some ⟨h.next,0,none⟩)∧t.get 14=.slice a l.length cap∧t.get 15=.int .i64 (l.length:Int)∧t.get 16=.int .i64 (i:Int)) ?_ l.length _ _ ⟨0,rfl,by omega,by simpa [zAF] using d3,g3,by simp only[yq144.down,zA,lemS.down,lemC.down,zPW,zPV,zPT,reduceIte,zPU,zPX,zPY,zPZ,zPa,zPb,zPc,zPd,zPe,reduceCtorEq],by simp only[yq144.down,zA,lemS.down,lemC.down,zPW,zPV,zPT,reduceIte,zPU,zPX,zPY,zPZ,zPa,zPb,zPc,zPd,zPe,reduceCtorEq],by simp only[yq144.down,zA,lemS.down,lemC.down,zPW,zPV,zPT,reduceIte,zPU,zPX,zPY,zPZ,zPa,zPb,zPc,zPd,zPe,reduceCtorEq],by (simp only[yq144.down,zA,lemS.down,lemC.down,zPW,zPV,zPT,reduceIte,zPU,zPX,zPY,zPZ,zPa,zPb,zPc,zPd,zPe,reduceCtorEq])<;>rfl⟩
 rintro m t g ⟨i,rfl,hi,gd,gg,t5,t14,t15,t16⟩ hnext
 refine xq144_9k ?_
 dsimp only[zGA]
 (repeat (first|refine zS ?_|refine zJ ?_|refine zR ?_|refine zT ?_|refine zH ?_|refine zG ?_|refine zI ?_|refine zO ?_|refine zC ?_|refine zE ?_|refine zD ?_|refine zF (by decide) ?_|refine zQ ?_|((first|refine zP ?_|refine zL ?_|refine zN rfl rfl ?_|refine zM rfl ?_|refine zK ?_);simp only[yq144.down,zA,lemS.down,lemC.down,zPW,zPV,zPT,reduceIte,zPU,zPX,zPY,zPZ,zPa,zPb,zPc,zPd,zPe,reduceCtorEq,lemH.down,lemW.down,t5,t14,t15,t16])))
 refine⟨fun hlt=>?_,fun hge=>?_⟩
 ·have hi':i<l.length:=by omega
  have hpl:=part_le hi'
  have hpc:=zNz (l:=l)
  have ww:IntKind.i64.wrap ((i:Int)+1)=((i+1:Nat):Int):=by rw[wrap_i64 (by omega) (by omega)];omega
  obtain⟨B,o,ia,ld⟩:=hel i hi'
  have ld:=gg.load wf ld
  have f4:=zAV (h:=g) hf (zHR (n:=(l.getD i []).length) (by omega))
  obtain⟨_,h4,e4,rfl,d4,k4⟩:=zEZ T gd (zAh (l.getD i []).length) (by simp[zAh];omega)
  obtain⟨_,h5,e5,rfl,d5,k5⟩:=zEZ T d4 (l.getD i []) (by omega)
  (repeat (first|refine zS ?_|refine zJ ?_|refine zR ?_|refine zT ?_|refine zH ?_|refine zG ?_|refine zI ?_|refine zO ?_|refine zC ?_|refine zE ?_|refine zD ?_|refine zF (by decide) ?_|refine zQ ?_|((first|refine zP ?_|refine zL ?_|refine zN rfl rfl ?_|refine zM rfl ?_|refine zK ?_);simp only[yq144.down,zA,lemS.down,lemC.down,zPW,zPV,zPT,reduceIte,zPU,zPX,zPY,zPZ,zPa,zPb,zPc,zPd,zPe,reduceCtorEq,lemH.down,lemW.down,t5,t14,t15,t16,zH0,ia,ld,f4,e4,e5,ww])))
  refine hnext (l.length - (i+1)) _ _ (by omega) ⟨i+1,rfl,by omega,?_,(gg.then k4 (fun A hA=>by omega)).then k5 (fun A hA=>by omega),by simp only[yq144.down,zA,lemS.down,lemC.down,zPW,zPV,zPT,reduceIte,zPU,zPX,zPY,zPZ,zPa,zPb,zPc,zPd,zPe,reduceCtorEq,t5],by simp only[yq144.down,zA,lemS.down,lemC.down,zPW,zPV,zPT,reduceIte,zPU,zPX,zPY,zPZ,zPa,zPb,zPc,zPd,zPe,reduceCtorEq,t14],by simp only[yq144.down,zA,lemS.down,lemC.down,zPW,zPV,zPT,reduceIte,zPU,zPX,zPY,zPZ,zPa,zPb,zPc,zPd,zPe,reduceCtorEq,t15],by simp only[yq144.down,zA,lemS.down,lemC.down,zPW,zPV,zPT,reduceIte,zPU,zPX,zPY,zPZ,zPa,zPb,zPc,zPd,zPe,reduceCtorEq]⟩
  rw[zH2 hi']
  simpa using d5
 ·obtain rfl:i=l.length:=by omega
  rw[List.take_length] at gd
  obtain⟨_,h6,e6,rfl,g6⟩:=Sum_B T gd
  (repeat (first|refine zS ?_|refine zJ ?_|refine zR ?_|refine zT ?_|refine zH ?_|refine zG ?_|refine zI ?_|refine zO ?_|refine zC ?_|refine zE ?_|refine zD ?_|refine zF (by decide) ?_|refine zQ ?_|((first|refine zP ?_|refine zL ?_|refine zN rfl rfl ?_|refine zM rfl ?_|refine zK ?_);simp only[yq144.down,zA,lemS.down,lemC.down,zPW,zPV,zPT,reduceIte,zPU,zPX,zPY,zPZ,zPa,zPb,zPc,zPd,zPe,reduceCtorEq,lemH.down,lemW.down,t5,t14,t15,t16,e6])))
  exact⟨.inr rfl,by (simp only[yq144.down,zA,lemS.down,lemC.down,zPW,zPV,zPT,reduceIte,zPU,zPX,zPY,zPZ,zPa,zPb,zPc,zPd,zPe,reduceCtorEq])<;>rfl,gg.trans g6⟩
end Go.X
end
