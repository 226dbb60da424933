/- The digest: what is written and what is summed. -/
import Derived.Test.YtnppabpbdobaiaaGreatXC
import Derived.Test.YtnppabpbdobaiaaGreatXD
import Derived.Test.YtnppabpbdobaiaaGreatXE
set_option linter.unusedSimpArgs false
set_option linter.unusedVariables false
set_option maxHeartbeats 2000000
open Nat renaming reduceLeDiff → zeu, reduceEqDiff → zev, reduceAdd → zew
open Int renaming reduceBEq → zex, reduceLT → zey, reduceLE → zez, reduceGT → ze0, reduceGE → ze1, reduceEq → ze2, reduceAdd → ze3, reduceSub → ze4, reduceMul → ze5
section
open Go Go.X
namespace Go.X
set_option linter.unusedVariables false
def zu (hs:List Nat) (v:Value) (n:Nat):List Value:=hs.map (uw .u32) ++ [v,uw .u64 n]
theorem zCX {hs:List Nat} (h8:hs.length = 8) {v:Value} {n:Nat}:(zu hs v n).length = 10:=by simp [zu,h8]
theorem zCx {hs:List Nat} (h8:hs.length = 8) {v:Value} {n:Nat}:(zu hs v n)[8]? = some v:=by
 unfold zu;rw [List.getElem?_append_right (by simp [h8])];simp [h8]
theorem zHS {hs:List Nat} (h8:hs.length = 8) {v:Value} {n:Nat}:(zu hs v n)[9]? = some (uw .u64 n):=by
 unfold zu;rw [List.getElem?_append_right (by simp [h8])];simp [h8]
theorem zE0 {hs:List Nat} (h8:hs.length = 8) {v w:Value} {n:Nat}:(zu hs v n).set 8 w = zu hs w n:=by
 unfold zu;rw [List.set_append_right _ _ (by simp [h8])];simp [h8]
theorem zbN {hs:List Nat} (h8:hs.length = 8) {v:Value} {n m:Nat}:(zu hs v n).set 9 (uw .u64 m) = zu hs v m:=by
 unfold zu;rw [List.set_append_right _ _ (by simp [h8])];simp [h8]
def Dig (h:Heap) (N D:Nat) (hs:List Nat) (r:List UInt8) (n:Nat):Prop:=
 hs.length = 8∧N≤D∧∃ v,Var h D (zu hs v n)∧Own h (fun A=>N≤A∧A≠D) 1 v r.length (zW r)
theorem Dig.keep {W:Nat→Prop} {h h':Heap} {N D n:Nat} {hs:List Nat} {r:List UInt8} (hd:Dig h N D hs r n) (hk:Keeps W h h') (hW:∀ A,N≤A→¬ W A):Dig h' N D hs r n:=by
 obtain⟨h1,h2,v,h3,h4⟩:=hd
 exact⟨h1,h2,v,h3.keep hk (hW D h2),h4.keep hk fun A hA=>hW A hA.1⟩
theorem zD5:∀ (i:Nat) {h:List Nat} {b:List UInt8},h.length = 8→(absorb i h b).length = 8
 | 0,h,b,h8=>h8
 | i + 1,h,b,h8=>zD5 i (by
  unfold Sha.block
  rw [show Sha.sched 64 (winB b) = Sha.ext (winB b) 48 from Sha.sched_ext 48 _ (zBr _)]
  have hw:(Sha.ext (winB b) 48).length = 64:=by rw [Sha.ext_len,winB,zBr]
  have hr:(Sha.rounds Sha.K (Sha.ext (winB b) 48) h).length = 8:=by rw [← zGP hw];exact zEW hw h8 64 (by omega)
  rw [zEn _ _ (by rw [hr,h8]),h8])
theorem zJ9 (pr:Prog) (hb:pr.prim 221 = some (zf zEq)) (hn:pr.prim 194 = none) (hc:pr.code 194 = some xq194) (h:Heap) :
  ∃ v h',cfi pr 194 [] h = some (v,h')∧v = .pointer (some ⟨h.next,0,none⟩)∧Dig h' h.next h.next Sha.H0 [] 0∧Grows h h':=by
 refine zAA hn hc rfl ?_
 unfold xq194
 dsimp only [zh]
 refine wpk.out (k:=[]) ?_
 (repeat (first|refine zS ?_|refine zK ?_|refine zR ?_|refine zD ?_|refine zB ?_|refine zI ?_|refine zJ ?_|refine zP ?_|refine zE ?_|refine zG ?_|refine zF ?_|refine zH (by decide) ?_|refine zQ ?_|((first|refine zC ?_|refine zM ?_|refine zO rfl rfl ?_|refine zN rfl ?_|refine zL ?_);simp only [yq194.down,zA,lemS.down,lemC.down,zex,zew,zeu,reduceIte,zev,zey,zez,ze0,ze1,ze2,ze3,ze4,ze5,reduceCtorEq,zZ,zY,lemH.down,zAD hb (s:=zEq) (args:=[]) rfl])))
 refine zFa (v:=.agg (zu Sha.H0 (.slice none 0 0) 0).toArray) (by kernel_rfl) ?_
 dsimp only
 simp only [yq194.down,zA,lemS.down,lemC.down,zex,zew,zeu,reduceIte,zev,zey,zez,ze0,ze1,ze2,ze3,ze4,ze5,reduceCtorEq,zZ,zY,lemH.down]
 (repeat (first|refine zS ?_|refine zK ?_|refine zR ?_|refine zD ?_|refine zB ?_|refine zI ?_|refine zJ ?_|refine zP ?_|refine zE ?_|refine zG ?_|refine zF ?_|refine zH (by decide) ?_|refine zQ ?_|((first|refine zC ?_|refine zM ?_|refine zO rfl rfl ?_|refine zN rfl ?_|refine zL ?_);simp only [yq194.down,zA,lemS.down,lemC.down,zex,zew,zeu,reduceIte,zev,zey,zez,ze0,ze1,ze2,ze3,ze4,ze5,reduceCtorEq,zZ,zY,lemH.down])))
 exact⟨.inr rfl,_,rfl,rfl,⟨rfl,Nat.le_refl _,_,Var.new_self,Own.nil⟩,Grows.new⟩
theorem zKG (pr:Prog) (hp:pr.prim 247 = some (zf zBX)) (hw:pr.prim 246 = some zCT) (hk:pr.prim 245 = some (zf zCw)) (hb:pr.prim 222 = none) (hc:pr.code 222 = some zD0)
  (hn:pr.prim 195 = none) (hcw:pr.code 195 = some xq195) (h:Heap) (N D n:Nat) (hs:List Nat) (r s:List UInt8) (hd:Dig h N D hs r n) (hroom:r.length + s.length≤zU) :
  ∃ v h',cfi pr 195 [.pointer (some ⟨D,0,none⟩),.string (strOf s)] h = some (v,h')∧v = .tuple #[]∧Dig h' N D (absorb ((r ++ s).length / 64) hs (r ++ s)) ((r ++ s).drop (64 * ((r ++ s).length / 64))) (n + s.length)∧Keeps (fun A=>N≤A) h h':=by
 refine zAA hn hcw rfl ?_
 unfold xq195
 dsimp only [zh]
 refine wpk.out (k:=[]) ?_
 obtain⟨h8,hND,v,hD,hO⟩:=hd
 have hlt:D < h.next:=hD.1
 have i8:=fun (v:Value) (n:Nat)=>zCx (v:=v) (n:=n) h8
 have i9:=fun (v:Value) (n:Nat)=>zHS (v:=v) (n:=n) h8
 have st9:=hD.store1 (i:=9) (v:=uw .u64 (n + s.length)) (sp:=none) (by rw [zCX h8];decide) rfl
 rw [zbN h8] at st9
 have hD1:=hD.wr (m:=zu hs v (n + s.length))
 have hO1:=hO.keep (Keeps.wr (A:=D) (l:=zu hs v (n + s.length))) (fun A hA=>hA.2)
 have hk1:Keeps (fun A=>N≤A) h (h.wr D (zu hs v (n + s.length))):=Keeps.wr.mono fun A _ e=>e ▸ hND
 have hn1:(h.wr D (zu hs v (n + s.length))).next = h.next:=rfl
 (repeat (first|refine zS ?_|refine zK ?_|refine zR ?_|refine zD ?_|refine zB ?_|refine zI ?_|refine zJ ?_|refine zP ?_|refine zE ?_|refine zG ?_|refine zF ?_|refine zH (by decide) ?_|refine zQ ?_|((first|refine zC ?_|refine zM ?_|refine zO rfl rfl ?_|refine zN rfl ?_|refine zL ?_);simp only [yq195.down,zA,lemS.down,lemC.down,zex,zew,zeu,reduceIte,zev,zey,zez,ze0,ze1,ze2,ze3,ze4,ze5,reduceCtorEq,zZ,zY,lemH.down,lemW.down,zCG,hD.load,i9,st9,zCl zDv])))
 obtain⟨v2,h2,e2,hO2,k2⟩:=hO1.append (bytes:=1) (m:=s.length) (new:=zW s) (by simp [zCF]) zEt (by decide) (by decide) (by omega)
 have hD2:=hD1.keep k2 (fun e=>e.2 rfl)
 rw [← zCu] at hO2
 have hO2:Own h2 (fun A=>N≤A∧A≠D) 1 v2 (r ++ s).length (zW (r ++ s)):=by
  rw [List.length_append];exact hO2.mono fun A hA=>by
   rcases hA with hA|hA
   ·exact hA
   ·rw [hn1] at hA;exact⟨by omega,by omega⟩
 have hk2:=hk1.trans k2 (fun A _ e=>e.1)
 have st8:=hO2.store (i:=8) hD2 (by rw [zCX h8];decide)
 rw [zE0 h8] at st8
 simp only [yq195.down,zA,lemS.down,lemC.down,zex,zew,zeu,reduceIte,zev,zey,zez,ze0,ze1,ze2,ze3,ze4,ze5,reduceCtorEq,zZ,zY,lemH.down,hD1.load,i8,e2,st8]
 have hD3:=hD2.wr (m:=zu hs v2 (n + s.length))
 have hO3:=hO2.keep (Keeps.wr (A:=D) (l:=zu hs v2 (n + s.length))) (fun A hA=>hA.2)
 have hk3:=hk2.trans (Keeps.wr (A:=D) (l:=zu hs v2 (n + s.length))) (fun A _ e=>e ▸ hND)
 generalize h2.wr D (zu hs v2 (n + s.length)) = h3 at *
 clear hD2 hO2 hk2 st8 k2 e2 hD1 hO1 hk1 st9 hD hO
 generalize hb0:r ++ s = b at *
 generalize n + s.length = n' at *
 (repeat (first|refine zS ?_|refine zK ?_|refine zR ?_|refine zD ?_|refine zB ?_|refine zI ?_|refine zJ ?_|refine zP ?_|refine zE ?_|refine zG ?_|refine zF ?_|refine zH (by decide) ?_|refine zQ ?_|((first|refine zC ?_|refine zM ?_|refine zO rfl rfl ?_|refine zN rfl ?_|refine zL ?_);simp only [yq195.down,zA,lemS.down,lemC.down,zex,zew,zeu,reduceIte,zev,zey,zez,ze0,ze1,ze2,ze3,ze4,ze5,reduceCtorEq,zZ,zY,lemH.down])))
 refine zAG (fun m t g=>∃ i v,m = b.length - 64 * i∧64 * i≤b.length∧(absorb i hs b).length = 8∧Var g D (zu (absorb i hs b) v n')∧Own g (fun A=>N≤A∧A≠D) 1 v (b.drop (64 * i)).length (zW (b.drop (64 * i)))∧Keeps (fun A=>N≤A) h g∧t.get 0 = .pointer (some ⟨D,0,none⟩)) ?_ b.length _ _ ⟨0,v2,rfl,by omega,h8,hD3,hO3,hk3,by simp only [yq195.down,zA,lemS.down,lemC.down,zex,zew,zeu,reduceIte,zev,zey,zez,ze0,ze1,ze2,ze3,ze4,ze5,reduceCtorEq]⟩
 rintro m t g ⟨i,v,rfl,hi,g8,gD,gO,gk,t0⟩ hnext
 refine xq195_6k ?_
 dsimp only [zJJ]
 have i8:=fun (v:Value) (n:Nat)=>zCx (v:=v) (n:=n) g8
 (repeat (first|refine zS ?_|refine zK ?_|refine zR ?_|refine zD ?_|refine zB ?_|refine zI ?_|refine zJ ?_|refine zP ?_|refine zE ?_|refine zG ?_|refine zF ?_|refine zH (by decide) ?_|refine zQ ?_|((first|refine zC ?_|refine zM ?_|refine zO rfl rfl ?_|refine zN rfl ?_|refine zL ?_);simp only [yq195.down,zA,lemS.down,lemC.down,zex,zew,zeu,reduceIte,zev,zey,zez,ze0,ze1,ze2,ze3,ze4,ze5,reduceCtorEq,zZ,zY,lemH.down,t0,gD.load,i8,gO.lenV])))
 refine ⟨fun hlt=>?_,fun hge=>?_⟩
 ·have hlt':64≤(b.drop (64 * i)).length:=by omega
  obtain⟨v3,e3,o3⟩:=gO.to (j:=64) (k:=.i64) hlt'
  have e3':zA9 1 v none (some (.int .i64 64)) none = some v3:=e3
  (repeat (first|refine zS ?_|refine zK ?_|refine zR ?_|refine zD ?_|refine zB ?_|refine zI ?_|refine zJ ?_|refine zP ?_|refine zE ?_|refine zG ?_|refine zF ?_|refine zH (by decide) ?_|refine zQ ?_|((first|refine zC ?_|refine zM ?_|refine zO rfl rfl ?_|refine zN rfl ?_|refine zL ?_);simp only [yq195.down,zA,lemS.down,lemC.down,zex,zew,zeu,reduceIte,zev,zey,zez,ze0,ze1,ze2,ze3,ze4,ze5,reduceCtorEq,zZ,zY,lemH.down,t0,gD.load,i8,e3'])))
  obtain⟨a3,c3,rfl,s3⟩:=o3.shape
  obtain⟨B,off,sp,rfl,ld3,_⟩:=s3 (by decide)
  rw [zEu] at ld3
  obtain⟨_,g2,e4,rfl,gD4,k4⟩:=zKb pr hp hw hk hb hc g D c3 ⟨B,off,sp⟩ _ g8 [v,uw .u64 n'] rfl _ gD ld3
  rw [zI3 (by decide),← zFf] at gD4
  have g8':(absorb (i + 1) hs b).length = 8:=zD5 _ h8
  have gO4:=gO.keep k4 (fun A hA=>hA.2)
  have gk4:=gk.trans k4 (fun A _ e=>e ▸ hND)
  obtain⟨v5,e5,o5⟩:=gO4.from (j:=64) (k:=.i64) hlt'
  have e5':zA9 1 v (some (.int .i64 64)) none none = some v5:=e5
  have j8:=zCx (v:=v) (n:=n') g8'
  have gD4':Var g2 D (zu (absorb (i + 1) hs b) v n'):=gD4
  rw [zFs,List.drop_drop,show 64 * i + 64 * 1 = 64 * (i + 1) by omega] at o5
  have o5:Own g2 (fun A=>N≤A∧A≠D) 1 v5 (b.drop (64 * (i + 1))).length (zW (b.drop (64 * (i + 1)))):=by
   rw [show (b.drop (64 * (i + 1))).length = (b.drop (64 * i)).length - 64 by simp;omega];exact o5
  have st8:=o5.store (i:=8) gD4' (by rw [zCX g8'];decide)
  rw [zE0 g8'] at st8
  simp only [yq195.down,zA,lemS.down,lemC.down,zex,zew,zeu,reduceIte,zev,zey,zez,ze0,ze1,ze2,ze3,ze4,ze5,reduceCtorEq,zZ,zY,lemH.down,e4]
  (repeat (first|refine zS ?_|refine zK ?_|refine zR ?_|refine zD ?_|refine zB ?_|refine zI ?_|refine zJ ?_|refine zP ?_|refine zE ?_|refine zG ?_|refine zF ?_|refine zH (by decide) ?_|refine zQ ?_|((first|refine zC ?_|refine zM ?_|refine zO rfl rfl ?_|refine zN rfl ?_|refine zL ?_);simp only [yq195.down,zA,lemS.down,lemC.down,zex,zew,zeu,reduceIte,zev,zey,zez,ze0,ze1,ze2,ze3,ze4,ze5,reduceCtorEq,zZ,zY,lemH.down,t0,gD4'.load,j8,e5',st8])))
  rw [List.length_drop] at hlt'
  refine hnext (b.length - 64 * (i + 1)) _ _ (by omega) ⟨i + 1,v5,rfl,by omega,g8',gD4'.wr,o5.keep Keeps.wr (fun A hA=>hA.2),gk4.trans Keeps.wr (fun A _ e=>e ▸ hND),by simp only [yq195.down,zA,lemS.down,lemC.down,zex,zew,zeu,reduceIte,zev,zey,zez,ze0,ze1,ze2,ze3,ze4,ze5,reduceCtorEq,t0]⟩
 ·(repeat (first|refine zS ?_|refine zK ?_|refine zR ?_|refine zD ?_|refine zB ?_|refine zI ?_|refine zJ ?_|refine zP ?_|refine zE ?_|refine zG ?_|refine zF ?_|refine zH (by decide) ?_|refine zQ ?_|((first|refine zC ?_|refine zM ?_|refine zO rfl rfl ?_|refine zN rfl ?_|refine zL ?_);simp only [yq195.down,zA,lemS.down,lemC.down,zex,zew,zeu,reduceIte,zev,zey,zez,ze0,ze1,ze2,ze3,ze4,ze5,reduceCtorEq,zZ,zY,lemH.down,t0])))
  have hd:b.length / 64 = i:=by rw [List.length_drop] at hge;omega
  refine ⟨.inl rfl,_,rfl,rfl,⟨by rw [hd];exact g8,hND,v,by rw [hd];exact gD,by rw [hd];exact gO⟩,gk⟩
end Go.X
end
section
open Go Go.X
namespace Go.X
set_option linter.unusedVariables false
theorem fill_dig {hs:List Nat} (h8:hs.length = 8) {n:Nat} {z:Value}:zAB [z,z,z,z,z,z,z,z,.slice none 0 0,.int .u64 0] [(0,8,.agg (hs.map (uw .u32)).toArray),(9,1,uw .u64 n)] = some (zu hs (.slice none 0 0) n):=by
 obtain⟨a,b,c,d,e,f,g,i,rfl⟩:=len8 h8
 simp [zAB,zKt,zEv,putN,zu]
theorem Dig.push {g:Heap} {N D n:Nat} {hs:List Nat} {q:List UInt8} (hd:Dig g N D hs q n) (x:Nat) (hroom:q.length + 1≤zU) :
  ∃ v v' g2,Var g D (zu hs v n)∧Var (g.new [uw .u8 x]) D (zu hs v n)∧zA2 (g.new [uw .u8 x]) 1 1 v (.slice (some ⟨g.next,0,none⟩) 1 1) = some (v',g2) ∧
   zn g2 1 (.pointer (some ⟨D,8,none⟩)) v' = some (.tuple #[],g2.wr D (zu hs v' n))∧Dig (g2.wr D (zu hs v' n)) N D hs (q ++ [UInt8.ofNat x]) n∧Keeps (fun A=>N≤A) g (g2.wr D (zu hs v' n)):=by
 obtain⟨h8,hND,v,hD,hO⟩:=hd
 have hlt:D < g.next:=hD.1
 have hD1:=hD.new_old (m:=[uw .u8 x])
 have hO1:=hO.grow (Grows.new (l:=[uw .u8 x]))
 have hk1:Keeps (fun A=>N≤A) g (g.new [uw .u8 x]):=Keeps.new
 have hs1:=(Var.new_self (h:=g) (l:=[uw .u8 x])).src (n:=1) (esz:=1) (bytes:=1) (s:=v) (sp:=none) (c:=1) rfl (by decide)
 have hn1:(g.new [uw .u8 x]).next = g.next + 1:=rfl
 obtain⟨v',g2,e2,hO2,k2⟩:=hO1.append (bytes:=1) (m:=1) (new:=[uw .u8 x]) rfl rfl (by decide) (by decide) (by omega)
 have hD2:=hD1.keep k2 (fun e=>e.2 rfl)
 rw [← zCv,← zCu] at hO2
 have hO2:Own g2 (fun A=>N≤A∧A≠D) 1 v' (q ++ [UInt8.ofNat x]).length (zW (q ++ [UInt8.ofNat x])):=by
  rw [List.length_append];exact hO2.mono fun A hA=>by
   rcases hA with hA|hA
   ·exact hA
   ·rw [zCv,hn1] at hA;exact⟨by omega,by omega⟩
 have st8:=hO2.store (i:=8) hD2 (by rw [zCX h8];decide)
 rw [zE0 h8] at st8
 refine ⟨v,v',g2,hD,hD1,by rw [hs1,e2],st8,⟨h8,hND,v',hD2.wr,hO2.keep Keeps.wr (fun A hA=>hA.2)⟩,(hk1.trans k2 (fun A _ e=>e.1)).trans Keeps.wr (fun A _ e=>e ▸ hND)⟩
theorem sum1_ok (pr:Prog) (k:List KI) (Q:XE→Fr→Heap→Prop) (h g:Heap) (O n:Nat) (hs:List Nat) (r:List UInt8) (hroom:r.length + 200≤zU) (hd:Dig g O O hs (r ++ [128]) n) (hk:Keeps (fun A=>O≤A) h g)
  (hQ:∀ t' g',Dig g' O O hs (r ++ [128] ++ List.replicate (zAP r.length) 0) n→Keeps (fun A=>O≤A) h g'→t'.get 3 = .pointer (some ⟨O,0,none⟩)→extk pr k 0 Q t' g') (t:Fr) (t3:t.get 3 = .pointer (some ⟨O,0,none⟩)) :
  wpk pr (.loop zJS) k Q t g:=by
 refine zAG (fun m t g=>∃ j,m = zAP r.length - j∧j≤zAP r.length∧Dig g O O hs (r ++ [128] ++ List.replicate j 0) n∧Keeps (fun A=>O≤A) h g∧t.get 3 = .pointer (some ⟨O,0,none⟩)) ?_ (zAP r.length) _ _ ⟨0,rfl,by omega,by simpa using hd,hk,t3⟩
 rintro m t g ⟨j,rfl,hj,gd,gk,t3⟩ hnext
 refine xq197_7k ?_
 dsimp only [zJT]
 have hlen:(r ++ [128] ++ List.replicate j (0:UInt8)).length = r.length + 1 + j:=by simp;omega
 have hz:zAP r.length < 64:=Nat.mod_lt _ (by decide)
 obtain⟨v,v',g2,gD,gD1,e1,e2,gd',gk'⟩:=gd.push 0 (by rw [hlen];omega)
 rw [show uw .u8 0 = .int .u8 0 from rfl] at gD1 e1
 have h8:=gd.1
 obtain⟨_,_,v0,gD0,gO⟩:=id gd
 have i8:=fun (v:Value) (n:Nat)=>zCx (v:=v) (n:=n) h8
 obtain rfl:v = v0:=by
  have a:=gD.load (i:=8) (sp:=none)
  rw [gD0.load (i:=8) (sp:=none),i8,i8] at a
  exact (Option.some.inj a).symm
 have e40:binX .rem (.int .i64 (((r ++ [128] ++ List.replicate j (0:UInt8)).length:Nat):Int)) (.int .i64 64) = some (.int .i64 (((r.length + 1 + j) % 64:Nat):Int)):=by
  rw [hlen];exact zMY (by decide)
 (repeat (first|refine zS ?_|refine zK ?_|refine zR ?_|refine zD ?_|refine zB ?_|refine zI ?_|refine zJ ?_|refine zP ?_|refine zE ?_|refine zG ?_|refine zF ?_|refine zH (by decide) ?_|refine zQ ?_|((first|refine zC ?_|refine zM ?_|refine zO rfl rfl ?_|refine zN rfl ?_|refine zL ?_);simp only [yq197.down,zA,lemS.down,lemC.down,zex,zew,zeu,reduceIte,zev,zey,zez,ze0,ze1,ze2,ze3,ze4,ze5,reduceCtorEq,zZ,zY,lemH.down,lemW.down,t3,gD.load,i8,gO.lenV,e40])))
 refine ⟨fun hlt=>?_,fun hge=>?_⟩
 ·(repeat (first|refine zS ?_|refine zK ?_|refine zR ?_|refine zD ?_|refine zB ?_|refine zI ?_|refine zJ ?_|refine zP ?_|refine zE ?_|refine zG ?_|refine zF ?_|refine zH (by decide) ?_|refine zQ ?_|((first|refine zC ?_|refine zM ?_|refine zO rfl rfl ?_|refine zN rfl ?_|refine zL ?_);simp only [yq197.down,zA,lemS.down,lemC.down,zex,zew,zeu,reduceIte,zev,zey,zez,ze0,ze1,ze2,ze3,ze4,ze5,reduceCtorEq,zZ,zY,lemH.down,lemW.down,t3,gD.load,i8,e1,e2])))
  have hj':j < zAP r.length:=by
   unfold zAP at *;omega
  refine hnext (zAP r.length - (j + 1)) _ _ (by omega) ⟨j + 1,rfl,by omega,?_,gk.trans gk' (fun A _ e=>e),by simp only [yq197.down,zA,lemS.down,lemC.down,zex,zew,zeu,reduceIte,zev,zey,zez,ze0,ze1,ze2,ze3,ze4,ze5,reduceCtorEq,t3]⟩
  rw [List.append_assoc] at gd'
  rw [List.replicate_succ']
  exact gd'
 ·(repeat (first|refine zS ?_|refine zK ?_|refine zR ?_|refine zD ?_|refine zB ?_|refine zI ?_|refine zJ ?_|refine zP ?_|refine zE ?_|refine zG ?_|refine zF ?_|refine zH (by decide) ?_|refine zQ ?_|((first|refine zC ?_|refine zM ?_|refine zO rfl rfl ?_|refine zN rfl ?_|refine zL ?_);simp only [yq197.down,zA,lemS.down,lemC.down,zex,zew,zeu,reduceIte,zev,zey,zez,ze0,ze1,ze2,ze3,ze4,ze5,reduceCtorEq,zZ,zY,lemH.down,lemW.down])))
  obtain rfl:j = zAP r.length:=by
   unfold zAP at *;omega
  exact hQ _ _ gd gk (by simp only [yq197.down,zA,lemS.down,lemC.down,zex,zew,zeu,reduceIte,zev,zey,zez,ze0,ze1,ze2,ze3,ze4,ze5,reduceCtorEq,t3])
theorem sum2_ok (pr:Prog) (k:List KI) (Q:XE→Fr→Heap→Prop) (h g:Heap) (O n:Nat) (hs:List Nat) (p:List UInt8) (hroom:p.length + 100≤zU) (hd:Dig g O O hs p n) (hk:Keeps (fun A=>O≤A) h g)
  (hQ:∀ t' g',Dig g' O O hs (p ++ lenB (n * 8)) n→Keeps (fun A=>O≤A) h g'→t'.get 3 = .pointer (some ⟨O,0,none⟩)→extk pr k 2 Q t' g') (t:Fr) (t3:t.get 3 = .pointer (some ⟨O,0,none⟩)) (t51:t.get 51 = .int .i64 0) :
  wpk pr (.loop zJK) k Q t g:=by
 have hlb:∀ j,j≤8→((lenB (n * 8)).take j).length = j:=fun j hj=>by rw [List.length_take,zCJ];omega
 refine zAG (fun m t g=>∃ j,m = 8 - j∧j≤8∧Dig g O O hs (p ++ (lenB (n * 8)).take j) n∧Keeps (fun A=>O≤A) h g∧t.get 3 = .pointer (some ⟨O,0,none⟩)∧t.get 51 = .int .i64 (j:Int)) ?_ 8 _ _ ⟨0,rfl,by omega,by simpa using hd,hk,t3,t51⟩
 rintro m t g ⟨j,rfl,hj,gd,gk,t3,t51⟩ hnext
 refine zdS ?_
 dsimp only [zJL]
 (repeat (first|refine zS ?_|refine zK ?_|refine zR ?_|refine zD ?_|refine zB ?_|refine zI ?_|refine zJ ?_|refine zP ?_|refine zE ?_|refine zG ?_|refine zF ?_|refine zH (by decide) ?_|refine zQ ?_|((first|refine zC ?_|refine zM ?_|refine zO rfl rfl ?_|refine zN rfl ?_|refine zL ?_);simp only [yq197.down,zA,lemS.down,lemC.down,zex,zew,zeu,reduceIte,zev,zey,zez,ze0,ze1,ze2,ze3,ze4,ze5,reduceCtorEq,zZ,zY,lemH.down,lemW.down,t3,t51])))
 refine ⟨fun hlt=>?_,fun hge=>?_⟩
 ·have hj':j < 8:=by omega
  obtain⟨v,v',g2,gD,gD1,e1,e2,gd',gk'⟩:=gd.push (((n * 8) % 18446744073709551616) >>> (8 * (7 - j))) (by rw [List.length_append,hlb j hj];omega)
  have h8:=gd.1
  have i8:=fun (v:Value) (n:Nat)=>zCx (v:=v) (n:=n) h8
  have i9:=fun (v:Value) (n:Nat)=>zHS (v:=v) (n:=n) h8
  have w7:IntKind.i64.wrap (7 - (j:Int)) = ((7 - j:Nat):Int):=by rw [wrap_i64 (by omega) (by omega)];omega
  have w8:IntKind.i64.wrap (8 * ((7 - j:Nat):Int)) = ((8 * (7 - j):Nat):Int):=by rw [wrap_i64 (by omega) (by omega)];omega
  have ww:IntKind.i64.wrap ((j:Int) + 1) = ((j + 1:Nat):Int):=by rw [wrap_i64 (by omega) (by omega)];omega
  have u8:Value.int .u64 8 = uw .u64 8:=rfl
  have sh:=fun x=>zIj (k':=.i64) (x:=x) (n:=8 * (7 - j)) (by omega)
  (repeat (first|refine zS ?_|refine zK ?_|refine zR ?_|refine zD ?_|refine zB ?_|refine zI ?_|refine zJ ?_|refine zP ?_|refine zE ?_|refine zG ?_|refine zF ?_|refine zH (by decide) ?_|refine zQ ?_|((first|refine zC ?_|refine zM ?_|refine zO rfl rfl ?_|refine zN rfl ?_|refine zL ?_);simp only [yq197.down,zA,lemS.down,lemC.down,zex,zew,zeu,reduceIte,zev,zey,zez,ze0,ze1,ze2,ze3,ze4,ze5,reduceCtorEq,zZ,zY,lemH.down,lemW.down,t3,t51,gD.load,gD1.load,i8,i9,w7,w8,u8,sh,e1,e2])))
  refine ⟨⟨?_,?_⟩,?_⟩
  ·(refine zBb rfl rfl rfl ?_ ?_<;>simp only [yq197.down,zA,lemS.down,lemC.down,zex,zew,zeu,reduceIte,zev,zey,zez,ze0,ze1,ze2,ze3,ze4,ze5,reduceCtorEq,t3,gD.load,gD1.load,i8,i9,zBV,zBQ,zBW,zBR,zBH,Option.isSome_some])
  ·(refine zBb rfl rfl rfl ?_ ?_<;>simp only [yq197.down,zA,lemS.down,lemC.down,zex,zew,zeu,reduceIte,zev,zey,zez,ze0,ze1,ze2,ze3,ze4,ze5,reduceCtorEq,t3,gD.load,gD1.load,i8,i9,zBV,zBQ,zBW,zBR,zBH,Option.isSome_some])
  (repeat (first|refine zS ?_|refine zK ?_|refine zR ?_|refine zD ?_|refine zB ?_|refine zI ?_|refine zJ ?_|refine zP ?_|refine zE ?_|refine zG ?_|refine zF ?_|refine zH (by decide) ?_|refine zQ ?_|((first|refine zC ?_|refine zM ?_|refine zO rfl rfl ?_|refine zN rfl ?_|refine zL ?_);simp only [yq197.down,zA,lemS.down,lemC.down,zex,zew,zeu,reduceIte,zev,zey,zez,ze0,ze1,ze2,ze3,ze4,ze5,reduceCtorEq,zZ,zY,lemH.down,lemW.down,t3,t51,ww])))
  refine hnext (8 - (j + 1)) _ _ (by omega) ⟨j + 1,rfl,by omega,?_,gk.trans gk' (fun A _ e=>e),by simp only [yq197.down,zA,lemS.down,lemC.down,zex,zew,zeu,reduceIte,zev,zey,zez,ze0,ze1,ze2,ze3,ze4,ze5,reduceCtorEq,t3],by simp only [yq197.down,zA,lemS.down,lemC.down,zex,zew,zeu,reduceIte,zev,zey,zez,ze0,ze1,ze2,ze3,ze4,ze5,reduceCtorEq]⟩
  rw [List.take_succ_eq_append_getElem (by rw [zCJ];exact hj'),← List.append_assoc]
  have:(lenB (n * 8))[j]'(by rw [zCJ];exact hj') = UInt8.ofNat (((n * 8) % 18446744073709551616) >>> (8 * (7 - j))):=by simp [lenB]
  rw [this]
  exact gd'
 ·(repeat (first|refine zS ?_|refine zK ?_|refine zR ?_|refine zD ?_|refine zB ?_|refine zI ?_|refine zJ ?_|refine zP ?_|refine zE ?_|refine zG ?_|refine zF ?_|refine zH (by decide) ?_|refine zQ ?_|((first|refine zC ?_|refine zM ?_|refine zO rfl rfl ?_|refine zN rfl ?_|refine zL ?_);simp only [yq197.down,zA,lemS.down,lemC.down,zex,zew,zeu,reduceIte,zev,zey,zez,ze0,ze1,ze2,ze3,ze4,ze5,reduceCtorEq,zZ,zY,lemH.down,lemW.down,t3])))
  obtain rfl:j = 8:=by omega
  rw [List.take_of_length_le (by rw [zCJ];decide)] at gd
  exact hQ _ _ gd gk (by simp only [yq197.down,zA,lemS.down,lemC.down,zex,zew,zeu,reduceIte,zev,zey,zez,ze0,ze1,ze2,ze3,ze4,ze5,reduceCtorEq,t3])
theorem sum3_ok (pr:Prog) (hp:pr.prim 247 = some (zf zBX)) (hw:pr.prim 246 = some zCT) (hk:pr.prim 245 = some (zf zCw)) (hb:pr.prim 222 = none) (hc:pr.code 222 = some zD0)
  (k:List KI) (Q:XE→Fr→Heap→Prop) (h g:Heap) (O n:Nat) (hs:List Nat) (b:List UInt8) (hb64:b.length = 64 * (b.length / 64)) (hd:Dig g O O hs b n) (hk:Keeps (fun A=>O≤A) h g)
  (hQ:∀ t' g',Dig g' O O (absorb (b.length / 64) hs b) [] n→Keeps (fun A=>O≤A) h g'→t'.get 3 = .pointer (some ⟨O,0,none⟩)→extk pr k 4 Q t' g') (t:Fr) (t3:t.get 3 = .pointer (some ⟨O,0,none⟩)) :
  wpk pr (.loop zJM) k Q t g:=by
 have h8:=hd.1
 refine zAG (fun m t g=>∃ i,m = b.length - 64 * i∧64 * i≤b.length∧Dig g O O (absorb i hs b) (b.drop (64 * i)) n∧Keeps (fun A=>O≤A) h g∧t.get 3 = .pointer (some ⟨O,0,none⟩)) ?_ b.length _ _ ⟨0,rfl,by omega,hd,hk,t3⟩
 rintro m t g ⟨i,rfl,hi,gd,gk,t3⟩ hnext
 refine zdW ?_
 dsimp only [zJN]
 obtain⟨g8,gND,v,gD,gO⟩:=id gd
 have i8:=fun (v:Value) (n:Nat)=>zCx (v:=v) (n:=n) g8
 (repeat (first|refine zS ?_|refine zK ?_|refine zR ?_|refine zD ?_|refine zB ?_|refine zI ?_|refine zJ ?_|refine zP ?_|refine zE ?_|refine zG ?_|refine zF ?_|refine zH (by decide) ?_|refine zQ ?_|((first|refine zC ?_|refine zM ?_|refine zO rfl rfl ?_|refine zN rfl ?_|refine zL ?_);simp only [yq197.down,zA,lemS.down,lemC.down,zex,zew,zeu,reduceIte,zev,zey,zez,ze0,ze1,ze2,ze3,ze4,ze5,reduceCtorEq,zZ,zY,lemH.down,t3,gD.load,i8,gO.lenV])))
 refine ⟨fun hlt=>?_,fun hge=>?_⟩
 ·have hlt':64≤(b.drop (64 * i)).length:=by rw [List.length_drop] at *;omega
  obtain⟨v3,e3,o3⟩:=gO.to (j:=64) (k:=.i64) hlt'
  have e3':zA9 1 v none (some (.int .i64 64)) none = some v3:=e3
  (repeat (first|refine zS ?_|refine zK ?_|refine zR ?_|refine zD ?_|refine zB ?_|refine zI ?_|refine zJ ?_|refine zP ?_|refine zE ?_|refine zG ?_|refine zF ?_|refine zH (by decide) ?_|refine zQ ?_|((first|refine zC ?_|refine zM ?_|refine zO rfl rfl ?_|refine zN rfl ?_|refine zL ?_);simp only [yq197.down,zA,lemS.down,lemC.down,zex,zew,zeu,reduceIte,zev,zey,zez,ze0,ze1,ze2,ze3,ze4,ze5,reduceCtorEq,zZ,zY,lemH.down,t3,gD.load,i8,e3'])))
  obtain⟨a3,c3,rfl,s3⟩:=o3.shape
  obtain⟨B,off,sp,rfl,ld3,_⟩:=s3 (by decide)
  rw [zEu] at ld3
  obtain⟨_,g2,e4,rfl,gD4,k4⟩:=zKb pr hp hw ‹_› hb hc g O c3 ⟨B,off,sp⟩ _ g8 [v,uw .u64 n] rfl _ gD ld3
  rw [zI3 (by decide),← zFf] at gD4
  have g8':(absorb (i + 1) hs b).length = 8:=zD5 _ h8
  have gO4:=gO.keep k4 (fun A hA=>hA.2)
  have gk4:=gk.trans k4 (fun A _ e=>Nat.le_of_eq e.symm)
  obtain⟨v5,e5,o5⟩:=gO4.from (j:=64) (k:=.i64) hlt'
  have e5':zA9 1 v (some (.int .i64 64)) none none = some v5:=e5
  have j8:=zCx (v:=v) (n:=n) g8'
  have gD4':Var g2 O (zu (absorb (i + 1) hs b) v n):=gD4
  rw [zFs,List.drop_drop,show 64 * i + 64 * 1 = 64 * (i + 1) by omega] at o5
  have o5:Own g2 (fun A=>O≤A∧A≠O) 1 v5 (b.drop (64 * (i + 1))).length (zW (b.drop (64 * (i + 1)))):=by
   rw [show (b.drop (64 * (i + 1))).length = (b.drop (64 * i)).length - 64 by simp;omega];exact o5
  have st8:=o5.store (i:=8) gD4' (by rw [zCX g8'];decide)
  rw [zE0 g8'] at st8
  simp only [yq197.down,zA,lemS.down,lemC.down,zex,zew,zeu,reduceIte,zev,zey,zez,ze0,ze1,ze2,ze3,ze4,ze5,reduceCtorEq,zZ,zY,lemH.down,e4]
  (repeat (first|refine zS ?_|refine zK ?_|refine zR ?_|refine zD ?_|refine zB ?_|refine zI ?_|refine zJ ?_|refine zP ?_|refine zE ?_|refine zG ?_|refine zF ?_|refine zH (by decide) ?_|refine zQ ?_|((first|refine zC ?_|refine zM ?_|refine zO rfl rfl ?_|refine zN rfl ?_|refine zL ?_);simp only [yq197.down,zA,lemS.down,lemC.down,zex,zew,zeu,reduceIte,zev,zey,zez,ze0,ze1,ze2,ze3,ze4,ze5,reduceCtorEq,zZ,zY,lemH.down,t3,gD4'.load,j8,e5',st8])))
  rw [List.length_drop] at hlt'
  refine hnext (b.length - 64 * (i + 1)) _ _ (by omega) ⟨i + 1,rfl,by omega,⟨g8',Nat.le_refl _,v5,gD4'.wr,o5.keep Keeps.wr (fun A hA=>hA.2)⟩,gk4.trans Keeps.wr (fun A _ e=>Nat.le_of_eq e.symm),by simp only [yq197.down,zA,lemS.down,lemC.down,zex,zew,zeu,reduceIte,zev,zey,zez,ze0,ze1,ze2,ze3,ze4,ze5,reduceCtorEq,t3]⟩
 ·(repeat (first|refine zS ?_|refine zK ?_|refine zR ?_|refine zD ?_|refine zB ?_|refine zI ?_|refine zJ ?_|refine zP ?_|refine zE ?_|refine zG ?_|refine zF ?_|refine zH (by decide) ?_|refine zQ ?_|((first|refine zC ?_|refine zM ?_|refine zO rfl rfl ?_|refine zN rfl ?_|refine zL ?_);simp only [yq197.down,zA,lemS.down,lemC.down,zex,zew,zeu,reduceIte,zev,zey,zez,ze0,ze1,ze2,ze3,ze4,ze5,reduceCtorEq,zZ,zY,lemH.down,t3])))
  rw [List.length_drop] at hge
  have hd':b.length / 64 = i:=by omega
  have he:b.drop (64 * i) = []:=List.drop_of_length_le (by omega)
  rw [he,← hd'] at gd
  exact hQ _ _ gd gk (by simp only [yq197.down,zA,lemS.down,lemC.down,zex,zew,zeu,reduceIte,zev,zey,zez,ze0,ze1,ze2,ze3,ze4,ze5,reduceCtorEq,t3])
theorem sum4i_ok (pr:Prog) (k:List KI) (Q:XE→Fr→Heap→Prop) (h g:Heap) (N x:Nat) (v:Value) (p:List UInt8) (r98 r99:Value) (hN:N≤g.next) (hroom:p.length + 100≤zU) (hd:Own g (fun A=>N≤A) 1 v p.length (zW p)) (hk:Keeps (fun A=>N≤A) h g)
  (hQ:∀ t' g' v',Own g' (fun A=>N≤A) 1 v' (p ++ outW x).length (zW (p ++ outW x))→Keeps (fun A=>N≤A) h g'→N≤g'.next→t'.get 5 = v'→t'.get 98 = r98→t'.get 99 = r99→extk pr k 8 Q t' g') (t:Fr)
  (t5:t.get 5 = v) (t7:t.get 7 = uw .u32 x) (t98:t.get 98 = r98) (t99:t.get 99 = r99) (t102:t.get 102 = .int .i64 0) :
  wpk pr (.loop zJO) k Q t g:=by
 have hol:(outW x).length = 4:=by simp [outW]
 have hlb:∀ j,j≤4→((outW x).take j).length = j:=fun j hj=>by rw [List.length_take,hol];omega
 refine zAG (fun m t g=>∃ j v,m = 4 - j∧j≤4∧Own g (fun A=>N≤A) 1 v (p ++ (outW x).take j).length (zW (p ++ (outW x).take j))∧Keeps (fun A=>N≤A) h g∧N≤g.next∧t.get 5 = v∧t.get 7 = uw .u32 x∧t.get 98 = r98∧t.get 99 = r99∧t.get 102 = .int .i64 (j:Int)) ?_ 4 _ _ ⟨0,v,rfl,by omega,by simpa using hd,hk,hN,t5,t7,t98,t99,t102⟩
 rintro m t g ⟨j,v,rfl,hj,gO,gk,gN,t5,t7,t98,t99,t102⟩ hnext
 refine zdg ?_
 dsimp only [zJP]
 (repeat (first|refine zS ?_|refine zK ?_|refine zR ?_|refine zD ?_|refine zB ?_|refine zI ?_|refine zJ ?_|refine zP ?_|refine zE ?_|refine zG ?_|refine zF ?_|refine zH (by decide) ?_|refine zQ ?_|((first|refine zC ?_|refine zM ?_|refine zO rfl rfl ?_|refine zN rfl ?_|refine zL ?_);simp only [yq197.down,zA,lemS.down,lemC.down,zex,zew,zeu,reduceIte,zev,zey,zez,ze0,ze1,ze2,ze3,ze4,ze5,reduceCtorEq,zZ,zY,lemH.down,lemW.down,t5,t7,t102])))
 refine ⟨fun hlt=>?_,fun hge=>?_⟩
 ·have hj':j < 4:=by omega
  have w7:IntKind.i64.wrap (3 - (j:Int)) = ((3 - j:Nat):Int):=by rw [wrap_i64 (by omega) (by omega)];omega
  have w8:IntKind.i64.wrap (8 * ((3 - j:Nat):Int)) = ((8 * (3 - j):Nat):Int):=by rw [wrap_i64 (by omega) (by omega)];omega
  have ww:IntKind.i64.wrap ((j:Int) + 1) = ((j + 1:Nat):Int):=by rw [wrap_i64 (by omega) (by omega)];omega
  have sh:=zIi (k':=.i64) (x:=x) (n:=8 * (3 - j)) (by omega)
  have hO1:=gO.grow (Grows.new (l:=[uw .u8 ((x % 4294967296) >>> (8 * (3 - j)))]))
  have hs1:=(Var.new_self (h:=g) (l:=[uw .u8 ((x % 4294967296) >>> (8 * (3 - j)))])).src (n:=1) (esz:=1) (bytes:=1) (s:=v) (sp:=none) (c:=1) rfl (by decide)
  obtain⟨v',g2,e2,hO2,k2⟩:=hO1.append (bytes:=1) (m:=1) (new:=[uw .u8 ((x % 4294967296) >>> (8 * (3 - j)))]) rfl rfl (by decide) (by decide) (by rw [List.length_append,hlb j hj];omega)
  rw [e2] at hs1
  (repeat (first|refine zS ?_|refine zK ?_|refine zR ?_|refine zD ?_|refine zB ?_|refine zI ?_|refine zJ ?_|refine zP ?_|refine zE ?_|refine zG ?_|refine zF ?_|refine zH (by decide) ?_|refine zQ ?_|((first|refine zC ?_|refine zM ?_|refine zO rfl rfl ?_|refine zN rfl ?_|refine zL ?_);simp only [yq197.down,zA,lemS.down,lemC.down,zex,zew,zeu,reduceIte,zev,zey,zez,ze0,ze1,ze2,ze3,ze4,ze5,reduceCtorEq,zZ,zY,lemH.down,lemW.down,t5,t7,t102,w7,w8,sh,hs1,ww])))
  refine hnext (4 - (j + 1)) _ _ (by omega) ⟨j + 1,v',rfl,by omega,?_,(gk.trans (Keeps.new (W:=fun A=>N≤A)) (fun A _ e=>e)).trans k2 (fun A _ e=>e),Nat.le_trans gN (Nat.le_trans (Nat.le_succ _) k2.next),by simp only [yq197.down,zA,lemS.down,lemC.down,zex,zew,zeu,reduceIte,zev,zey,zez,ze0,ze1,ze2,ze3,ze4,ze5,reduceCtorEq],by simp only [yq197.down,zA,lemS.down,lemC.down,zex,zew,zeu,reduceIte,zev,zey,zez,ze0,ze1,ze2,ze3,ze4,ze5,reduceCtorEq,t7],by simp only [yq197.down,zA,lemS.down,lemC.down,zex,zew,zeu,reduceIte,zev,zey,zez,ze0,ze1,ze2,ze3,ze4,ze5,reduceCtorEq,t98],by simp only [yq197.down,zA,lemS.down,lemC.down,zex,zew,zeu,reduceIte,zev,zey,zez,ze0,ze1,ze2,ze3,ze4,ze5,reduceCtorEq,t99],by simp only [yq197.down,zA,lemS.down,lemC.down,zex,zew,zeu,reduceIte,zev,zey,zez,ze0,ze1,ze2,ze3,ze4,ze5,reduceCtorEq]⟩
  rw [List.take_succ_eq_append_getElem (by rw [hol];exact hj'),← List.append_assoc]
  have:(outW x)[j]'(by rw [hol];exact hj') = UInt8.ofNat ((x % 4294967296) >>> (8 * (3 - j))):=by simp [outW]
  rw [this,zCu (b:=[_]),zCv,List.length_append (bs:=[_])]
  exact hO2.mono fun A hA=>by
   rcases hA with hA|hA
   ·exact hA
   ·have:(g.new [uw .u8 ((x % 4294967296) >>> (8 * (3 - j)))]).next = g.next + 1:=rfl
    show N≤A
    omega
 ·(repeat (first|refine zS ?_|refine zK ?_|refine zR ?_|refine zD ?_|refine zB ?_|refine zI ?_|refine zJ ?_|refine zP ?_|refine zE ?_|refine zG ?_|refine zF ?_|refine zH (by decide) ?_|refine zQ ?_|((first|refine zC ?_|refine zM ?_|refine zO rfl rfl ?_|refine zN rfl ?_|refine zL ?_);simp only [yq197.down,zA,lemS.down,lemC.down,zex,zew,zeu,reduceIte,zev,zey,zez,ze0,ze1,ze2,ze3,ze4,ze5,reduceCtorEq,zZ,zY,lemH.down,lemW.down])))
  obtain rfl:j = 4:=by omega
  rw [List.take_of_length_le (by rw [hol];decide)] at gO
  exact hQ _ _ _ gO gk gN (by simp only [yq197.down,zA,lemS.down,lemC.down,zex,zew,zeu,reduceIte,zev,zey,zez,ze0,ze1,ze2,ze3,ze4,ze5,reduceCtorEq,t5]) (by simp only [yq197.down,zA,lemS.down,lemC.down,zex,zew,zeu,reduceIte,zev,zey,zez,ze0,ze1,ze2,ze3,ze4,ze5,reduceCtorEq,t98]) (by simp only [yq197.down,zA,lemS.down,lemC.down,zex,zew,zeu,reduceIte,zev,zey,zez,ze0,ze1,ze2,ze3,ze4,ze5,reduceCtorEq,t99])
theorem sum4_ok (pr:Prog) (k:List KI) (Q:XE→Fr→Heap→Prop) (h g:Heap) (N:Nat) (hs:List Nat) (h8:hs.length = 8) (hN:N≤g.next) (hk:Keeps (fun A=>N≤A) h g)
  (hQ:∀ t' g' v',Own g' (fun A=>N≤A) 1 v' (outB hs).length (zW (outB hs))→Keeps (fun A=>N≤A) h g'→t'.get 5 = v'→extk pr k 6 Q t' g') (t:Fr)
  (t5:t.get 5 = .slice none 0 0) (t98:t.get 98 = .agg (hs.map (uw .u32)).toArray) (t99:t.get 99 = .int .i64 0) :
  wpk pr (.loop zJQ) k Q t g:=by
 refine zAG (fun m t g=>∃ j v,m = 8 - j∧j≤8∧Own g (fun A=>N≤A) 1 v (outB (hs.take j)).length (zW (outB (hs.take j)))∧Keeps (fun A=>N≤A) h g∧N≤g.next∧t.get 5 = v∧t.get 98 = .agg (hs.map (uw .u32)).toArray∧t.get 99 = .int .i64 (j:Int)) ?_ 8 _ _ ⟨0,_,rfl,by omega,Own.nil,hk,hN,t5,t98,t99⟩
 rintro m t g ⟨j,v,rfl,hj,gO,gk,gN,t5,t98,t99⟩ hnext
 refine zdi ?_
 dsimp only [zJR]
 (repeat (first|refine zS ?_|refine zK ?_|refine zR ?_|refine zD ?_|refine zB ?_|refine zI ?_|refine zJ ?_|refine zP ?_|refine zE ?_|refine zG ?_|refine zF ?_|refine zH (by decide) ?_|refine zQ ?_|((first|refine zC ?_|refine zM ?_|refine zO rfl rfl ?_|refine zN rfl ?_|refine zL ?_);simp only [yq197.down,zA,lemS.down,lemC.down,zex,zew,zeu,reduceIte,zev,zey,zez,ze0,ze1,ze2,ze3,ze4,ze5,reduceCtorEq,zZ,zY,lemH.down,lemW.down,t5,t98,t99])))
 refine ⟨fun hlt=>?_,fun hge=>?_⟩
 ·have hj':j < 8:=by omega
  have ww:IntKind.i64.wrap ((j:Int) + 1) = ((j + 1:Nat):Int):=by rw [wrap_i64 (by omega) (by omega)];omega
  have gi:(hs.map (uw .u32))[j]? = some (uw .u32 (hs.getD j 0)):=zBx (by omega)
  have hroom:(outB (hs.take j)).length + 100≤zU:=by
   rw [zGJ,List.length_take];unfold zU;omega
  (repeat (first|refine zS ?_|refine zK ?_|refine zR ?_|refine zD ?_|refine zB ?_|refine zI ?_|refine zJ ?_|refine zP ?_|refine zE ?_|refine zG ?_|refine zF ?_|refine zH (by decide) ?_|refine zQ ?_|((first|refine zC ?_|refine zM ?_|refine zO rfl rfl ?_|refine zN rfl ?_|refine zL ?_);simp only [yq197.down,zA,lemS.down,lemC.down,zex,zew,zeu,reduceIte,zev,zey,zez,ze0,ze1,ze2,ze3,ze4,ze5,reduceCtorEq,zZ,zY,lemH.down,lemW.down,t5,t98,t99,zbn hj',gi])))
  refine sum4i_ok pr _ _ h g N (hs.getD j 0) v _ (.agg (hs.map (uw .u32)).toArray) (.int .i64 (j:Int)) gN hroom gO gk ?_ _ (by simp only [yq197.down,zA,lemS.down,lemC.down,zex,zew,zeu,reduceIte,zev,zey,zez,ze0,ze1,ze2,ze3,ze4,ze5,reduceCtorEq,t5]) (by simp only [yq197.down,zA,lemS.down,lemC.down,zex,zew,zeu,reduceIte,zev,zey,zez,ze0,ze1,ze2,ze3,ze4,ze5,reduceCtorEq]) (by simp only [yq197.down,zA,lemS.down,lemC.down,zex,zew,zeu,reduceIte,zev,zey,zez,ze0,ze1,ze2,ze3,ze4,ze5,reduceCtorEq,t98]) (by simp only [yq197.down,zA,lemS.down,lemC.down,zex,zew,zeu,reduceIte,zev,zey,zez,ze0,ze1,ze2,ze3,ze4,ze5,reduceCtorEq,t99]) (by simp only [yq197.down,zA,lemS.down,lemC.down,zex,zew,zeu,reduceIte,zev,zey,zez,ze0,ze1,ze2,ze3,ze4,ze5,reduceCtorEq])
  intro t' g' v' o' k' n' q5 q98 q99
  (repeat (first|refine zS ?_|refine zK ?_|refine zR ?_|refine zD ?_|refine zB ?_|refine zI ?_|refine zJ ?_|refine zP ?_|refine zE ?_|refine zG ?_|refine zF ?_|refine zH (by decide) ?_|refine zQ ?_|((first|refine zC ?_|refine zM ?_|refine zO rfl rfl ?_|refine zN rfl ?_|refine zL ?_);simp only [yq197.down,zA,lemS.down,lemC.down,zex,zew,zeu,reduceIte,zev,zey,zez,ze0,ze1,ze2,ze3,ze4,ze5,reduceCtorEq,zZ,zY,lemH.down,lemW.down,q5,q98,q99,ww])))
  refine hnext (8 - (j + 1)) _ _ (by omega) ⟨j + 1,v',rfl,by omega,?_,k',n',by simp only [yq197.down,zA,lemS.down,lemC.down,zex,zew,zeu,reduceIte,zev,zey,zez,ze0,ze1,ze2,ze3,ze4,ze5,reduceCtorEq,q5],by simp only [yq197.down,zA,lemS.down,lemC.down,zex,zew,zeu,reduceIte,zev,zey,zez,ze0,ze1,ze2,ze3,ze4,ze5,reduceCtorEq,q98],by simp only [yq197.down,zA,lemS.down,lemC.down,zex,zew,zeu,reduceIte,zev,zey,zez,ze0,ze1,ze2,ze3,ze4,ze5,reduceCtorEq]⟩
  have:outB (hs.take (j + 1)) = outB (hs.take j) ++ outW (hs.getD j 0):=by
   unfold outB
   rw [List.take_succ_eq_append_getElem (by omega),List.flatMap_append,List.flatMap_cons,List.flatMap_nil,List.append_nil,List.getD_eq_getElem?_getD,List.getElem?_eq_getElem (show j < hs.length by omega)]
   rfl
  rw [this]
  exact o'
 ·(repeat (first|refine zS ?_|refine zK ?_|refine zR ?_|refine zD ?_|refine zB ?_|refine zI ?_|refine zJ ?_|refine zP ?_|refine zE ?_|refine zG ?_|refine zF ?_|refine zH (by decide) ?_|refine zQ ?_|((first|refine zC ?_|refine zM ?_|refine zO rfl rfl ?_|refine zN rfl ?_|refine zL ?_);simp only [yq197.down,zA,lemS.down,lemC.down,zex,zew,zeu,reduceIte,zev,zey,zez,ze0,ze1,ze2,ze3,ze4,ze5,reduceCtorEq,zZ,zY,lemH.down,lemW.down])))
  obtain rfl:j = 8:=by omega
  rw [List.take_of_length_le (by omega)] at gO
  exact hQ _ _ _ gO gk (by simp only [yq197.down,zA,lemS.down,lemC.down,zex,zew,zeu,reduceIte,zev,zey,zez,ze0,ze1,ze2,ze3,ze4,ze5,reduceCtorEq,t5])
theorem zKC (pr:Prog) (hp:pr.prim 247 = some (zf zBX)) (hw:pr.prim 246 = some zCT) (hk:pr.prim 245 = some (zf zCw)) (hb:pr.prim 222 = none) (hc:pr.code 222 = some zD0)
  (hn:pr.prim 197 = none) (hcs:pr.code 197 = some xq197) (h:Heap) (N D n:Nat) (hs:List Nat) (r:List UInt8) (hd:Dig h N D hs r n) (hroom:r.length + 300≤zU) :
  ∃ v h',cfi pr 197 [.pointer (some ⟨D,0,none⟩)] h = some (v,h')∧v = .string (strOf (fin hs r n))∧Grows h h':=by
 refine zAA hn hcs rfl ?_
 unfold xq197
 dsimp only [zh]
 refine wpk.out (k:=[]) ?_
 obtain⟨h8,hND,v,hD,hO⟩:=hd
 have i8:=fun (v:Value) (n:Nat)=>zCx (v:=v) (n:=n) h8
 have i9:=fun (v:Value) (n:Nat)=>zHS (v:=v) (n:=n) h8
 have ldD:∀ sp,h.loadN ⟨D,0,sp⟩ 8 = some (hs.map (uw .u32)):=fun sp=>by
  rw [hD.loadN]
  simp [zAm,zCX h8]
  rw [show Nat.ble 8 10 = true from rfl]
  simp [zu,h8]
 (repeat (first|refine zS ?_|refine zK ?_|refine zR ?_|refine zD ?_|refine zB ?_|refine zI ?_|refine zJ ?_|refine zP ?_|refine zE ?_|refine zG ?_|refine zF ?_|refine zH (by decide) ?_|refine zQ ?_|((first|refine zC ?_|refine zM ?_|refine zO rfl rfl ?_|refine zN rfl ?_|refine zL ?_);simp only [yq197.down,zA,lemS.down,lemC.down,zex,zew,zeu,reduceIte,zev,zey,zez,ze0,ze1,ze2,ze3,ze4,ze5,reduceCtorEq,zZ,zY,lemH.down,lemW.down,zCG,ldD,hD.load,i9,fill_dig h8])))
 have hn1:(h.new (zu hs (.slice none 0 0) n)).next = h.next + 1:=rfl
 have hD1:=hD.new_old (m:=zu hs (.slice none 0 0) n)
 have hO1:=hO.grow (Grows.new (l:=zu hs (.slice none 0 0) n))
 have hd1:Var (h.new (zu hs (.slice none 0 0) n)) h.next (zu hs (.slice none 0 0) n):=Var.new_self
 have hg1:Grows h (h.new (zu hs (.slice none 0 0) n)):=Grows.new
 have ldD1:∀ sp,(h.new (zu hs (.slice none 0 0) n)).loadN ⟨D,0,sp⟩ 8 = some (hs.map (uw .u32)):=fun sp=>by
  rw [hD1.loadN]
  simp [zAm,zCX h8]
  rw [show Nat.ble 8 10 = true from rfl]
  simp [zu,h8]
 refine ⟨⟨?_,?_⟩,?_⟩
 ·(refine zBb rfl rfl rfl ?_ ?_<;>simp only [yq197.down,zA,lemS.down,lemC.down,zex,zew,zeu,reduceIte,zev,zey,zez,ze0,ze1,ze2,ze3,ze4,ze5,reduceCtorEq,ldD,ldD1,zBV,zBQ,zBW,zBR,zBH,Option.isSome_some])
 ·(refine zBb rfl rfl rfl ?_ ?_<;>simp only [yq197.down,zA,lemS.down,lemC.down,zex,zew,zeu,reduceIte,zev,zey,zez,ze0,ze1,ze2,ze3,ze4,ze5,reduceCtorEq,hD.load,hD1.load,i9,zBV,zBQ,zBW,zBR,zBH,Option.isSome_some])
 generalize h.new (zu hs (.slice none 0 0) n) = h1 at *
 have hlt:D < h.next:=hD.1
 clear hD hO ldD ldD1
 obtain⟨va,h2,e2,hO2,k2⟩:=(Own.nil (h:=h1) (S:=zER) (esz:=1)).append (bytes:=1) (m:=r.length) (new:=zW r) (by simp [zCF]) zEt (by decide) (by decide) (by omega)
 have e2':=hO1.src (bytes:=1) (s:=.slice none 0 0)
 rw [e2] at e2'
 (repeat (first|refine zS ?_|refine zK ?_|refine zR ?_|refine zD ?_|refine zB ?_|refine zI ?_|refine zJ ?_|refine zP ?_|refine zE ?_|refine zG ?_|refine zF ?_|refine zH (by decide) ?_|refine zQ ?_|((first|refine zC ?_|refine zM ?_|refine zO rfl rfl ?_|refine zN rfl ?_|refine zL ?_);simp only [yq197.down,zA,lemS.down,lemC.down,zex,zew,zeu,reduceIte,zev,zey,zez,ze0,ze1,ze2,ze3,ze4,ze5,reduceCtorEq,zZ,zY,lemH.down,lemW.down,hd1.load,i8,hD1.load,e2'])))
 have hd2:=hd1.keep k2 id
 have hg2:=hg1.then k2 (fun _ _=>id)
 have hO3:=hO2.grow (Grows.new (l:=[.int .u8 128]))
 have hs3:=(Var.new_self (h:=h2) (l:=[.int .u8 128])).src (n:=1) (esz:=1) (bytes:=1) (s:=va) (sp:=none) (c:=1) rfl (by decide)
 obtain⟨vb,h4,e4,hO4,k4⟩:=hO3.append (bytes:=1) (m:=1) (new:=[.int .u8 128]) rfl rfl (by decide) (by decide) (by omega)
 rw [e4] at hs3
 have hd4:=(hd2.new_old (m:=[.int .u8 128])).keep k4 (fun e=>by rcases e with e|e;exact e.elim;omega)
 have hg4:=(hg2.trans (Grows.new (l:=[.int .u8 128]))).then k4 (fun A hA e=>by rcases e with e|e;exact e.elim;omega)
 have hO4:Own h4 (fun A=>h.next≤A∧A≠h.next) 1 vb (r ++ [128]).length (zW (r ++ [128])):=by
  have e:zW (r ++ [128]) = [] ++ zW r ++ [.int .u8 128]:=by rw [zCu];rfl
  have hn3:(h2.new [.int .u8 128]).next = h2.next + 1:=rfl
  have:=k2.next
  rw [e,List.length_append,← Nat.zero_add r.length]
  refine hO4.mono fun A hA=>?_
  rcases hA with (hA|hA)|hA
  ·exact hA.elim
  ·exact⟨by omega,by omega⟩
  ·exact⟨by omega,by omega⟩
 have st8:=hO4.store (i:=8) hd4 (by rw [zCX h8];decide)
 rw [zE0 h8] at st8
 simp only [yq197.down,zA,lemS.down,lemC.down,zex,zew,zeu,reduceIte,zev,zey,zez,ze0,ze1,ze2,ze3,ze4,ze5,reduceCtorEq,zZ,zY,lemH.down,hs3,st8]
 have hd5:Dig (h4.wr h.next (zu hs vb n)) h.next h.next hs (r ++ [128]) n:=⟨h8,Nat.le_refl _,vb,hd4.wr,hO4.keep Keeps.wr (fun A hA=>hA.2)⟩
 have hk5:Keeps (fun A=>h.next≤A) h (h4.wr h.next (zu hs vb n)):=Keeps.trans hg4.keeps Keeps.wr (fun A _ e=>Nat.le_of_eq e.symm)
 generalize h4.wr h.next (zu hs vb n) = h5 at *
 clear hd1 hg1 hD1 hO1 hd2 hg2 hO2 k2 e2 e2' hO3 hs3 e4 k4 hd4 hg4 hO4 st8
 (repeat (first|refine zS ?_|refine zK ?_|refine zR ?_|refine zD ?_|refine zB ?_|refine zI ?_|refine zJ ?_|refine zP ?_|refine zE ?_|refine zG ?_|refine zF ?_|refine zH (by decide) ?_|refine zQ ?_|((first|refine zC ?_|refine zM ?_|refine zO rfl rfl ?_|refine zN rfl ?_|refine zL ?_);simp only [yq197.down,zA,lemS.down,lemC.down,zex,zew,zeu,reduceIte,zev,zey,zez,ze0,ze1,ze2,ze3,ze4,ze5,reduceCtorEq,zZ,zY,lemH.down])))
 refine sum1_ok pr _ _ h h5 h.next n hs r (by omega) hd5 hk5 ?_ _ (by simp only [yq197.down,zA,lemS.down,lemC.down,zex,zew,zeu,reduceIte,zev,zey,zez,ze0,ze1,ze2,ze3,ze4,ze5,reduceCtorEq])
 intro t g gd gk t3
 (repeat (first|refine zS ?_|refine zK ?_|refine zR ?_|refine zD ?_|refine zB ?_|refine zI ?_|refine zJ ?_|refine zP ?_|refine zE ?_|refine zG ?_|refine zF ?_|refine zH (by decide) ?_|refine zQ ?_|((first|refine zC ?_|refine zM ?_|refine zO rfl rfl ?_|refine zN rfl ?_|refine zL ?_);simp only [yq197.down,zA,lemS.down,lemC.down,zex,zew,zeu,reduceIte,zev,zey,zez,ze0,ze1,ze2,ze3,ze4,ze5,reduceCtorEq,zZ,zY,lemH.down])))
 have hz:zAP r.length < 64:=Nat.mod_lt _ (by decide)
 refine sum2_ok pr _ _ h g h.next n hs _ (by simp;omega) gd gk ?_ _ (by simp only [yq197.down,zA,lemS.down,lemC.down,zex,zew,zeu,reduceIte,zev,zey,zez,ze0,ze1,ze2,ze3,ze4,ze5,reduceCtorEq,t3]) (by simp only [yq197.down,zA,lemS.down,lemC.down,zex,zew,zeu,reduceIte,zev,zey,zez,ze0,ze1,ze2,ze3,ze4,ze5,reduceCtorEq])
 intro t g gd gk t3
 (repeat (first|refine zS ?_|refine zK ?_|refine zR ?_|refine zD ?_|refine zB ?_|refine zI ?_|refine zJ ?_|refine zP ?_|refine zE ?_|refine zG ?_|refine zF ?_|refine zH (by decide) ?_|refine zQ ?_|((first|refine zC ?_|refine zM ?_|refine zO rfl rfl ?_|refine zN rfl ?_|refine zL ?_);simp only [yq197.down,zA,lemS.down,lemC.down,zex,zew,zeu,reduceIte,zev,zey,zez,ze0,ze1,ze2,ze3,ze4,ze5,reduceCtorEq,zZ,zY,lemH.down])))
 refine sum3_ok pr hp hw hk hb hc _ _ h g h.next n hs (padB r n) (zIQ r n) gd gk ?_ _ (by simp only [yq197.down,zA,lemS.down,lemC.down,zex,zew,zeu,reduceIte,zev,zey,zez,ze0,ze1,ze2,ze3,ze4,ze5,reduceCtorEq,t3])
 intro t g gd gk t3
 obtain⟨f8,fN,v,gD,gO⟩:=gd
 have ldE:∀ sp,g.loadN ⟨h.next,0,sp⟩ 8 = some ((absorb ((padB r n).length / 64) hs (padB r n)).map (uw .u32)):=fun sp=>by
  rw [gD.loadN]
  simp [zAm,zCX f8]
  rw [show Nat.ble 8 10 = true from rfl]
  simp [zu,f8]
 (repeat (first|refine zS ?_|refine zK ?_|refine zR ?_|refine zD ?_|refine zB ?_|refine zI ?_|refine zJ ?_|refine zP ?_|refine zE ?_|refine zG ?_|refine zF ?_|refine zH (by decide) ?_|refine zQ ?_|((first|refine zC ?_|refine zM ?_|refine zO rfl rfl ?_|refine zN rfl ?_|refine zL ?_);simp only [yq197.down,zA,lemS.down,lemC.down,zex,zew,zeu,reduceIte,zev,zey,zez,ze0,ze1,ze2,ze3,ze4,ze5,reduceCtorEq,zZ,zY,lemH.down,t3,ldE])))
 refine sum4_ok pr _ _ h g h.next _ f8 (Nat.le_of_lt gD.1) gk ?_ _ (by simp only [yq197.down,zA,lemS.down,lemC.down,zex,zew,zeu,reduceIte,zev,zey,zez,ze0,ze1,ze2,ze3,ze4,ze5,reduceCtorEq]) (by simp only [yq197.down,zA,lemS.down,lemC.down,zex,zew,zeu,reduceIte,zev,zey,zez,ze0,ze1,ze2,ze3,ze4,ze5,reduceCtorEq]) (by simp only [yq197.down,zA,lemS.down,lemC.down,zex,zew,zeu,reduceIte,zev,zey,zez,ze0,ze1,ze2,ze3,ze4,ze5,reduceCtorEq])
 intro t g v' go gk t5
 (repeat (first|refine zS ?_|refine zK ?_|refine zR ?_|refine zD ?_|refine zB ?_|refine zI ?_|refine zJ ?_|refine zP ?_|refine zE ?_|refine zG ?_|refine zF ?_|refine zH (by decide) ?_|refine zQ ?_|((first|refine zC ?_|refine zM ?_|refine zO rfl rfl ?_|refine zN rfl ?_|refine zL ?_);simp only [yq197.down,zA,lemS.down,lemC.down,zex,zew,zeu,reduceIte,zev,zey,zez,ze0,ze1,ze2,ze3,ze4,ze5,reduceCtorEq,zZ,zY,lemH.down,t5,go.cb2s])))
 refine ⟨.inr rfl,_,rfl,?_,gk.grows (fun A hA=>by omega)⟩
 simp only [yq197.down,zA,lemS.down,lemC.down,zex,zew,zeu,reduceIte,zev,zey,zez,ze0,ze1,ze2,ze3,ze4,ze5,reduceCtorEq]
 rfl
end Go.X
end
section
open Go Go.X
namespace Go.X
set_option linter.unusedVariables false
def shaS:List Value→Option Value
 | [.string s]=>if s.data.toList.length + 400≤zU then some (.string (strOf (sha s.data.toList))) else none
 | _=>none
theorem zGZ {s:List UInt8} (h:s.length + 400≤zU):shaS [.string (strOf s)] = some (.string (strOf (sha s))):=by
 simp only [shaS,zBd,if_pos h]
structure zCV (pr:Prog):Prop where
 right:pr.prim 247 = some (zf zBX)
 words:pr.prim 246 = some zCT
 consts:pr.prim 245 = some (zf zCw)
 begin:pr.prim 221 = some (zf zEq)
 blk:pr.prim 222 = none
 blkC:pr.code 222 = some zD0
 new:pr.prim 194 = none
 newC:pr.code 194 = some xq194
 wr:pr.prim 195 = none
 wrC:pr.code 195 = some xq195
 sum:pr.prim 197 = none
 sumC:pr.code 197 = some xq197
theorem zce (pr:Prog) (T:zCV pr) (s:List UInt8) (hs:s.length + 400≤zU) (h:Heap):Comes pr xq179 [.string (strOf s)] h (.string (strOf (sha s))):=by
 apply Comes.of
 unfold xq179
 dsimp only [zh]
 obtain⟨_,h1,e1,rfl,d1,g1⟩:=zJ9 pr T.begin T.new T.newC h
 obtain⟨_,h2,e2,rfl,d2,k2⟩:=zKG pr T.right T.words T.consts T.blk T.blkC T.wr T.wrC h1 _ _ _ _ [] s d1 (by simp;omega)
 rw [List.nil_append] at d2
 obtain⟨_,h3,e3,rfl,g3⟩:=zKC pr T.right T.words T.consts T.blk T.blkC T.sum T.sumC h2 _ _ _ _ _ d2 (by simp;omega)
 rw [Nat.zero_add,zMq] at e3
 (repeat (first|refine zS ?_|refine zK ?_|refine zR ?_|refine zD ?_|refine zB ?_|refine zI ?_|refine zJ ?_|refine zP ?_|refine zE ?_|refine zG ?_|refine zF ?_|refine zH (by decide) ?_|refine zQ ?_|((first|refine zC ?_|refine zM ?_|refine zO rfl rfl ?_|refine zN rfl ?_|refine zL ?_);simp only [yq179.down,zA,lemS.down,lemC.down,zex,zew,zeu,reduceIte,zev,zey,zez,ze0,ze1,ze2,ze3,ze4,ze5,reduceCtorEq,e1,e2,e3])))
 exact⟨.inr rfl,by simp only [yq179.down,zA,lemS.down,lemC.down,zex,zew,zeu,reduceIte,zev,zey,zez,ze0,ze1,ze2,ze3,ze4,ze5,reduceCtorEq],(g1.then k2 (fun A hA=>by omega)).trans g3⟩
end Go.X
end
section
open Go Go.X
namespace Go.X
theorem begin_ok (pr:Prog) (h:Heap):Comes pr xq221 [] h (.agg (Sha.H0.map (uw .u32)).toArray):=by
 apply Comes.of
 unfold xq221
 dsimp only [zh]
 have hV:Var (h.new (List.replicate 8 (.int .u32 0))) h.next (List.replicate 8 (.int .u32 0)):=Var.new_self
 (repeat (first|refine zS ?_|refine zK ?_|refine zR ?_|refine zD ?_|refine zB ?_|refine zI ?_|refine zJ ?_|refine zP ?_|refine zE ?_|refine zG ?_|refine zF ?_|refine zH (by decide) ?_|refine zQ ?_|((first|refine zC ?_|refine zM ?_|refine zO rfl rfl ?_|refine zN rfl ?_|refine zL ?_);simp only [yq221.down,zA,lemS.down,lemC.down,zex,zew,zeu,reduceIte,zev,zey,zez,ze0,ze1,ze2,ze3,ze4,ze5,reduceCtorEq,lemH.down])))
 refine zFa (v:=.agg (Sha.H0.map (uw .u32)).toArray) (by kernel_rfl) ?_
 rw [hV.storeAll (by rfl) (by rfl) (by decide) zB0]
 simp only [zGa]
 (repeat (first|refine zS ?_|refine zK ?_|refine zR ?_|refine zD ?_|refine zB ?_|refine zI ?_|refine zJ ?_|refine zP ?_|refine zE ?_|refine zG ?_|refine zF ?_|refine zH (by decide) ?_|refine zQ ?_|((first|refine zC ?_|refine zM ?_|refine zO rfl rfl ?_|refine zN rfl ?_|refine zL ?_);simp only [yq221.down,zA,lemS.down,lemC.down,zex,zew,zeu,reduceIte,zev,zey,zez,ze0,ze1,ze2,ze3,ze4,ze5,reduceCtorEq,lemH.down])))
 refine ⟨.inr rfl,zIW (a:=⟨h.next,0,none⟩) (by simp only [yq221.down,zA,lemS.down,lemC.down,zex,zew,zeu,reduceIte,zev,zey,zez,ze0,ze1,ze2,ze3,ze4,ze5,reduceCtorEq]) (hV.wr.loadAll rfl),Grows.new.wr (Nat.le_refl _)⟩
theorem zbK (pr:Prog) (h:Heap):Comes pr xq245 [] h (.agg (Sha.K.map (uw .u32)).toArray):=by
 apply Comes.of
 unfold xq245
 dsimp only [zh]
 have hV:Var (h.new (List.replicate 64 (.int .u32 0))) h.next (List.replicate 64 (.int .u32 0)):=Var.new_self
 (repeat (first|refine zS ?_|refine zK ?_|refine zR ?_|refine zD ?_|refine zB ?_|refine zI ?_|refine zJ ?_|refine zP ?_|refine zE ?_|refine zG ?_|refine zF ?_|refine zH (by decide) ?_|refine zQ ?_|((first|refine zC ?_|refine zM ?_|refine zO rfl rfl ?_|refine zN rfl ?_|refine zL ?_);simp only [yq245.down,zA,lemS.down,lemC.down,zex,zew,zeu,reduceIte,zev,zey,zez,ze0,ze1,ze2,ze3,ze4,ze5,reduceCtorEq,lemH.down])))
 refine zFa (v:=.agg (Sha.K.map (uw .u32)).toArray) (by kernel_rfl) ?_
 rw [hV.storeAll (by rfl) (by rfl) (by decide) zB0]
 simp only [zGa]
 (repeat (first|refine zS ?_|refine zK ?_|refine zR ?_|refine zD ?_|refine zB ?_|refine zI ?_|refine zJ ?_|refine zP ?_|refine zE ?_|refine zG ?_|refine zF ?_|refine zH (by decide) ?_|refine zQ ?_|((first|refine zC ?_|refine zM ?_|refine zO rfl rfl ?_|refine zN rfl ?_|refine zL ?_);simp only [yq245.down,zA,lemS.down,lemC.down,zex,zew,zeu,reduceIte,zev,zey,zez,ze0,ze1,ze2,ze3,ze4,ze5,reduceCtorEq,lemH.down])))
 refine ⟨.inr rfl,zIW (a:=⟨h.next,0,none⟩) (by simp only [yq245.down,zA,lemS.down,lemC.down,zex,zew,zeu,reduceIte,zev,zey,zez,ze0,ze1,ze2,ze3,ze4,ze5,reduceCtorEq]) (hV.wr.loadAll rfl),Grows.new.wr (Nat.le_refl _)⟩
end Go.X
end
