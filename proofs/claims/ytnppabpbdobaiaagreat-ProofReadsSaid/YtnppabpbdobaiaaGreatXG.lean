/- The digest of the document comes to the same. -/
import Derived.Test.YtnppabpbdobaiaaGreatXF
set_option linter.unusedSimpArgs false
set_option linter.unusedVariables false
set_option maxHeartbeats 2000000
open Nat renaming reduceLeDiff → zeu, reduceEqDiff → zev, reduceAdd → zew
open Int renaming reduceBEq → zex, reduceLT → zey, reduceLE → zez, reduceGT → ze0, reduceGE → ze1, reduceEq → ze2, reduceAdd → ze3, reduceSub → ze4, reduceMul → ze5
section
open Go Go.X
namespace Go.X
set_option linter.unusedVariables false
def RR (t:Fr) (A B:Nat) (v:Value) (f:Nat):Prop:=t.get 3 = .pointer (some ⟨A,0,none⟩)∧t.get 4 = .pointer (some ⟨B,0,none⟩)∧t.get 5 = v∧t.get 8 = .int .i64 (f:Int)
theorem word4s (b0 b1 b2 b3:Nat) (h0:b0 < 256) (h1:b1 < 256) (h2:b2 < 256) (h3:b3 < 256) :
  (((b0 % 256) <<< 24 ||| (b1 % 256) <<< 16) ||| (b2 % 256) <<< 8) ||| b3 % 256 = ((b0 * 256 + b1) * 256 + b2) * 256 + b3:=by
 rw [Nat.mod_eq_of_lt h0,Nat.mod_eq_of_lt h1,Nat.mod_eq_of_lt h2,Nat.mod_eq_of_lt h3]
 have e1:b0 <<< 24 ||| b1 <<< 16 = (b0 * 256 + b1) <<< 16:=by
  rw [show b0 <<< 24 = (b0 <<< 8) <<< 16 by rw [← Nat.shiftLeft_add],← Nat.shiftLeft_or_distrib,← Nat.shiftLeft_add_eq_or_of_lt (i:=8) (by simpa using h1),Nat.shiftLeft_eq b0]
 have e2:(b0 * 256 + b1) <<< 16 ||| b2 <<< 8 = ((b0 * 256 + b1) * 256 + b2) <<< 8:=by
  rw [show (b0 * 256 + b1) <<< 16 = ((b0 * 256 + b1) <<< 8) <<< 8 by rw [← Nat.shiftLeft_add],← Nat.shiftLeft_or_distrib,← Nat.shiftLeft_add_eq_or_of_lt (i:=8) (by simpa using h2),Nat.shiftLeft_eq (b0 * 256 + b1)]
 rw [e1,e2,← Nat.shiftLeft_add_eq_or_of_lt (i:=8) (by simpa using h3),Nat.shiftLeft_eq]
def zBq (bf:Nat→Nat) (i:Nat):List Value:=if i≤16 then zAu bf i else extW (zAn bf) i
theorem zc5 (bf:Nat→Nat) {i:Nat} (hi:i≤64):(zBq bf i).length = 64:=by
 unfold zBq;split
 ·exact zE4 bf hi
 ·exact zHa (zBr bf) (by omega) hi
theorem zc9 (pr:Prog) (hp:pr.prim 244 = some (zf zCR)) (k:List KI) (Q:XE→Fr→Heap→Prop) (h:Heap) (A B W f nb:Nat) (v:Value) (S:Nat→Prop) (b:List UInt8)
  (hO:Own h S 1 v b.length (zW b)) (hW:Var h W (List.replicate 64 (.int .u32 0))) (hSW:∀ C,S C→C≠W) (hf:f + 64≤b.length) (hroom:b.length≤zU) (t:Fr) (hr:RR t A B v f) (t9:t.get 9 = .pointer (some ⟨W,0,none⟩)) (t10:t.get 10 = .int .i64 0)
  (hQ:∀ t' g,RR t' A B v f→t'.get 9 = .pointer (some ⟨W,0,none⟩)→Var g W ((Sha.ext (winB (b.drop f)) 48).map (uw .u32))→Keeps (fun C=>C = W) h g→extk pr k 6 Q t' g) :
  wpk pr (.loop zJY) k Q t h:=by
 let bf:Nat→Nat:=fun j=>((b.drop f).getD j 0).toNat
 have hbf:bf = fun j=>((b.drop f).getD j 0).toNat:=rfl
 have hb8:∀ j,bf j < 256:=fun j=>((b.drop f).getD j 0).toNat_lt
 have hb0:∀ j,(b.getD (f + j) 0).toNat = bf j:=fun j=>by simp [hbf,List.getD_eq_getElem?_getD,List.getElem?_drop]
 clear_value bf
 have hw:=zBr bf
 refine zAG (fun m t g=>∃ i,m = 64 - i∧i≤64∧Var g W (zBq bf i)∧Keeps (fun C=>C = W) h g∧RR t A B v f∧t.get 9 = .pointer (some ⟨W,0,none⟩)∧t.get 10 = .int .i64 (i:Int)) ?_ 64 _ _ ⟨0,rfl,by omega,hW,Keeps.refl,hr,t9,t10⟩
 rintro m t g ⟨i,rfl,hi,gW,gk,⟨t3,t4,t5,t8⟩,t9,t10⟩ hnext
 refine zd0 ?_
 dsimp only [zJZ]
 have gO:=hO.keep gk hSW
 have ww:IntKind.i64.wrap ((i:Int) + 1) = ((i + 1:Nat):Int):=by rw [wrap_i64 (by omega) (by omega)];omega
 have hst:=fun x (hi:i < 64)=>gW.store1 (i:=i) (v:=uw .u32 x) (sp:=none) (by rw [zc5 bf (by omega)];exact hi) rfl
 (repeat (first|refine zS ?_|refine zK ?_|refine zR ?_|refine zD ?_|refine zB ?_|refine zI ?_|refine zJ ?_|refine zP ?_|refine zE ?_|refine zG ?_|refine zF ?_|refine zH (by decide) ?_|refine zQ ?_|((first|refine zC ?_|refine zM ?_|refine zO rfl rfl ?_|refine zN rfl ?_|refine zL ?_);simp only [yq220.down,zA,lemS.down,lemC.down,zex,zew,zeu,reduceIte,zev,zey,zez,ze0,ze1,ze2,ze3,ze4,ze5,reduceCtorEq,zZ,zY,lemH.down,lemW.down,t3,t4,t5,t8,t9,t10])))
 refine ⟨fun hlt=>?_,fun hge=>?_⟩
 ·(repeat (first|refine zS ?_|refine zK ?_|refine zR ?_|refine zD ?_|refine zB ?_|refine zI ?_|refine zJ ?_|refine zP ?_|refine zE ?_|refine zG ?_|refine zF ?_|refine zH (by decide) ?_|refine zQ ?_|((first|refine zC ?_|refine zM ?_|refine zO rfl rfl ?_|refine zN rfl ?_|refine zL ?_);simp only [yq220.down,zA,lemS.down,lemC.down,zex,zew,zeu,reduceIte,zev,zey,zez,ze0,ze1,ze2,ze3,ze4,ze5,reduceCtorEq,zZ,zY,lemH.down,lemW.down,t3,t4,t5,t8,t9,t10])))
  refine ⟨fun hlt2=>?_,fun hge2=>?_⟩
  ·have hi16:i < 16:=by omega
   have hst':=fun x=>hst x (by omega)
   have hr64:zU = 140737488355328:=rfl
   have w4:IntKind.i64.wrap (4 * (i:Int)) = ((4 * i:Nat):Int):=by rw [wrap_i64 (by omega) (by omega)];omega
   have wf:IntKind.i64.wrap ((f:Int) + ((4 * i:Nat):Int)) = ((f + 4 * i:Nat):Int):=by rw [wrap_i64 (by omega) (by omega)];omega
   have wg:IntKind.i64.wrap (((f + 4 * i:Nat):Int) + 4) = ((f + 4 * i + 4:Nat):Int):=by rw [wrap_i64 (by omega) (by omega)];omega
   obtain⟨v',e1,o1⟩:=gO.both (i:=f + 4 * i) (j:=f + 4 * i + 4) (k:=.i64) (k':=.i64) (by omega) (by omega)
   rw [show f + 4 * i + 4 - (f + 4 * i) = 4 by omega,Nat.mul_one,Nat.mul_one,zFs,zEu] at o1
   have hl4:((b.drop (f + 4 * i)).take 4).length = 4:=by rw [List.length_take,List.length_drop];omega
   have gb:∀ j:Nat,j < 4→(((b.drop (f + 4 * i)).take 4).getD j 0).toNat = bf (4 * i + j):=fun j hj=>by
    rw [← hb0]
    simp only [List.getD_eq_getElem?_getD]
    rw [List.getElem?_take,if_pos (by omega),List.getElem?_drop,Nat.add_assoc]
   have lo:∀ j:Nat,j < 4→∃ B o,zA0 1 v' (.int .i64 (j:Int)) = some (.pointer (some ⟨B,o,none⟩))∧g.load ⟨B,o,none⟩ = some (uw .u8 (bf (4 * i + j))):=fun j hj=>by
    obtain⟨B,o,q1,q2⟩:=o1.addr1 (i:=j) (k:=.i64) hj
    exact⟨B,o,q1,by rw [q2,zFt (by rw [hl4];exact hj),gb j hj]⟩
   obtain⟨B0,o0,a0,l0⟩:=lo 0 (by omega)
   obtain⟨B1,o1',a1,l1⟩:=lo 1 (by omega)
   obtain⟨B2,o2,a2,l2⟩:=lo 2 (by omega)
   obtain⟨B3,o3,a3,l3⟩:=lo 3 (by omega)
   have a0:zA0 1 v' (.int .i64 0) = _:=a0
   have a1:zA0 1 v' (.int .i64 1) = _:=a1
   have a2:zA0 1 v' (.int .i64 2) = _:=a2
   have a3:zA0 1 v' (.int .i64 3) = _:=a3
   (repeat (first|refine zS ?_|refine zK ?_|refine zR ?_|refine zD ?_|refine zB ?_|refine zI ?_|refine zJ ?_|refine zP ?_|refine zE ?_|refine zG ?_|refine zF ?_|refine zH (by decide) ?_|refine zQ ?_|((first|refine zC ?_|refine zM ?_|refine zO rfl rfl ?_|refine zN rfl ?_|refine zL ?_);simp only [yq220.down,zA,lemS.down,lemC.down,zex,zew,zeu,reduceIte,zev,zey,zez,ze0,ze1,ze2,ze3,ze4,ze5,reduceCtorEq,zZ,zY,lemH.down,lemW.down,t3,t4,t5,t8,t9,t10,w4,wf,wg,e1,zAs,a0,a1,a2,a3,l0,l1,l2,l3,zFR (n:=24) (by decide),zFR (n:=16) (by decide),zFR (n:=8) (by decide),zAw (show i < 64 by omega),hst',ww])))
   refine hnext (64 - (i + 1)) _ _ (by omega) ⟨i + 1,rfl,by omega,?_,gk.trans Keeps.wr (fun _ _ e=>e),⟨?_,?_,?_,?_⟩,?_,?_⟩
   ·rw [word4s _ _ _ _ (hb8 _) (hb8 _) (hb8 _) (hb8 _)]
    have e:(zBq bf i).set i (uw .u32 (zDy bf i)) = zBq bf (i + 1):=by
     unfold zBq
     rw [if_pos (by omega),if_pos (by omega)]
     exact zLG bf (by omega)
    rw [← e]
    exact gW.wr
   all_goals simp only [yq220.down,zA,lemS.down,lemC.down,zex,zew,zeu,reduceIte,zev,zey,zez,ze0,ze1,ze2,ze3,ze4,ze5,reduceCtorEq,t3,t4,t5,t8,t9]
  ·have hi16:16≤i:=by omega
   have hst':=fun x=>hst x (by omega)
   have hwc:zBq bf i = extW (zAn bf) i:=by
    unfold zBq;split
    ·obtain rfl:i = 16:=by omega
     exact zLF bf
    ·rfl
   rw [hwc] at gW hst'
   have e15:IntKind.i64.wrap ((i:Int) - 15) = ((i - 15:Nat):Int):=by rw [wrap_i64 (by omega) (by omega)];omega
   have e2:IntKind.i64.wrap ((i:Int) - 2) = ((i - 2:Nat):Int):=by rw [wrap_i64 (by omega) (by omega)];omega
   have e16:IntKind.i64.wrap ((i:Int) - 16) = ((i - 16:Nat):Int):=by rw [wrap_i64 (by omega) (by omega)];omega
   have e7:IntKind.i64.wrap ((i:Int) - 7) = ((i - 7:Nat):Int):=by rw [wrap_i64 (by omega) (by omega)];omega
   have g15:=zC0 hw hi16 (show i - 15 < i by omega)
   have g2:=zC0 hw hi16 (show i - 2 < i by omega)
   have g16:=zC0 hw hi16 (show i - 16 < i by omega)
   have g7:=zC0 hw hi16 (show i - 7 < i by omega)
   (repeat (first|refine zS ?_|refine zK ?_|refine zR ?_|refine zD ?_|refine zB ?_|refine zI ?_|refine zJ ?_|refine zP ?_|refine zE ?_|refine zG ?_|refine zF ?_|refine zH (by decide) ?_|refine zQ ?_|((first|refine zC ?_|refine zM ?_|refine zO rfl rfl ?_|refine zN rfl ?_|refine zL ?_);simp only [yq220.down,zA,lemS.down,lemC.down,zex,zew,zeu,reduceIte,zev,zey,zez,ze0,ze1,ze2,ze3,ze4,ze5,reduceCtorEq,zZ,zY,lemH.down,lemW.down,t3,t4,t5,t8,t9,t10,e15,e2,e16,e7,zAw (show i - 15 < 64 by omega),zAw (show i - 2 < 64 by omega),zAw (show i - 16 < 64 by omega),zAw (show i - 7 < 64 by omega),zAw (show i < 64 by omega),gW.load,g15,g2,g16,g7,zAD hp (zCS (n:=7) (by decide)),zAD hp (zCS (n:=18) (by decide)),zAD hp (zCS (n:=17) (by decide)),zAD hp (zCS (n:=19) (by decide)),zDK (n:=3) (by decide),zDK (n:=10) (by decide),hst',ww])))
   refine hnext (64 - (i + 1)) _ _ (by omega) ⟨i + 1,rfl,by omega,?_,gk.trans Keeps.wr (fun _ _ e=>e),⟨?_,?_,?_,?_⟩,?_,?_⟩
   ·have e:(extW (zAn bf) i).set i (uw .u32 (Sha.nxt (Sha.ext (zAn bf) (i - 16)))) = zBq bf (i + 1):=by
     unfold zBq
     rw [if_neg (by omega)]
     exact zLD hw hi16 (by omega)
    rw [← e]
    have hl:=zE3 hw hi16
    have:uw .u32 (Sha.nxt (Sha.ext (zAn bf) (i - 16))) = uw .u32 ((Sha.ext (zAn bf) (i - 16)).getD (i - 16) 0 + Sha.s0 ((Sha.ext (zAn bf) (i - 16)).getD (i - 15) 0) + (Sha.ext (zAn bf) (i - 16)).getD (i - 7) 0 + Sha.s1 ((Sha.ext (zAn bf) (i - 16)).getD (i - 2) 0)):=by
     unfold Sha.nxt
     rw [hl]
     exact zGn (k:=.u32)
    rw [this]
    exact gW.wr
   all_goals simp only [yq220.down,zA,lemS.down,lemC.down,zex,zew,zeu,reduceIte,zev,zey,zez,ze0,ze1,ze2,ze3,ze4,ze5,reduceCtorEq,t3,t4,t5,t8,t9]
 ·(repeat (first|refine zS ?_|refine zK ?_|refine zR ?_|refine zD ?_|refine zB ?_|refine zI ?_|refine zJ ?_|refine zP ?_|refine zE ?_|refine zG ?_|refine zF ?_|refine zH (by decide) ?_|refine zQ ?_|((first|refine zC ?_|refine zM ?_|refine zO rfl rfl ?_|refine zN rfl ?_|refine zL ?_);simp only [yq220.down,zA,lemS.down,lemC.down,zex,zew,zeu,reduceIte,zev,zey,zez,ze0,ze1,ze2,ze3,ze4,ze5,reduceCtorEq,zZ,zY,lemH.down,lemW.down])))
  obtain rfl:i = 64:=by omega
  refine hQ _ _ ⟨by simp only [yq220.down,zA,lemS.down,lemC.down,zex,zew,zeu,reduceIte,zev,zey,zez,ze0,ze1,ze2,ze3,ze4,ze5,reduceCtorEq,t3],by simp only [yq220.down,zA,lemS.down,lemC.down,zex,zew,zeu,reduceIte,zev,zey,zez,ze0,ze1,ze2,ze3,ze4,ze5,reduceCtorEq,t4],by simp only [yq220.down,zA,lemS.down,lemC.down,zex,zew,zeu,reduceIte,zev,zey,zez,ze0,ze1,ze2,ze3,ze4,ze5,reduceCtorEq,t5],by simp only [yq220.down,zA,lemS.down,lemC.down,zex,zew,zeu,reduceIte,zev,zey,zez,ze0,ze1,ze2,ze3,ze4,ze5,reduceCtorEq,t8]⟩ (by simp only [yq220.down,zA,lemS.down,lemC.down,zex,zew,zeu,reduceIte,zev,zey,zez,ze0,ze1,ze2,ze3,ze4,ze5,reduceCtorEq,t9]) ?_ gk
  have:zBq bf 64 = (Sha.ext (winB (b.drop f)) 48).map (uw .u32):=by
   unfold zBq
   rw [if_neg (by decide)]
   simp [extW,winB,hbf]
  rw [← this];exact gW
end Go.X
end
section
open Go Go.X
namespace Go.X
set_option linter.unusedVariables false
def shf (l:List Nat) (n:Nat):List Nat:=l.take (n + 1) ++ (l.drop n).take (7 - n)
theorem shf_all {l:List Nat} (h:l.length = 8):shf l 7 = l:=by
 obtain⟨a,b,c,d,e,f,g,i,rfl⟩:=len8 h;rfl
theorem zMr {l:List Nat} (h:l.length = 8) {n:Nat} (hn:n≤7):(shf l n).length = 8:=by
 simp only [shf,List.length_append,List.length_take,List.length_drop];omega
theorem shf_get {l:List Nat} (h:l.length = 8) {n:Nat} (hn:n < 7):(shf l (n + 1)).getD n 0 = l.getD n 0:=by
 unfold shf
 simp only [List.getD_eq_getElem?_getD]
 rw [List.getElem?_append_left (by rw [List.length_take];omega),List.getElem?_take,if_pos (by omega)]
theorem shf_set {l:List Nat} (h:l.length = 8) {n:Nat} (hn:n < 7):(shf l (n + 1)).set (n + 1) (l.getD n 0) = shf l n:=by
 obtain⟨a,b,c,d,e,f,g,i,rfl⟩:=len8 h
 match n,hn with
 | 0,_=>rfl
 | 1,_=>rfl
 | 2,_=>rfl
 | 3,_=>rfl
 | 4,_=>rfl
 | 5,_=>rfl
 | 6,_=>rfl
theorem zcf (pr:Prog) (k:List KI) (Q:XE→Fr→Heap→Prop) (h:Heap) (A B W V f i:Nat) (v r17 r19:Value) (l:List Nat) (h8:l.length = 8)
  (hV:Var h V (l.map (uw .u32))) (t:Fr) (hr:RR t A B v f) (t9:t.get 9 = .pointer (some ⟨W,0,none⟩)) (t14:t.get 14 = .pointer (some ⟨V,0,none⟩)) (t15:t.get 15 = .int .i64 (i:Int)) (t17:t.get 17 = r17) (t19:t.get 19 = r19) (t20:t.get 20 = .int .i64 7)
  (hQ:∀ t' g,RR t' A B v f→t'.get 9 = .pointer (some ⟨W,0,none⟩)→t'.get 14 = .pointer (some ⟨V,0,none⟩)→t'.get 15 = .int .i64 (i:Int)→t'.get 17 = r17→t'.get 19 = r19→Var g V ((shf l 0).map (uw .u32))→Keeps (fun C=>C = V) h g→extk pr k 10 Q t' g) :
  wpk pr (.loop zJa) k Q t h:=by
 refine zAG (fun m t g=>∃ n,m = n∧n≤7∧Var g V ((shf l n).map (uw .u32))∧Keeps (fun C=>C = V) h g∧RR t A B v f∧t.get 9 = .pointer (some ⟨W,0,none⟩)∧t.get 14 = .pointer (some ⟨V,0,none⟩)∧t.get 15 = .int .i64 (i:Int)∧t.get 17 = r17∧t.get 19 = r19∧t.get 20 = .int .i64 (n:Int)) ?_ 7 _ _ ⟨7,rfl,by omega,by rw [shf_all h8];exact hV,Keeps.refl,hr,t9,t14,t15,t17,t19,t20⟩
 rintro m t g ⟨n,rfl,hn,gV,gk,⟨t3,t4,t5,t8⟩,t9,t14,t15,t17,t19,t20⟩ hnext
 refine zeC ?_
 dsimp only [zJb]
 (repeat (first|refine zS ?_|refine zK ?_|refine zR ?_|refine zD ?_|refine zB ?_|refine zI ?_|refine zJ ?_|refine zP ?_|refine zE ?_|refine zG ?_|refine zF ?_|refine zH (by decide) ?_|refine zQ ?_|((first|refine zC ?_|refine zM ?_|refine zO rfl rfl ?_|refine zN rfl ?_|refine zL ?_);simp only [yq220.down,zA,lemS.down,lemC.down,zex,zew,zeu,reduceIte,zev,zey,zez,ze0,ze1,ze2,ze3,ze4,ze5,reduceCtorEq,zZ,zY,lemH.down,lemW.down,t3,t4,t5,t8,t9,t14,t15,t17,t19,t20])))
 refine ⟨fun hlt=>?_,fun hge=>?_⟩
 ·obtain⟨q,rfl⟩:∃ q,m = q + 1:=⟨m - 1,by omega⟩
  have w1:IntKind.i64.wrap (((q + 1:Nat):Int) - 1) = (q:Int):=by rw [wrap_i64 (by omega) (by omega)];omega
  have gq:((shf l (q + 1)).map (uw .u32))[q]? = some (uw .u32 (l.getD q 0)):=by
   rw [zBx (by rw [zMr h8 (by omega)];omega),shf_get h8 (by omega)]
  have hst:=gV.store1 (i:=q + 1) (v:=uw .u32 (l.getD q 0)) (sp:=none) (by rw [List.length_map,zMr h8 (by omega)];omega) rfl
  (repeat (first|refine zS ?_|refine zK ?_|refine zR ?_|refine zD ?_|refine zB ?_|refine zI ?_|refine zJ ?_|refine zP ?_|refine zE ?_|refine zG ?_|refine zF ?_|refine zH (by decide) ?_|refine zQ ?_|((first|refine zC ?_|refine zM ?_|refine zO rfl rfl ?_|refine zN rfl ?_|refine zL ?_);simp only [yq220.down,zA,lemS.down,lemC.down,zex,zew,zeu,reduceIte,zev,zey,zez,ze0,ze1,ze2,ze3,ze4,ze5,reduceCtorEq,zZ,zY,lemH.down,lemW.down,t3,t4,t5,t8,t9,t14,t15,t17,t19,t20,w1,zAw (show q < 8 by omega),zAw (show q + 1 < 8 by omega),gV.load,gq,hst])))
  refine hnext q _ _ (by omega) ⟨q,rfl,by omega,?_,gk.trans Keeps.wr (fun _ _ e=>e),⟨?_,?_,?_,?_⟩,?_,?_,?_,?_,?_,?_⟩
  ·have e:=shf_set h8 (n:=q) (by omega)
   rw [← List.map_set,e]
   exact gV.wr
  all_goals simp only [yq220.down,zA,lemS.down,lemC.down,zex,zew,zeu,reduceIte,zev,zey,zez,ze0,ze1,ze2,ze3,ze4,ze5,reduceCtorEq,t3,t4,t5,t8,t9,t14,t15,t17,t19]
 ·(repeat (first|refine zS ?_|refine zK ?_|refine zR ?_|refine zD ?_|refine zB ?_|refine zI ?_|refine zJ ?_|refine zP ?_|refine zE ?_|refine zG ?_|refine zF ?_|refine zH (by decide) ?_|refine zQ ?_|((first|refine zC ?_|refine zM ?_|refine zO rfl rfl ?_|refine zN rfl ?_|refine zL ?_);simp only [yq220.down,zA,lemS.down,lemC.down,zex,zew,zeu,reduceIte,zev,zey,zez,ze0,ze1,ze2,ze3,ze4,ze5,reduceCtorEq,zZ,zY,lemH.down,lemW.down])))
  obtain rfl:m = 0:=by omega
  exact hQ _ _ ⟨by simp only [yq220.down,zA,lemS.down,lemC.down,zex,zew,zeu,reduceIte,zev,zey,zez,ze0,ze1,ze2,ze3,ze4,ze5,reduceCtorEq,t3],by simp only [yq220.down,zA,lemS.down,lemC.down,zex,zew,zeu,reduceIte,zev,zey,zez,ze0,ze1,ze2,ze3,ze4,ze5,reduceCtorEq,t4],by simp only [yq220.down,zA,lemS.down,lemC.down,zex,zew,zeu,reduceIte,zev,zey,zez,ze0,ze1,ze2,ze3,ze4,ze5,reduceCtorEq,t5],by simp only [yq220.down,zA,lemS.down,lemC.down,zex,zew,zeu,reduceIte,zev,zey,zez,ze0,ze1,ze2,ze3,ze4,ze5,reduceCtorEq,t8]⟩ (by simp only [yq220.down,zA,lemS.down,lemC.down,zex,zew,zeu,reduceIte,zev,zey,zez,ze0,ze1,ze2,ze3,ze4,ze5,reduceCtorEq,t9]) (by simp only [yq220.down,zA,lemS.down,lemC.down,zex,zew,zeu,reduceIte,zev,zey,zez,ze0,ze1,ze2,ze3,ze4,ze5,reduceCtorEq,t14]) (by simp only [yq220.down,zA,lemS.down,lemC.down,zex,zew,zeu,reduceIte,zev,zey,zez,ze0,ze1,ze2,ze3,ze4,ze5,reduceCtorEq,t15]) (by simp only [yq220.down,zA,lemS.down,lemC.down,zex,zew,zeu,reduceIte,zev,zey,zez,ze0,ze1,ze2,ze3,ze4,ze5,reduceCtorEq,t17]) (by simp only [yq220.down,zA,lemS.down,lemC.down,zex,zew,zeu,reduceIte,zev,zey,zez,ze0,ze1,ze2,ze3,ze4,ze5,reduceCtorEq,t19]) gV gk
theorem zcR (pr:Prog) (hp:pr.prim 244 = some (zf zCR)) (k:List KI) (Q:XE→Fr→Heap→Prop) (h:Heap) (A B W V f:Nat) (v:Value) (w l:List Nat) (hw:w.length = 64) (h8:l.length = 8)
  (hK:Var h A (Sha.K.map (uw .u32))) (hW:Var h W (w.map (uw .u32))) (hV:Var h V (l.map (uw .u32))) (hAV:A≠V) (hWV:W≠V) (t:Fr) (hr:RR t A B v f) (t9:t.get 9 = .pointer (some ⟨W,0,none⟩)) (t14:t.get 14 = .pointer (some ⟨V,0,none⟩)) (t15:t.get 15 = .int .i64 0)
  (hQ:∀ t' g,RR t' A B v f→t'.get 14 = .pointer (some ⟨V,0,none⟩)→Var g V ((rnds w l 64).map (uw .u32))→Keeps (fun C=>C = V) h g→extk pr k 8 Q t' g) :
  wpk pr (.loop zJc) k Q t h:=by
 refine zAG (fun m t g=>∃ i,m = 64 - i∧i≤64∧Var g V ((rnds w l i).map (uw .u32))∧Keeps (fun C=>C = V) h g∧RR t A B v f∧t.get 9 = .pointer (some ⟨W,0,none⟩)∧t.get 14 = .pointer (some ⟨V,0,none⟩)∧t.get 15 = .int .i64 (i:Int)) ?_ 64 _ _ ⟨0,rfl,by omega,hV,Keeps.refl,hr,t9,t14,t15⟩
 rintro m t g ⟨i,rfl,hi,gV,gk,⟨t3,t4,t5,t8⟩,t9,t14,t15⟩ hnext
 refine zeG ?_
 dsimp only [zJd]
 (repeat (first|refine zS ?_|refine zK ?_|refine zR ?_|refine zD ?_|refine zB ?_|refine zI ?_|refine zJ ?_|refine zP ?_|refine zE ?_|refine zG ?_|refine zF ?_|refine zH (by decide) ?_|refine zQ ?_|((first|refine zC ?_|refine zM ?_|refine zO rfl rfl ?_|refine zN rfl ?_|refine zL ?_);simp only [yq220.down,zA,lemS.down,lemC.down,zex,zew,zeu,reduceIte,zev,zey,zez,ze0,ze1,ze2,ze3,ze4,ze5,reduceCtorEq,zZ,zY,lemH.down,lemW.down,t3,t4,t5,t8,t9,t14,t15])))
 refine ⟨fun hlt=>?_,fun hge=>?_⟩
 ·have hlt':i < 64:=by omega
  have ww:IntKind.i64.wrap ((i:Int) + 1) = ((i + 1:Nat):Int):=by rw [wrap_i64 (by omega) (by omega)];omega
  obtain⟨a,b,c,d,e,f',g',j,hst⟩:=len8 (zEW hw h8 i hi)
  have hsucc:=zIY (v:=l) hw hlt'
  rw [hst] at hsucc gV
  have gK:=hK.keep gk hAV
  have gW:=hW.keep gk hWV
  have eK:=zBx (l:=Sha.K) (i:=i) (show i < 64 from hlt')
  have eW:=zBx (l:=w) (i:=i) (by omega)
  simp only [List.map_cons,List.map_nil] at gV
  (repeat (first|refine zS ?_|refine zK ?_|refine zR ?_|refine zD ?_|refine zB ?_|refine zI ?_|refine zJ ?_|refine zP ?_|refine zE ?_|refine zG ?_|refine zF ?_|refine zH (by decide) ?_|refine zQ ?_|((first|refine zC ?_|refine zM ?_|refine zO rfl rfl ?_|refine zN rfl ?_|refine zL ?_);simp only [yq220.down,zA,lemS.down,lemC.down,zex,zew,zeu,reduceIte,zev,zey,zez,ze0,ze1,ze2,ze3,ze4,ze5,reduceCtorEq,zZ,zY,lemH.down,lemW.down,t3,t4,t5,t8,t9,t14,t15,zAv (n:=8) (i:=0) (by decide),zAv (n:=8) (i:=1) (by decide),zAv (n:=8) (i:=2) (by decide),zAv (n:=8) (i:=3) (by decide),zAv (n:=8) (i:=4) (by decide),zAv (n:=8) (i:=5) (by decide),zAv (n:=8) (i:=6) (by decide),zAv (n:=8) (i:=7) (by decide),zAw hlt',gV.load,gK.load,gW.load,eK,eW,List.getElem?_cons_succ,List.getElem?_cons_zero,zAD hp (zCS (n:=6) (by decide)),zAD hp (zCS (n:=11) (by decide)),zAD hp (zCS (n:=25) (by decide)),zAD hp (zCS (n:=2) (by decide)),zAD hp (zCS (n:=13) (by decide)),zAD hp (zCS (n:=22) (by decide))])))
  refine zcf pr _ _ g A B W V f i v _ _ [a,b,c,d,e,f',g',j] rfl gV _ ⟨by simp only [yq220.down,zA,lemS.down,lemC.down,zex,zew,zeu,reduceIte,zev,zey,zez,ze0,ze1,ze2,ze3,ze4,ze5,reduceCtorEq,t3],by simp only [yq220.down,zA,lemS.down,lemC.down,zex,zew,zeu,reduceIte,zev,zey,zez,ze0,ze1,ze2,ze3,ze4,ze5,reduceCtorEq,t4],by simp only [yq220.down,zA,lemS.down,lemC.down,zex,zew,zeu,reduceIte,zev,zey,zez,ze0,ze1,ze2,ze3,ze4,ze5,reduceCtorEq,t5],by simp only [yq220.down,zA,lemS.down,lemC.down,zex,zew,zeu,reduceIte,zev,zey,zez,ze0,ze1,ze2,ze3,ze4,ze5,reduceCtorEq,t8]⟩ (by simp only [yq220.down,zA,lemS.down,lemC.down,zex,zew,zeu,reduceIte,zev,zey,zez,ze0,ze1,ze2,ze3,ze4,ze5,reduceCtorEq,t9]) (by simp only [yq220.down,zA,lemS.down,lemC.down,zex,zew,zeu,reduceIte,zev,zey,zez,ze0,ze1,ze2,ze3,ze4,ze5,reduceCtorEq,t14]) (by simp only [yq220.down,zA,lemS.down,lemC.down,zex,zew,zeu,reduceIte,zev,zey,zez,ze0,ze1,ze2,ze3,ze4,ze5,reduceCtorEq,t15]) (by (simp only [yq220.down,zA,lemS.down,lemC.down,zex,zew,zeu,reduceIte,zev,zey,zez,ze0,ze1,ze2,ze3,ze4,ze5,reduceCtorEq])<;>rfl) (by (simp only [yq220.down,zA,lemS.down,lemC.down,zex,zew,zeu,reduceIte,zev,zey,zez,ze0,ze1,ze2,ze3,ze4,ze5,reduceCtorEq])<;>rfl) (by simp only [yq220.down,zA,lemS.down,lemC.down,zex,zew,zeu,reduceIte,zev,zey,zez,ze0,ze1,ze2,ze3,ze4,ze5,reduceCtorEq]) ?_
  rintro t g2 ⟨t3,t4,t5,t8⟩ t9 t14 t15 t17 t19 gV2 gk2
  have gV2:Var g2 V [uw .u32 a,uw .u32 a,uw .u32 b,uw .u32 c,uw .u32 d,uw .u32 e,uw .u32 f',uw .u32 g']:=gV2
  have st4:=fun x=>gV2.store1 (i:=4) (v:=uw .u32 x) (sp:=none) (by simp) rfl
  have gV3:=fun x=>gV2.wr (m:=[uw .u32 a,uw .u32 a,uw .u32 b,uw .u32 c,uw .u32 x,uw .u32 e,uw .u32 f',uw .u32 g'])
  have st0:=fun x y=>(gV3 x).store1 (i:=0) (v:=uw .u32 y) (sp:=none) (by simp) rfl
  (repeat (first|refine zS ?_|refine zK ?_|refine zR ?_|refine zD ?_|refine zB ?_|refine zI ?_|refine zJ ?_|refine zP ?_|refine zE ?_|refine zG ?_|refine zF ?_|refine zH (by decide) ?_|refine zQ ?_|((first|refine zC ?_|refine zM ?_|refine zO rfl rfl ?_|refine zN rfl ?_|refine zL ?_);simp only [yq220.down,zA,lemS.down,lemC.down,zex,zew,zeu,reduceIte,zev,zey,zez,ze0,ze1,ze2,ze3,ze4,ze5,reduceCtorEq,zZ,zY,lemH.down,lemW.down,t3,t4,t5,t8,t9,t14,t15,t17,t19,zAv (n:=8) (i:=0) (by decide),zAv (n:=8) (i:=4) (by decide),gV2.load,List.getElem?_cons_succ,List.getElem?_cons_zero,List.set_cons_zero,List.set_cons_succ,st4,st0,ww])))
  refine hnext (64 - (i + 1)) _ _ (by omega) ⟨i + 1,rfl,by omega,?_,(((gk.trans gk2 (fun _ _ e=>e)).trans Keeps.wr (fun _ _ e=>e)).trans Keeps.wr (fun _ _ e=>e)),⟨?_,?_,?_,?_⟩,?_,?_,?_⟩
  ·rw [hsucc]
   simp only [Sha.round,List.map_cons,List.map_nil]
   have c1:uw .u32 ((j + Sha.e1 e + Sha.ch e f' g' + Sha.K.getD i 0 + w.getD i 0) + (Sha.e0 a + Sha.maj a b c)) = uw .u32 (((j + Sha.e1 e + Sha.ch e f' g' + Sha.K.getD i 0 + w.getD i 0) % 4294967296 + Sha.e0 a + Sha.maj a b c) % 4294967296):=zDw (by simp only [zB5];omega)
   have c2:uw .u32 (d + (j + Sha.e1 e + Sha.ch e f' g' + Sha.K.getD i 0 + w.getD i 0)) = uw .u32 ((d + (j + Sha.e1 e + Sha.ch e f' g' + Sha.K.getD i 0 + w.getD i 0) % 4294967296) % 4294967296):=zDw (by simp only [zB5];omega)
   rw [← c1,← c2]
   exact (gV3 _).wr
  all_goals simp only [yq220.down,zA,lemS.down,lemC.down,zex,zew,zeu,reduceIte,zev,zey,zez,ze0,ze1,ze2,ze3,ze4,ze5,reduceCtorEq,t3,t4,t5,t8,t9,t14]
 ·(repeat (first|refine zS ?_|refine zK ?_|refine zR ?_|refine zD ?_|refine zB ?_|refine zI ?_|refine zJ ?_|refine zP ?_|refine zE ?_|refine zG ?_|refine zF ?_|refine zH (by decide) ?_|refine zQ ?_|((first|refine zC ?_|refine zM ?_|refine zO rfl rfl ?_|refine zN rfl ?_|refine zL ?_);simp only [yq220.down,zA,lemS.down,lemC.down,zex,zew,zeu,reduceIte,zev,zey,zez,ze0,ze1,ze2,ze3,ze4,ze5,reduceCtorEq,zZ,zY,lemH.down,lemW.down])))
  obtain rfl:i = 64:=by omega
  exact hQ _ _ ⟨by simp only [yq220.down,zA,lemS.down,lemC.down,zex,zew,zeu,reduceIte,zev,zey,zez,ze0,ze1,ze2,ze3,ze4,ze5,reduceCtorEq,t3],by simp only [yq220.down,zA,lemS.down,lemC.down,zex,zew,zeu,reduceIte,zev,zey,zez,ze0,ze1,ze2,ze3,ze4,ze5,reduceCtorEq,t4],by simp only [yq220.down,zA,lemS.down,lemC.down,zex,zew,zeu,reduceIte,zev,zey,zez,ze0,ze1,ze2,ze3,ze4,ze5,reduceCtorEq,t5],by simp only [yq220.down,zA,lemS.down,lemC.down,zex,zew,zeu,reduceIte,zev,zey,zez,ze0,ze1,ze2,ze3,ze4,ze5,reduceCtorEq,t8]⟩ (by simp only [yq220.down,zA,lemS.down,lemC.down,zex,zew,zeu,reduceIte,zev,zey,zez,ze0,ze1,ze2,ze3,ze4,ze5,reduceCtorEq,t14]) gV gk
end Go.X
end
section
open Go Go.X
namespace Go.X
set_option linter.unusedVariables false
theorem zcJ (pr:Prog) (k:List KI) (Q:XE→Fr→Heap→Prop) (h:Heap) (A B V f:Nat) (v:Value) (hs vs:List Nat) (h1:hs.length = 8) (h2:vs.length = 8)
  (hD:Var h B (hs.map (uw .u32))) (hV:Var h V (vs.map (uw .u32))) (hne:V≠B) (t:Fr) (hr:RR t A B v f) (t14:t.get 14 = .pointer (some ⟨V,0,none⟩)) (t21:t.get 21 = .int .i64 0)
  (hQ:∀ t' g,RR t' A B v f→Var g B ((Sha.addAll hs vs).map (uw .u32))→Keeps (fun C=>C = B) h g→extk pr k 12 Q t' g) :
  wpk pr (.loop zJe) k Q t h:=by
 refine zAG (fun m t g=>∃ i,m = 8 - i∧i≤8∧Var g B ((addP hs vs i).map (uw .u32))∧Var g V (vs.map (uw .u32))∧Keeps (fun A=>A = B) h g∧RR t A B v f∧t.get 14 = .pointer (some ⟨V,0,none⟩)∧t.get 21 = .int .i64 (i:Int)) ?_ 8 t _ ⟨0,rfl,by omega,hD,hV,Keeps.refl,hr,t14,t21⟩
 rintro m t g ⟨i,rfl,hi,gD,gV,gk,⟨t3,t4,t5,t8⟩,t14,t21⟩ hnext
 refine zeL ?_
 dsimp only [zJf]
 (repeat (first|refine zS ?_|refine zK ?_|refine zR ?_|refine zD ?_|refine zB ?_|refine zI ?_|refine zJ ?_|refine zP ?_|refine zE ?_|refine zG ?_|refine zF ?_|refine zH (by decide) ?_|refine zQ ?_|((first|refine zC ?_|refine zM ?_|refine zO rfl rfl ?_|refine zN rfl ?_|refine zL ?_);simp only [yq220.down,zA,lemS.down,lemC.down,zex,zew,zeu,reduceIte,zev,zey,zez,ze0,ze1,ze2,ze3,ze4,ze5,reduceCtorEq,zZ,zY,lemH.down,lemW.down,t3,t4,t5,t8,t14,t21])))
 refine ⟨fun hlt=>?_,fun hge=>?_⟩
 ·have hlt':i < 8:=by omega
  have e1:IntKind.i64.wrap ((i:Int) + 1) = ((i + 1:Nat):Int):=by rw [wrap_i64 (by omega) (by omega)];omega
  have hL:=zKN (vs:=vs) (show i≤hs.length by omega)
  have gDi:((addP hs vs i).map (uw .u32))[i]? = some (uw .u32 (hs.getD i 0)):=by
   rw [zBx (by omega),zKM (by omega)]
  have gVi:(vs.map (uw .u32))[i]? = some (uw .u32 (vs.getD i 0)):=zBx (by omega)
  have hst:=fun x=>gD.store1 (i:=i) (v:=uw .u32 x) (sp:=none) (by simp [hL];omega) rfl
  (repeat (first|refine zS ?_|refine zK ?_|refine zR ?_|refine zD ?_|refine zB ?_|refine zI ?_|refine zJ ?_|refine zP ?_|refine zE ?_|refine zG ?_|refine zF ?_|refine zH (by decide) ?_|refine zQ ?_|((first|refine zC ?_|refine zM ?_|refine zO rfl rfl ?_|refine zN rfl ?_|refine zL ?_);simp only [yq220.down,zA,lemS.down,lemC.down,zex,zew,zeu,reduceIte,zev,zey,zez,ze0,ze1,ze2,ze3,ze4,ze5,reduceCtorEq,zZ,zY,lemH.down,lemW.down,t3,t4,t5,t8,t14,t21,e1,zAw hlt',gD.load,gV.load,gDi,gVi,hst])))
  refine hnext (8 - (i + 1)) _ _ (by omega) ⟨i + 1,rfl,by omega,?_,gV.wr_ne hne,gk.trans Keeps.wr (fun A _ e=>e),⟨?_,?_,?_,?_⟩,?_,?_⟩
  ·have:((addP hs vs i).map (uw .u32)).set i (uw .u32 (hs.getD i 0 + vs.getD i 0)) = (addP hs vs (i + 1)).map (uw .u32):=by
    rw [← zKO (by omega),List.map_set]
    congr 1
    exact (zGn (k:=.u32)).symm
   rw [this]
   exact gD.wr
  all_goals simp only [yq220.down,zA,lemS.down,lemC.down,zex,zew,zeu,reduceIte,zev,zey,zez,ze0,ze1,ze2,ze3,ze4,ze5,reduceCtorEq,t3,t4,t5,t8,t14]
 ·(repeat (first|refine zS ?_|refine zK ?_|refine zR ?_|refine zD ?_|refine zB ?_|refine zI ?_|refine zJ ?_|refine zP ?_|refine zE ?_|refine zG ?_|refine zF ?_|refine zH (by decide) ?_|refine zQ ?_|((first|refine zC ?_|refine zM ?_|refine zO rfl rfl ?_|refine zN rfl ?_|refine zL ?_);simp only [yq220.down,zA,lemS.down,lemC.down,zex,zew,zeu,reduceIte,zev,zey,zez,ze0,ze1,ze2,ze3,ze4,ze5,reduceCtorEq,zZ,zY,lemH.down,lemW.down])))
  obtain rfl:i = 8:=by omega
  rw [zKL h1 h2] at gD
  exact hQ _ _ ⟨by simp only [yq220.down,zA,lemS.down,lemC.down,zex,zew,zeu,reduceIte,zev,zey,zez,ze0,ze1,ze2,ze3,ze4,ze5,reduceCtorEq,t3],by simp only [yq220.down,zA,lemS.down,lemC.down,zex,zew,zeu,reduceIte,zev,zey,zez,ze0,ze1,ze2,ze3,ze4,ze5,reduceCtorEq,t4],by simp only [yq220.down,zA,lemS.down,lemC.down,zex,zew,zeu,reduceIte,zev,zey,zez,ze0,ze1,ze2,ze3,ze4,ze5,reduceCtorEq,t5],by simp only [yq220.down,zA,lemS.down,lemC.down,zex,zew,zeu,reduceIte,zev,zey,zez,ze0,ze1,ze2,ze3,ze4,ze5,reduceCtorEq,t8]⟩ gD gk
theorem zG8 {hs:List Nat} {w:List UInt8}:Sha.block hs (winB w) = Sha.addAll hs (Sha.rounds Sha.K (Sha.ext (winB w) 48) hs):=by
 unfold Sha.block
 rw [show Sha.sched 64 (winB w) = Sha.ext (winB w) 48 from Sha.sched_ext 48 _ (zBr _)]
theorem zcF (pr:Prog) (hp:pr.prim 244 = some (zf zCR)) (k:List KI) (Q:XE→Fr→Heap→Prop) (h:Heap) (A B:Nat) (v:Value) (S:Nat→Prop) (b:List UInt8) (hs:List Nat) (h8:hs.length = 8) (hb64:b.length = 64 * (b.length / 64)) (hroom:b.length≤zU)
  (hO:Own h S 1 v b.length (zW b)) (hK:Var h A (Sha.K.map (uw .u32))) (hH:Var h B (hs.map (uw .u32))) (hAB:A≠B) (hSB:∀ C,S C→C≠B) (t:Fr) (hr:RR t A B v 0)
  (hQ:∀ t' g,t'.get 4 = .pointer (some ⟨B,0,none⟩)→Var g B ((absorb (b.length / 64) hs b).map (uw .u32))→Keeps (fun C=>C = B) h g→extk pr k 4 Q t' g) :
  wpk pr (.loop zJg) k Q t h:=by
 have hO:=hO.bound
 have hBlt:B < h.next:=hH.1
 have hAlt:A < h.next:=hK.1
 have hr64:zU = 140737488355328:=rfl
 refine zAG (fun m t g=>∃ i,m = b.length - 64 * i∧64 * i≤b.length∧Var g B ((absorb i hs b).map (uw .u32))∧Keeps (fun C=>C = B) h g∧RR t A B v (64 * i)) ?_ b.length _ _ ⟨0,rfl,by omega,hH,Keeps.refl,hr⟩
 rintro m t g ⟨i,rfl,hi,gH,gk,⟨t3,t4,t5,t8⟩⟩ hnext
 refine zeN ?_
 dsimp only [zJh]
 have gO:=hO.keep gk (fun C hC=>hSB C hC.1)
 have gK:=hK.keep gk hAB
 have g8:(absorb i hs b).length = 8:=zD5 _ h8
 have hnx:=gk.next
 (repeat (first|refine zS ?_|refine zK ?_|refine zR ?_|refine zD ?_|refine zB ?_|refine zI ?_|refine zJ ?_|refine zP ?_|refine zE ?_|refine zG ?_|refine zF ?_|refine zH (by decide) ?_|refine zQ ?_|((first|refine zC ?_|refine zM ?_|refine zO rfl rfl ?_|refine zN rfl ?_|refine zL ?_);simp only [yq220.down,zA,lemS.down,lemC.down,zex,zew,zeu,reduceIte,zev,zey,zez,ze0,ze1,ze2,ze3,ze4,ze5,reduceCtorEq,zZ,zY,lemH.down,lemW.down,t3,t4,t5,t8,gO.lenV])))
 refine ⟨fun hlt=>?_,fun hge=>?_⟩
 ·have w64:IntKind.i64.wrap (((64 * i:Nat):Int) + 64) = ((64 * (i + 1):Nat):Int):=by rw [wrap_i64 (by omega) (by omega)];omega
  have hZ:aggV (zAB (List.replicate 64 (.int .u32 0)) []) = some (.agg (List.replicate 64 (Value.int .u32 0)).toArray):=rfl
  have hW1:Var (g.new (List.replicate 64 (.int .u32 0))) g.next (List.replicate 64 (.int .u32 0)):=Var.new_self
  have stW:=hW1.storeAll (n:=64) (vs:=List.replicate 64 (.int .u32 0)) (by rfl) (by rfl) (by decide) (by rfl)
  (repeat (first|refine zS ?_|refine zK ?_|refine zR ?_|refine zD ?_|refine zB ?_|refine zI ?_|refine zJ ?_|refine zP ?_|refine zE ?_|refine zG ?_|refine zF ?_|refine zH (by decide) ?_|refine zQ ?_|((first|refine zC ?_|refine zM ?_|refine zO rfl rfl ?_|refine zN rfl ?_|refine zL ?_);simp only [yq220.down,zA,lemS.down,lemC.down,zex,zew,zeu,reduceIte,zev,zey,zez,ze0,ze1,ze2,ze3,ze4,ze5,reduceCtorEq,zZ,zY,lemH.down,lemW.down,t3,t4,t5,t8,hZ,stW])))
  have hW2:=hW1.wr (m:=List.replicate 64 (.int .u32 0))
  have hg2:Grows g ((g.new (List.replicate 64 (.int .u32 0))).wr g.next (List.replicate 64 (.int .u32 0))):=Grows.new.wr (Nat.le_refl _)
  have hn2:((g.new (List.replicate 64 (.int .u32 0))).wr g.next (List.replicate 64 (.int .u32 0))).next = g.next + 1:=rfl
  generalize (g.new (List.replicate 64 (.int .u32 0))).wr g.next (List.replicate 64 (.int .u32 0)) = h2 at *
  clear hW1 stW
  refine zc9 pr hp _ _ h2 A B g.next (64 * i) 0 v _ b (gO.grow hg2) hW2 (fun C hC=>by have:=hC.2;omega) (by omega) hroom _ ⟨by simp only [yq220.down,zA,lemS.down,lemC.down,zex,zew,zeu,reduceIte,zev,zey,zez,ze0,ze1,ze2,ze3,ze4,ze5,reduceCtorEq,t3],by simp only [yq220.down,zA,lemS.down,lemC.down,zex,zew,zeu,reduceIte,zev,zey,zez,ze0,ze1,ze2,ze3,ze4,ze5,reduceCtorEq,t4],by simp only [yq220.down,zA,lemS.down,lemC.down,zex,zew,zeu,reduceIte,zev,zey,zez,ze0,ze1,ze2,ze3,ze4,ze5,reduceCtorEq,t5],by simp only [yq220.down,zA,lemS.down,lemC.down,zex,zew,zeu,reduceIte,zev,zey,zez,ze0,ze1,ze2,ze3,ze4,ze5,reduceCtorEq,t8]⟩ (by simp only [yq220.down,zA,lemS.down,lemC.down,zex,zew,zeu,reduceIte,zev,zey,zez,ze0,ze1,ze2,ze3,ze4,ze5,reduceCtorEq]) (by simp only [yq220.down,zA,lemS.down,lemC.down,zex,zew,zeu,reduceIte,zev,zey,zez,ze0,ze1,ze2,ze3,ze4,ze5,reduceCtorEq]) ?_
  rintro t h3 ⟨t3,t4,t5,t8⟩ t9 hW3 k3
  have hH3:=(gH.grow hg2).keep k3 (show B≠g.next by omega)
  have hK3:=(gK.grow hg2).keep k3 (show A≠g.next by omega)
  have hn3:=k3.next
  have ld:∀ sp,h3.loadN ⟨B,0,sp⟩ 8 = some ((absorb i hs b).map (uw .u32)):=fun sp=>hH3.loadAll (by rw [List.length_map,g8])
  have hV4:Var (h3.new (List.replicate 8 (.int .u32 0))) h3.next (List.replicate 8 (.int .u32 0)):=Var.new_self
  have stV:=hV4.storeAll (n:=8) (vs:=(absorb i hs b).map (uw .u32)) (by rw [List.length_map,g8]) (by rfl) (by decide) zB0
  (repeat (first|refine zS ?_|refine zK ?_|refine zR ?_|refine zD ?_|refine zB ?_|refine zI ?_|refine zJ ?_|refine zP ?_|refine zE ?_|refine zG ?_|refine zF ?_|refine zH (by decide) ?_|refine zQ ?_|((first|refine zC ?_|refine zM ?_|refine zO rfl rfl ?_|refine zN rfl ?_|refine zL ?_);simp only [yq220.down,zA,lemS.down,lemC.down,zex,zew,zeu,reduceIte,zev,zey,zez,ze0,ze1,ze2,ze3,ze4,ze5,reduceCtorEq,zZ,zY,lemH.down,lemW.down,t3,t4,t5,t8,t9,ld,stV])))
  have hV5:=hV4.wr (m:=(absorb i hs b).map (uw .u32))
  have hg5:Grows h3 ((h3.new (List.replicate 8 (.int .u32 0))).wr h3.next ((absorb i hs b).map (uw .u32))):=Grows.new.wr (Nat.le_refl _)
  generalize (h3.new (List.replicate 8 (.int .u32 0))).wr h3.next ((absorb i hs b).map (uw .u32)) = h5 at *
  clear hV4 stV ld
  have hW64:(Sha.ext (winB (b.drop (64 * i))) 48).length = 64:=by rw [Sha.ext_len,winB,zBr]
  have hWlt:g.next < h3.next:=hW3.1
  refine zcR pr hp _ _ h5 A B g.next h3.next (64 * i) v _ _ hW64 g8 (hK3.grow hg5) (hW3.grow hg5) hV5 (by omega) (by omega) _ ⟨by simp only [yq220.down,zA,lemS.down,lemC.down,zex,zew,zeu,reduceIte,zev,zey,zez,ze0,ze1,ze2,ze3,ze4,ze5,reduceCtorEq,t3],by simp only [yq220.down,zA,lemS.down,lemC.down,zex,zew,zeu,reduceIte,zev,zey,zez,ze0,ze1,ze2,ze3,ze4,ze5,reduceCtorEq,t4],by simp only [yq220.down,zA,lemS.down,lemC.down,zex,zew,zeu,reduceIte,zev,zey,zez,ze0,ze1,ze2,ze3,ze4,ze5,reduceCtorEq,t5],by simp only [yq220.down,zA,lemS.down,lemC.down,zex,zew,zeu,reduceIte,zev,zey,zez,ze0,ze1,ze2,ze3,ze4,ze5,reduceCtorEq,t8]⟩ (by simp only [yq220.down,zA,lemS.down,lemC.down,zex,zew,zeu,reduceIte,zev,zey,zez,ze0,ze1,ze2,ze3,ze4,ze5,reduceCtorEq,t9]) (by simp only [yq220.down,zA,lemS.down,lemC.down,zex,zew,zeu,reduceIte,zev,zey,zez,ze0,ze1,ze2,ze3,ze4,ze5,reduceCtorEq]) (by simp only [yq220.down,zA,lemS.down,lemC.down,zex,zew,zeu,reduceIte,zev,zey,zez,ze0,ze1,ze2,ze3,ze4,ze5,reduceCtorEq]) ?_
  rintro t h6 ⟨t3,t4,t5,t8⟩ t14 hV6 k6
  have hH6:=(hH3.grow hg5).keep k6 (show B≠h3.next by omega)
  (repeat (first|refine zS ?_|refine zK ?_|refine zR ?_|refine zD ?_|refine zB ?_|refine zI ?_|refine zJ ?_|refine zP ?_|refine zE ?_|refine zG ?_|refine zF ?_|refine zH (by decide) ?_|refine zQ ?_|((first|refine zC ?_|refine zM ?_|refine zO rfl rfl ?_|refine zN rfl ?_|refine zL ?_);simp only [yq220.down,zA,lemS.down,lemC.down,zex,zew,zeu,reduceIte,zev,zey,zez,ze0,ze1,ze2,ze3,ze4,ze5,reduceCtorEq,zZ,zY,lemH.down,lemW.down,t3,t4,t5,t8,t14])))
  refine zcJ pr _ _ h6 A B h3.next (64 * i) v _ _ g8 (by rw [zEW hW64 g8 64 (by omega)]) hH6 hV6 (by omega) _ ⟨by simp only [yq220.down,zA,lemS.down,lemC.down,zex,zew,zeu,reduceIte,zev,zey,zez,ze0,ze1,ze2,ze3,ze4,ze5,reduceCtorEq,t3],by simp only [yq220.down,zA,lemS.down,lemC.down,zex,zew,zeu,reduceIte,zev,zey,zez,ze0,ze1,ze2,ze3,ze4,ze5,reduceCtorEq,t4],by simp only [yq220.down,zA,lemS.down,lemC.down,zex,zew,zeu,reduceIte,zev,zey,zez,ze0,ze1,ze2,ze3,ze4,ze5,reduceCtorEq,t5],by simp only [yq220.down,zA,lemS.down,lemC.down,zex,zew,zeu,reduceIte,zev,zey,zez,ze0,ze1,ze2,ze3,ze4,ze5,reduceCtorEq,t8]⟩ (by simp only [yq220.down,zA,lemS.down,lemC.down,zex,zew,zeu,reduceIte,zev,zey,zez,ze0,ze1,ze2,ze3,ze4,ze5,reduceCtorEq,t14]) (by simp only [yq220.down,zA,lemS.down,lemC.down,zex,zew,zeu,reduceIte,zev,zey,zez,ze0,ze1,ze2,ze3,ze4,ze5,reduceCtorEq]) ?_
  rintro t h7 ⟨t3,t4,t5,t8⟩ hH7 k7
  (repeat (first|refine zS ?_|refine zK ?_|refine zR ?_|refine zD ?_|refine zB ?_|refine zI ?_|refine zJ ?_|refine zP ?_|refine zE ?_|refine zG ?_|refine zF ?_|refine zH (by decide) ?_|refine zQ ?_|((first|refine zC ?_|refine zM ?_|refine zO rfl rfl ?_|refine zN rfl ?_|refine zL ?_);simp only [yq220.down,zA,lemS.down,lemC.down,zex,zew,zeu,reduceIte,zev,zey,zez,ze0,ze1,ze2,ze3,ze4,ze5,reduceCtorEq,zZ,zY,lemH.down,lemW.down,t3,t4,t5,t8,w64])))
  rw [zGP hW64,← zG8,← zFf] at hH7
  refine hnext (b.length - 64 * (i + 1)) _ _ (by omega) ⟨i + 1,rfl,by omega,hH7,?_,⟨by simp only [yq220.down,zA,lemS.down,lemC.down,zex,zew,zeu,reduceIte,zev,zey,zez,ze0,ze1,ze2,ze3,ze4,ze5,reduceCtorEq,t3],by simp only [yq220.down,zA,lemS.down,lemC.down,zex,zew,zeu,reduceIte,zev,zey,zez,ze0,ze1,ze2,ze3,ze4,ze5,reduceCtorEq,t4],by simp only [yq220.down,zA,lemS.down,lemC.down,zex,zew,zeu,reduceIte,zev,zey,zez,ze0,ze1,ze2,ze3,ze4,ze5,reduceCtorEq,t5],by simp only [yq220.down,zA,lemS.down,lemC.down,zex,zew,zeu,reduceIte,zev,zey,zez,ze0,ze1,ze2,ze3,ze4,ze5,reduceCtorEq]⟩⟩
  have a1:Keeps (fun C=>C = B) h h2:=gk.trans (hg2.keeps (W:=fun C=>C = B)) (fun _ _ e=>e)
  have a2:Keeps (fun C=>C = B) h h3:=a1.trans k3 (fun C hC e=>by omega)
  have a3:Keeps (fun C=>C = B) h h5:=a2.trans (hg5.keeps (W:=fun C=>C = B)) (fun _ _ e=>e)
  have a4:Keeps (fun C=>C = B) h h6:=a3.trans k6 (fun C hC e=>by omega)
  exact a4.trans k7 (fun _ _ e=>e)
 ·(repeat (first|refine zS ?_|refine zK ?_|refine zR ?_|refine zD ?_|refine zB ?_|refine zI ?_|refine zJ ?_|refine zP ?_|refine zE ?_|refine zG ?_|refine zF ?_|refine zH (by decide) ?_|refine zQ ?_|((first|refine zC ?_|refine zM ?_|refine zO rfl rfl ?_|refine zN rfl ?_|refine zL ?_);simp only [yq220.down,zA,lemS.down,lemC.down,zex,zew,zeu,reduceIte,zev,zey,zez,ze0,ze1,ze2,ze3,ze4,ze5,reduceCtorEq,zZ,zY,lemH.down,lemW.down])))
  have hd:b.length / 64 = i:=by omega
  rw [← hd] at gH
  exact hQ _ _ (by simp only [yq220.down,zA,lemS.down,lemC.down,zex,zew,zeu,reduceIte,zev,zey,zez,ze0,ze1,ze2,ze3,ze4,ze5,reduceCtorEq,t4]) gH gk
end Go.X
end
section
open Go Go.X
namespace Go.X
set_option linter.unusedVariables false
def zFV:List Value→Option Value
 | []=>some (.tuple #[.agg (Sha.K.map (uw .u32)).toArray,.agg (Sha.H0.map (uw .u32)).toArray])
 | _=>none
theorem zcN {t:Fr} {h:Heap} {i n j m:Nat} {a b:Addr} {vs ws:List Value} (ht:t.get i = .pointer (some a)) (hl:h.loadN a n = some vs) (ht':t.get j = .pointer (some b)) (hl':h.loadN b m = some ws):zw t h [.cellN i n,.cellN j m] = some (.tuple #[.agg vs.toArray,.agg ws.toArray]):=by
 simp [zw,zAO,resX,ht,hl,ht',hl',zAX]
theorem table_ok (pr:Prog) (h:Heap):Comes pr xq243 [] h (.tuple #[.agg (Sha.K.map (uw .u32)).toArray,.agg (Sha.H0.map (uw .u32)).toArray]):=by
 apply Comes.of
 unfold xq243
 dsimp only [zh]
 have hK:Var ((h.new (List.replicate 64 (.int .u32 0))).new (List.replicate 8 (.int .u32 0))) h.next (List.replicate 64 (.int .u32 0)):=Var.new_self.new_old
 have hH:Var ((h.new (List.replicate 64 (.int .u32 0))).new (List.replicate 8 (.int .u32 0))) (h.next + 1) (List.replicate 8 (.int .u32 0)):=Var.new_self (h:=h.new (List.replicate 64 (.int .u32 0)))
 have hg:Grows h ((h.new (List.replicate 64 (.int .u32 0))).new (List.replicate 8 (.int .u32 0))):=Grows.new.trans Grows.new
 (repeat (first|refine zS ?_|refine zK ?_|refine zR ?_|refine zD ?_|refine zB ?_|refine zI ?_|refine zJ ?_|refine zP ?_|refine zE ?_|refine zG ?_|refine zF ?_|refine zH (by decide) ?_|refine zQ ?_|((first|refine zC ?_|refine zM ?_|refine zO rfl rfl ?_|refine zN rfl ?_|refine zL ?_);simp only [yq243.down,zA,lemS.down,lemC.down,zex,zew,zeu,reduceIte,zev,zey,zez,ze0,ze1,ze2,ze3,ze4,ze5,reduceCtorEq,zZ,zY,lemH.down])))
 generalize (h.new (List.replicate 64 (.int .u32 0))).new (List.replicate 8 (.int .u32 0)) = h1 at *
 refine zFa (v:=.agg (Sha.K.map (uw .u32)).toArray) (by kernel_rfl) ?_
 refine zFa (v:=.agg (Sha.H0.map (uw .u32)).toArray) (by kernel_rfl) ?_
 refine ⟨_,hK.storeAll (by rfl) (by rfl) (by decide) zB0,?_⟩
 have hK1:=hK.wr (m:=Sha.K.map (uw .u32))
 have hH1:=hH.wr_ne (A:=h.next) (m:=Sha.K.map (uw .u32)) (by omega)
 refine ⟨_,hH1.storeAll (by rfl) (by rfl) (by decide) zB0,?_⟩
 have hK2:=hK1.wr_ne (A:=h.next + 1) (m:=Sha.H0.map (uw .u32)) (by omega)
 dsimp only
 (repeat (first|refine zS ?_|refine zK ?_|refine zR ?_|refine zD ?_|refine zB ?_|refine zI ?_|refine zJ ?_|refine zP ?_|refine zE ?_|refine zG ?_|refine zF ?_|refine zH (by decide) ?_|refine zQ ?_|((first|refine zC ?_|refine zM ?_|refine zO rfl rfl ?_|refine zN rfl ?_|refine zL ?_);simp only [yq243.down,zA,lemS.down,lemC.down,zex,zew,zeu,reduceIte,zev,zey,zez,ze0,ze1,ze2,ze3,ze4,ze5,reduceCtorEq,zZ,zY,lemH.down])))
 exact⟨.inr rfl,zcN (a:=⟨h.next,0,none⟩) (b:=⟨h.next + 1,0,none⟩) (by simp only [yq243.down,zA,lemS.down,lemC.down,zex,zew,zeu,reduceIte,zev,zey,zez,ze0,ze1,ze2,ze3,ze4,ze5,reduceCtorEq]) (hK2.loadAll rfl) (by simp only [yq243.down,zA,lemS.down,lemC.down,zex,zew,zeu,reduceIte,zev,zey,zez,ze0,ze1,ze2,ze3,ze4,ze5,reduceCtorEq]) (hH1.wr.loadAll rfl),(hg.wr (Nat.le_refl _)).wr (Nat.le_succ _)⟩
theorem Own.push {g:Heap} {S:Nat→Prop} {v:Value} {q:List UInt8} (hO:Own g S 1 v q.length (zW q)) (x:Nat) (hroom:q.length + 1≤zU) (hS:∀ A,g.next≤A→S A) :
  ∃ v' g',zA2 (g.new [uw .u8 x]) 1 1 v (.slice (some ⟨g.next,0,none⟩) 1 1) = some (v',g')∧Own g' S 1 v' (q ++ [UInt8.ofNat x]).length (zW (q ++ [UInt8.ofNat x]))∧Keeps S g g':=by
 have hO1:=hO.grow (Grows.new (l:=[uw .u8 x]))
 have hs1:=(Var.new_self (h:=g) (l:=[uw .u8 x])).src (n:=1) (esz:=1) (bytes:=1) (s:=v) (sp:=none) (c:=1) rfl (by decide)
 obtain⟨v',g2,e2,hO2,k2⟩:=hO1.append (bytes:=1) (m:=1) (new:=[uw .u8 x]) rfl rfl (by decide) (by decide) (by omega)
 refine ⟨v',g2,by rw [hs1,e2],?_,(Keeps.new (W:=S)).trans k2 (fun _ _ e=>e)⟩
 rw [← zCv,← zCu] at hO2
 rw [List.length_append]
 refine hO2.mono fun A hA=>?_
 rcases hA with hA|hA
 ·exact hA
 ·exact hS A (by rw [zCv] at hA;exact Nat.le_of_succ_le hA)
theorem zes (pr:Prog) (k:List KI) (Q:XE→Fr→Heap→Prop) (h:Heap) (S:Nat→Prop) (r:List UInt8) (v r0 r3 r4:Value) (hroom:r.length + 200≤zU) (hO:Own h S 1 v (r ++ [128]).length (zW (r ++ [128]))) (hS:∀ A,h.next≤A→S A)
  (t:Fr) (t0:t.get 0 = r0) (t3:t.get 3 = r3) (t4:t.get 4 = r4) (t5:t.get 5 = v)
  (hQ:∀ t' g v',Own g S 1 v' (r ++ [128] ++ List.replicate (zAP r.length) 0).length (zW (r ++ [128] ++ List.replicate (zAP r.length) 0))→Keeps S h g→t'.get 0 = r0→t'.get 3 = r3→t'.get 4 = r4→t'.get 5 = v'→extk pr k 0 Q t' g) :
  wpk pr (.loop zJk) k Q t h:=by
 refine zAG (fun m t g=>∃ j v,m = zAP r.length - j∧j≤zAP r.length∧Own g S 1 v (r ++ [128] ++ List.replicate j 0).length (zW (r ++ [128] ++ List.replicate j 0))∧Keeps S h g∧t.get 0 = r0∧t.get 3 = r3∧t.get 4 = r4∧t.get 5 = v) ?_ (zAP r.length) _ _ ⟨0,v,rfl,by omega,by simpa using hO,Keeps.refl,t0,t3,t4,t5⟩
 rintro m t g ⟨j,v,rfl,hj,gO,gk,t0,t3,t4,t5⟩ hnext
 refine xq220_6k ?_
 dsimp only [zJl]
 have hlen:(r ++ [128] ++ List.replicate j (0:UInt8)).length = r.length + 1 + j:=by simp;omega
 have hz:zAP r.length < 64:=Nat.mod_lt _ (by decide)
 obtain⟨v',g2,e2,gO2,gk2⟩:=gO.push 0 (by rw [hlen];omega) (fun A hA=>hS A (Nat.le_trans gk.next hA))
 rw [show uw .u8 0 = .int .u8 0 from rfl] at e2
 have e40:binX .rem (.int .i64 (((r ++ [128] ++ List.replicate j (0:UInt8)).length:Nat):Int)) (.int .i64 64) = some (.int .i64 (((r.length + 1 + j) % 64:Nat):Int)):=by
  rw [hlen];exact zMY (by decide)
 (repeat (first|refine zS ?_|refine zK ?_|refine zR ?_|refine zD ?_|refine zB ?_|refine zI ?_|refine zJ ?_|refine zP ?_|refine zE ?_|refine zG ?_|refine zF ?_|refine zH (by decide) ?_|refine zQ ?_|((first|refine zC ?_|refine zM ?_|refine zO rfl rfl ?_|refine zN rfl ?_|refine zL ?_);simp only [yq220.down,zA,lemS.down,lemC.down,zex,zew,zeu,reduceIte,zev,zey,zez,ze0,ze1,ze2,ze3,ze4,ze5,reduceCtorEq,zZ,zY,lemH.down,lemW.down,t0,t3,t4,t5,gO.lenV,e40])))
 refine ⟨fun hlt=>?_,fun hge=>?_⟩
 ·(repeat (first|refine zS ?_|refine zK ?_|refine zR ?_|refine zD ?_|refine zB ?_|refine zI ?_|refine zJ ?_|refine zP ?_|refine zE ?_|refine zG ?_|refine zF ?_|refine zH (by decide) ?_|refine zQ ?_|((first|refine zC ?_|refine zM ?_|refine zO rfl rfl ?_|refine zN rfl ?_|refine zL ?_);simp only [yq220.down,zA,lemS.down,lemC.down,zex,zew,zeu,reduceIte,zev,zey,zez,ze0,ze1,ze2,ze3,ze4,ze5,reduceCtorEq,zZ,zY,lemH.down,lemW.down,t0,t3,t4,t5,e2])))
  have hj':j < zAP r.length:=by
   unfold zAP at *;omega
  refine hnext (zAP r.length - (j + 1)) _ _ (by omega) ⟨j + 1,v',rfl,by omega,?_,gk.trans gk2 (fun A _ e=>e),?_,?_,?_,?_⟩
  ·rw [List.append_assoc] at gO2
   rw [List.replicate_succ']
   exact gO2
  all_goals simp only [yq220.down,zA,lemS.down,lemC.down,zex,zew,zeu,reduceIte,zev,zey,zez,ze0,ze1,ze2,ze3,ze4,ze5,reduceCtorEq,t0,t3,t4]
 ·(repeat (first|refine zS ?_|refine zK ?_|refine zR ?_|refine zD ?_|refine zB ?_|refine zI ?_|refine zJ ?_|refine zP ?_|refine zE ?_|refine zG ?_|refine zF ?_|refine zH (by decide) ?_|refine zQ ?_|((first|refine zC ?_|refine zM ?_|refine zO rfl rfl ?_|refine zN rfl ?_|refine zL ?_);simp only [yq220.down,zA,lemS.down,lemC.down,zex,zew,zeu,reduceIte,zev,zey,zez,ze0,ze1,ze2,ze3,ze4,ze5,reduceCtorEq,zZ,zY,lemH.down,lemW.down])))
  obtain rfl:j = zAP r.length:=by
   unfold zAP at *;omega
  exact hQ _ _ _ gO gk (by simp only [yq220.down,zA,lemS.down,lemC.down,zex,zew,zeu,reduceIte,zev,zey,zez,ze0,ze1,ze2,ze3,ze4,ze5,reduceCtorEq,t0]) (by simp only [yq220.down,zA,lemS.down,lemC.down,zex,zew,zeu,reduceIte,zev,zey,zez,ze0,ze1,ze2,ze3,ze4,ze5,reduceCtorEq,t3]) (by simp only [yq220.down,zA,lemS.down,lemC.down,zex,zew,zeu,reduceIte,zev,zey,zez,ze0,ze1,ze2,ze3,ze4,ze5,reduceCtorEq,t4]) (by simp only [yq220.down,zA,lemS.down,lemC.down,zex,zew,zeu,reduceIte,zev,zey,zez,ze0,ze1,ze2,ze3,ze4,ze5,reduceCtorEq,t5])
theorem len_loop (pr:Prog) (k:List KI) (Q:XE→Fr→Heap→Prop) (h:Heap) (S:Nat→Prop) (p:List UInt8) (n:Nat) (v r0 r3 r4:Value) (hroom:p.length + 200≤zU) (hO:Own h S 1 v p.length (zW p)) (hS:∀ A,h.next≤A→S A)
  (t:Fr) (t0:t.get 0 = r0) (t3:t.get 3 = r3) (t4:t.get 4 = r4) (t5:t.get 5 = v) (t6:t.get 6 = uw .u64 n) (t7:t.get 7 = .int .i64 7)
  (hQ:∀ t' g v',Own g S 1 v' (p ++ lenB n).length (zW (p ++ lenB n))→Keeps S h g→t'.get 0 = r0→t'.get 3 = r3→t'.get 4 = r4→t'.get 5 = v'→extk pr k 2 Q t' g) :
  wpk pr (.loop zJW) k Q t h:=by
 have hlb:∀ j,j≤8→((lenB n).take j).length = j:=fun j hj=>by rw [List.length_take,zCJ];omega
 refine zAG (fun m t g=>∃ j v,m = 8 - j∧j≤8∧Own g S 1 v (p ++ (lenB n).take j).length (zW (p ++ (lenB n).take j))∧Keeps S h g∧t.get 0 = r0∧t.get 3 = r3∧t.get 4 = r4∧t.get 5 = v∧t.get 6 = uw .u64 n∧t.get 7 = .int .i64 (7 - (j:Int))) ?_ 8 _ _ ⟨0,v,rfl,by omega,by simpa using hO,Keeps.refl,t0,t3,t4,t5,t6,by simpa using t7⟩
 rintro m t g ⟨j,v,rfl,hj,gO,gk,t0,t3,t4,t5,t6,t7⟩ hnext
 refine zdn ?_
 dsimp only [zJX]
 (repeat (first|refine zS ?_|refine zK ?_|refine zR ?_|refine zD ?_|refine zB ?_|refine zI ?_|refine zJ ?_|refine zP ?_|refine zE ?_|refine zG ?_|refine zF ?_|refine zH (by decide) ?_|refine zQ ?_|((first|refine zC ?_|refine zM ?_|refine zO rfl rfl ?_|refine zN rfl ?_|refine zL ?_);simp only [yq220.down,zA,lemS.down,lemC.down,zex,zew,zeu,reduceIte,zev,zey,zez,ze0,ze1,ze2,ze3,ze4,ze5,reduceCtorEq,zZ,zY,lemH.down,lemW.down,t0,t3,t4,t5,t6,t7])))
 refine ⟨fun hlt=>?_,fun hge=>?_⟩
 ·have hj':j < 8:=by omega
  obtain⟨v',g2,e2,gO2,gk2⟩:=gO.push ((n % 18446744073709551616) >>> (8 * (7 - j))) (by rw [List.length_append,hlb j hj];omega) (fun A hA=>hS A (Nat.le_trans gk.next hA))
  have w8:IntKind.i64.wrap (8 * (7 - (j:Int))) = ((8 * (7 - j):Nat):Int):=by rw [wrap_i64 (by omega) (by omega)];omega
  have ww:IntKind.i64.wrap (7 - (j:Int) - 1) = 7 - ((j + 1:Nat):Int):=by rw [wrap_i64 (by omega) (by omega)];omega
  have c8:=zCl (k:=.u64) (k':=.i64) zDv (n:=8 * (7 - j))
  have sh:binX .shr (uw .u64 n) (uw .u64 (8 * (7 - j))) = some (uw .u64 ((n % 18446744073709551616) >>> (8 * (7 - j)))):=by
   have:=zIj (k':=.u64) (x:=n) (n:=8 * (7 - j)) (by omega)
   rw [zBJ (by omega)] at this
   exact this
  (repeat (first|refine zS ?_|refine zK ?_|refine zR ?_|refine zD ?_|refine zB ?_|refine zI ?_|refine zJ ?_|refine zP ?_|refine zE ?_|refine zG ?_|refine zF ?_|refine zH (by decide) ?_|refine zQ ?_|((first|refine zC ?_|refine zM ?_|refine zO rfl rfl ?_|refine zN rfl ?_|refine zL ?_);simp only [yq220.down,zA,lemS.down,lemC.down,zex,zew,zeu,reduceIte,zev,zey,zez,ze0,ze1,ze2,ze3,ze4,ze5,reduceCtorEq,zZ,zY,lemH.down,lemW.down,t0,t3,t4,t5,t6,t7,w8,c8,sh,e2,ww])))
  refine hnext (8 - (j + 1)) _ _ (by omega) ⟨j + 1,v',rfl,by omega,?_,gk.trans gk2 (fun A _ e=>e),?_,?_,?_,?_,?_,?_⟩
  ·rw [List.take_succ_eq_append_getElem (by rw [zCJ];exact hj'),← List.append_assoc]
   have:(lenB n)[j]'(by rw [zCJ];exact hj') = UInt8.ofNat ((n % 18446744073709551616) >>> (8 * (7 - j))):=by simp [lenB]
   rw [this]
   exact gO2
  all_goals simp only [yq220.down,zA,lemS.down,lemC.down,zex,zew,zeu,reduceIte,zev,zey,zez,ze0,ze1,ze2,ze3,ze4,ze5,reduceCtorEq,t0,t3,t4,t6]
 ·(repeat (first|refine zS ?_|refine zK ?_|refine zR ?_|refine zD ?_|refine zB ?_|refine zI ?_|refine zJ ?_|refine zP ?_|refine zE ?_|refine zG ?_|refine zF ?_|refine zH (by decide) ?_|refine zQ ?_|((first|refine zC ?_|refine zM ?_|refine zO rfl rfl ?_|refine zN rfl ?_|refine zL ?_);simp only [yq220.down,zA,lemS.down,lemC.down,zex,zew,zeu,reduceIte,zev,zey,zez,ze0,ze1,ze2,ze3,ze4,ze5,reduceCtorEq,zZ,zY,lemH.down,lemW.down])))
  obtain rfl:j = 8:=by omega
  rw [List.take_of_length_le (by rw [zCJ];decide)] at gO
  exact hQ _ _ _ gO gk (by simp only [yq220.down,zA,lemS.down,lemC.down,zex,zew,zeu,reduceIte,zev,zey,zez,ze0,ze1,ze2,ze3,ze4,ze5,reduceCtorEq,t0]) (by simp only [yq220.down,zA,lemS.down,lemC.down,zex,zew,zeu,reduceIte,zev,zey,zez,ze0,ze1,ze2,ze3,ze4,ze5,reduceCtorEq,t3]) (by simp only [yq220.down,zA,lemS.down,lemC.down,zex,zew,zeu,reduceIte,zev,zey,zez,ze0,ze1,ze2,ze3,ze4,ze5,reduceCtorEq,t4]) (by simp only [yq220.down,zA,lemS.down,lemC.down,zex,zew,zeu,reduceIte,zev,zey,zez,ze0,ze1,ze2,ze3,ze4,ze5,reduceCtorEq,t5])
theorem outW_eq (x:Nat):zW (outW x) = [uw .u8 ((x % 4294967296) >>> 24),uw .u8 ((x % 4294967296) >>> 16),uw .u8 ((x % 4294967296) >>> 8),uw .u8 x]:=by
 have e:uw .u8 ((x % 4294967296) >>> 0) = uw .u8 x:=zDw (by simp only [zGk,Nat.shiftRight_zero];omega)
 rw [← e]
 simp only [← zCv]
 rfl
theorem fill4 {z:Value} {a b c d:Nat}:zAB (List.replicate 4 z) [(0,1,uw .u8 a),(1,1,uw .u8 b),(2,1,uw .u8 c),(3,1,uw .u8 d)] = some [uw .u8 a,uw .u8 b,uw .u8 c,uw .u8 d]:=by simp [zAB,zEv,putN,List.replicate]
theorem out_loop (pr:Prog) (k:List KI) (Q:XE→Fr→Heap→Prop) (h:Heap) (B:Nat) (hs:List Nat) (h8:hs.length = 8) (S:Nat→Prop) (v:Value) (hO:Own h S 1 v 0 []) (hB:Var h B (hs.map (uw .u32))) (hSB:¬ S B) (hS:∀ A,h.next≤A→S A)
  (t:Fr) (t4:t.get 4 = .pointer (some ⟨B,0,none⟩)) (t22:t.get 22 = v) (t23:t.get 23 = .int .i64 0)
  (hQ:∀ t' g v',Own g S 1 v' (outB hs).length (zW (outB hs))→Keeps S h g→t'.get 22 = v'→extk pr k 14 Q t' g) :
  wpk pr (.loop zJi) k Q t h:=by
 refine zAG (fun m t g=>∃ j v,m = 8 - j∧j≤8∧Own g S 1 v (outB (hs.take j)).length (zW (outB (hs.take j)))∧Keeps S h g∧t.get 4 = .pointer (some ⟨B,0,none⟩)∧t.get 22 = v∧t.get 23 = .int .i64 (j:Int)) ?_ 8 _ _ ⟨0,v,rfl,by omega,hO,Keeps.refl,t4,t22,t23⟩
 rintro m t g ⟨j,v,rfl,hj,gO,gk,t4,t22,t23⟩ hnext
 refine zeT ?_
 dsimp only [zJj]
 have gB:=hB.keep gk hSB
 (repeat (first|refine zS ?_|refine zK ?_|refine zR ?_|refine zD ?_|refine zB ?_|refine zI ?_|refine zJ ?_|refine zP ?_|refine zE ?_|refine zG ?_|refine zF ?_|refine zH (by decide) ?_|refine zQ ?_|((first|refine zC ?_|refine zM ?_|refine zO rfl rfl ?_|refine zN rfl ?_|refine zL ?_);simp only [yq220.down,zA,lemS.down,lemC.down,zex,zew,zeu,reduceIte,zev,zey,zez,ze0,ze1,ze2,ze3,ze4,ze5,reduceCtorEq,zZ,zY,lemH.down,lemW.down,t4,t22,t23])))
 refine ⟨fun hlt=>?_,fun hge=>?_⟩
 ·have hj':j < 8:=by omega
  have ww:IntKind.i64.wrap ((j:Int) + 1) = ((j + 1:Nat):Int):=by rw [wrap_i64 (by omega) (by omega)];omega
  have gi:(hs.map (uw .u32))[j]? = some (uw .u32 (hs.getD j 0)):=zBx (by omega)
  have hl4:(outB (hs.take j)).length = 4 * j:=by rw [zGJ,List.length_take];omega
  have hr64:zU = 140737488355328:=rfl
  have hc:=outW_eq (hs.getD j 0)
  have gB1:=gB.new_old (m:=zW (outW (hs.getD j 0)))
  have hO1:=gO.grow (Grows.new (l:=zW (outW (hs.getD j 0))))
  have hs1:=(Var.new_self (h:=g) (l:=zW (outW (hs.getD j 0)))).src (n:=4) (esz:=1) (bytes:=1) (s:=v) (sp:=none) (c:=4) (by rw [hc];rfl) (by decide)
  obtain⟨v',g2,e2,hO2,k2⟩:=hO1.append (bytes:=1) (m:=4) (new:=zW (outW (hs.getD j 0))) (by rw [hc];rfl) zEt (by decide) (by decide) (by omega)
  rw [e2] at hs1
  rw [hc] at hs1 gB1
  (repeat (first|refine zS ?_|refine zK ?_|refine zR ?_|refine zD ?_|refine zB ?_|refine zI ?_|refine zJ ?_|refine zP ?_|refine zE ?_|refine zG ?_|refine zF ?_|refine zH (by decide) ?_|refine zQ ?_|((first|refine zC ?_|refine zM ?_|refine zO rfl rfl ?_|refine zN rfl ?_|refine zL ?_);simp only [yq220.down,zA,lemS.down,lemC.down,zex,zew,zeu,reduceIte,zev,zey,zez,ze0,ze1,ze2,ze3,ze4,ze5,reduceCtorEq,zZ,zY,lemH.down,lemW.down,t4,t22,t23,zAw hj',gB.load,gi,zDK (n:=24) (by decide),zDK (n:=16) (by decide),zDK (n:=8) (by decide),fill4,hs1])))
  refine ⟨⟨?_,?_,?_,?_⟩,?_⟩
  ·(refine zBb rfl rfl rfl ?_ ?_<;>simp only [yq220.down,zA,lemS.down,lemC.down,zex,zew,zeu,reduceIte,zev,zey,zez,ze0,ze1,ze2,ze3,ze4,ze5,reduceCtorEq,gB.load,gB1.load,gi,zBV,zBQ,zBW,zBR,zBH,Option.isSome_some])
  ·(refine zBb rfl rfl rfl ?_ ?_<;>simp only [yq220.down,zA,lemS.down,lemC.down,zex,zew,zeu,reduceIte,zev,zey,zez,ze0,ze1,ze2,ze3,ze4,ze5,reduceCtorEq,gB.load,gB1.load,gi,zBV,zBQ,zBW,zBR,zBH,Option.isSome_some])
  ·(refine zBb rfl rfl rfl ?_ ?_<;>simp only [yq220.down,zA,lemS.down,lemC.down,zex,zew,zeu,reduceIte,zev,zey,zez,ze0,ze1,ze2,ze3,ze4,ze5,reduceCtorEq,gB.load,gB1.load,gi,zBV,zBQ,zBW,zBR,zBH,Option.isSome_some])
  ·(refine zBb rfl rfl rfl ?_ ?_<;>simp only [yq220.down,zA,lemS.down,lemC.down,zex,zew,zeu,reduceIte,zev,zey,zez,ze0,ze1,ze2,ze3,ze4,ze5,reduceCtorEq,gB.load,gB1.load,gi,zBV,zBQ,zBW,zBR,zBH,Option.isSome_some])
  (repeat (first|refine zS ?_|refine zK ?_|refine zR ?_|refine zD ?_|refine zB ?_|refine zI ?_|refine zJ ?_|refine zP ?_|refine zE ?_|refine zG ?_|refine zF ?_|refine zH (by decide) ?_|refine zQ ?_|((first|refine zC ?_|refine zM ?_|refine zO rfl rfl ?_|refine zN rfl ?_|refine zL ?_);simp only [yq220.down,zA,lemS.down,lemC.down,zex,zew,zeu,reduceIte,zev,zey,zez,ze0,ze1,ze2,ze3,ze4,ze5,reduceCtorEq,zZ,zY,lemH.down,lemW.down,t4,t23,ww])))
  refine hnext (8 - (j + 1)) _ _ (by omega) ⟨j + 1,v',rfl,by omega,?_,(gk.trans (Keeps.new (W:=S)) (fun _ _ e=>e)).trans k2 (fun _ _ e=>e),by simp only [yq220.down,zA,lemS.down,lemC.down,zex,zew,zeu,reduceIte,zev,zey,zez,ze0,ze1,ze2,ze3,ze4,ze5,reduceCtorEq,t4],by simp only [yq220.down,zA,lemS.down,lemC.down,zex,zew,zeu,reduceIte,zev,zey,zez,ze0,ze1,ze2,ze3,ze4,ze5,reduceCtorEq],by simp only [yq220.down,zA,lemS.down,lemC.down,zex,zew,zeu,reduceIte,zev,zey,zez,ze0,ze1,ze2,ze3,ze4,ze5,reduceCtorEq]⟩
  have:outB (hs.take (j + 1)) = outB (hs.take j) ++ outW (hs.getD j 0):=by
   unfold outB
   rw [List.take_succ_eq_append_getElem (by omega),List.flatMap_append,List.flatMap_cons,List.flatMap_nil,List.append_nil,List.getD_eq_getElem?_getD,List.getElem?_eq_getElem (show j < hs.length by omega)]
   rfl
  rw [this,zCu,List.length_append,show (outW (hs.getD j 0)).length = 4 by simp [outW]]
  refine hO2.mono fun A hA=>?_
  rcases hA with hA|hA
  ·exact hA
  ·have:(g.new (zW (outW (hs.getD j 0)))).next = g.next + 1:=rfl
   have:=gk.next
   exact hS A (by omega)
 ·(repeat (first|refine zS ?_|refine zK ?_|refine zR ?_|refine zD ?_|refine zB ?_|refine zI ?_|refine zJ ?_|refine zP ?_|refine zE ?_|refine zG ?_|refine zF ?_|refine zH (by decide) ?_|refine zQ ?_|((first|refine zC ?_|refine zM ?_|refine zO rfl rfl ?_|refine zN rfl ?_|refine zL ?_);simp only [yq220.down,zA,lemS.down,lemC.down,zex,zew,zeu,reduceIte,zev,zey,zez,ze0,ze1,ze2,ze3,ze4,ze5,reduceCtorEq,zZ,zY,lemH.down,lemW.down])))
  obtain rfl:j = 8:=by omega
  rw [List.take_of_length_le (by omega)] at gO
  exact hQ _ _ _ gO gk (by simp only [yq220.down,zA,lemS.down,lemC.down,zex,zew,zeu,reduceIte,zev,zey,zez,ze0,ze1,ze2,ze3,ze4,ze5,reduceCtorEq,t22])
end Go.X
end
section
open Go Go.X
namespace Go.X
set_option linter.unusedVariables false
theorem zcK (pr:Prog) (hp:pr.prim 244 = some (zf zCR)) (ht:pr.prim 243 = some (zf zFV)) (s:List UInt8) (hroom:s.length + 400≤zU) (h:Heap):Comes pr xq220 [.string (strOf s)] h (.string (strOf (sha s))):=by
 apply Comes.of
 unfold xq220
 dsimp only [zh]
 have hr64:zU = 140737488355328:=rfl
 have hK2:Var ((h.new (List.replicate 64 (.int .u32 0))).new (List.replicate 8 (.int .u32 0))) h.next (List.replicate 64 (.int .u32 0)):=Var.new_self.new_old
 have hH2:Var ((h.new (List.replicate 64 (.int .u32 0))).new (List.replicate 8 (.int .u32 0))) (h.next + 1) (List.replicate 8 (.int .u32 0)):=Var.new_self (h:=h.new (List.replicate 64 (.int .u32 0)))
 have hg2:Grows h ((h.new (List.replicate 64 (.int .u32 0))).new (List.replicate 8 (.int .u32 0))):=Grows.new.trans Grows.new
 have hn2:((h.new (List.replicate 64 (.int .u32 0))).new (List.replicate 8 (.int .u32 0))).next = h.next + 2:=rfl
 (repeat (first|refine zS ?_|refine zK ?_|refine zR ?_|refine zD ?_|refine zB ?_|refine zI ?_|refine zJ ?_|refine zP ?_|refine zE ?_|refine zG ?_|refine zF ?_|refine zH (by decide) ?_|refine zQ ?_|((first|refine zC ?_|refine zM ?_|refine zO rfl rfl ?_|refine zN rfl ?_|refine zL ?_);simp only [yq220.down,zA,lemS.down,lemC.down,zex,zew,zeu,reduceIte,zev,zey,zez,ze0,ze1,ze2,ze3,ze4,ze5,reduceCtorEq,zZ,zY,lemH.down,zAD ht (s:=zFV) (args:=[]) rfl])))
 generalize (h.new (List.replicate 64 (.int .u32 0))).new (List.replicate 8 (.int .u32 0)) = h2 at *
 refine ⟨_,hK2.storeAll (by rfl) (by rfl) (by decide) zB0,?_⟩
 have hK3:=hK2.wr (m:=Sha.K.map (uw .u32))
 have hH3:=hH2.wr_ne (A:=h.next) (m:=Sha.K.map (uw .u32)) (by omega)
 refine ⟨_,hH3.storeAll (by rfl) (by rfl) (by decide) zB0,?_⟩
 have hK4:=hK3.wr_ne (A:=h.next + 1) (m:=Sha.H0.map (uw .u32)) (by omega)
 have hH4:=hH3.wr (m:=Sha.H0.map (uw .u32))
 have hg4:=(hg2.wr (A:=h.next) (l:=Sha.K.map (uw .u32)) (Nat.le_refl _)).wr (A:=h.next + 1) (l:=Sha.H0.map (uw .u32)) (Nat.le_succ _)
 have hn4:((h2.wr h.next (Sha.K.map (uw .u32))).wr (h.next + 1) (Sha.H0.map (uw .u32))).next = h.next + 2:=hn2
 dsimp only
 generalize (h2.wr h.next (Sha.K.map (uw .u32))).wr (h.next + 1) (Sha.H0.map (uw .u32)) = h4 at *
 clear hK2 hH2 hg2 hn2 hK3 hH3
 have hO5:Own (h4.newB (zW s)) (fun A=>h.next + 2≤A) 1 (.slice (some ⟨h4.next,0,some 1⟩) s.length s.length) s.length (zW s):=(Own.newB (sp:=some 1) (by simp [zCF]) (.inr rfl)).mono (fun A hA=>by show h.next + 2≤A;omega)
 have hK5:=hK4.newB_old (m:=zW s)
 have hH5:=hH4.newB_old (m:=zW s)
 have hg5:=hg4.trans (Grows.newB (l:=zW s))
 have hn5:(h4.newB (zW s)).next = h.next + 3:=by rw [zIA,hn4]
 obtain⟨v6,h6,e6,hO6,k6⟩:=hO5.push 128 (by omega) (fun A hA=>by show h.next + 2≤A;omega)
 rw [show uw .u8 128 = .int .u8 128 from rfl,zIA] at e6
 (repeat (first|refine zS ?_|refine zK ?_|refine zR ?_|refine zD ?_|refine zB ?_|refine zI ?_|refine zJ ?_|refine zP ?_|refine zE ?_|refine zG ?_|refine zF ?_|refine zH (by decide) ?_|refine zQ ?_|((first|refine zC ?_|refine zM ?_|refine zO rfl rfl ?_|refine zN rfl ?_|refine zL ?_);simp only [yq220.down,zA,lemS.down,lemC.down,zex,zew,zeu,reduceIte,zev,zey,zez,ze0,ze1,ze2,ze3,ze4,ze5,reduceCtorEq,zZ,zY,lemH.down,zEz,e6])))
 have hK6:=hK5.keep k6 (by show ¬ (h.next + 2≤h.next);omega)
 have hH6:=hH5.keep k6 (by show ¬ (h.next + 2≤h.next + 1);omega)
 have hg6:=hg5.then k6 (fun A hA=>by show ¬ (h.next + 2≤A);omega)
 have hn6:=k6.next
 rw [show UInt8.ofNat 128 = 128 from rfl] at hO6
 clear e6 k6 hO5 hK4 hH4 hg4
 refine zes pr _ _ h6 (fun A=>h.next + 2≤A) s v6 _ _ _ (by omega) hO6 (fun A hA=>by show h.next + 2≤A;omega) _ (by (simp only [yq220.down,zA,lemS.down,lemC.down,zex,zew,zeu,reduceIte,zev,zey,zez,ze0,ze1,ze2,ze3,ze4,ze5,reduceCtorEq])<;>rfl) (by (simp only [yq220.down,zA,lemS.down,lemC.down,zex,zew,zeu,reduceIte,zev,zey,zez,ze0,ze1,ze2,ze3,ze4,ze5,reduceCtorEq])<;>rfl) (by (simp only [yq220.down,zA,lemS.down,lemC.down,zex,zew,zeu,reduceIte,zev,zey,zez,ze0,ze1,ze2,ze3,ze4,ze5,reduceCtorEq])<;>rfl) (by simp only [yq220.down,zA,lemS.down,lemC.down,zex,zew,zeu,reduceIte,zev,zey,zez,ze0,ze1,ze2,ze3,ze4,ze5,reduceCtorEq]) ?_
 intro t g v7 hO7 k7 t0 t3 t4 t5
 have hz:zAP s.length < 64:=Nat.mod_lt _ (by decide)
 have c8:=zCl (k:=.u64) (k':=.i64) zDv (n:=s.length)
 have u8:Value.int .u64 8 = uw .u64 8:=rfl
 (repeat (first|refine zS ?_|refine zK ?_|refine zR ?_|refine zD ?_|refine zB ?_|refine zI ?_|refine zJ ?_|refine zP ?_|refine zE ?_|refine zG ?_|refine zF ?_|refine zH (by decide) ?_|refine zQ ?_|((first|refine zC ?_|refine zM ?_|refine zO rfl rfl ?_|refine zN rfl ?_|refine zL ?_);simp only [yq220.down,zA,lemS.down,lemC.down,zex,zew,zeu,reduceIte,zev,zey,zez,ze0,ze1,ze2,ze3,ze4,ze5,reduceCtorEq,zZ,zY,lemH.down,lemW.down,t0,t3,t4,t5,c8,u8])))
 have hn7:=k7.next
 refine len_loop pr _ _ g (fun A=>h.next + 2≤A) _ (s.length * 8) v7 _ _ _ (by simp;omega) hO7 (fun A hA=>by show h.next + 2≤A;omega) _ (by (simp only [yq220.down,zA,lemS.down,lemC.down,zex,zew,zeu,reduceIte,zev,zey,zez,ze0,ze1,ze2,ze3,ze4,ze5,reduceCtorEq,t0])<;>rfl) (by (simp only [yq220.down,zA,lemS.down,lemC.down,zex,zew,zeu,reduceIte,zev,zey,zez,ze0,ze1,ze2,ze3,ze4,ze5,reduceCtorEq,t3])<;>rfl) (by (simp only [yq220.down,zA,lemS.down,lemC.down,zex,zew,zeu,reduceIte,zev,zey,zez,ze0,ze1,ze2,ze3,ze4,ze5,reduceCtorEq,t4])<;>rfl) (by simp only [yq220.down,zA,lemS.down,lemC.down,zex,zew,zeu,reduceIte,zev,zey,zez,ze0,ze1,ze2,ze3,ze4,ze5,reduceCtorEq,t5]) (by simp only [yq220.down,zA,lemS.down,lemC.down,zex,zew,zeu,reduceIte,zev,zey,zez,ze0,ze1,ze2,ze3,ze4,ze5,reduceCtorEq]) (by simp only [yq220.down,zA,lemS.down,lemC.down,zex,zew,zeu,reduceIte,zev,zey,zez,ze0,ze1,ze2,ze3,ze4,ze5,reduceCtorEq]) ?_
 intro t g8 v8 hO8 k8 t0 t3 t4 t5
 have k68:=k7.trans k8 (fun _ _ e=>e)
 have hn8:=k8.next
 (repeat (first|refine zS ?_|refine zK ?_|refine zR ?_|refine zD ?_|refine zB ?_|refine zI ?_|refine zJ ?_|refine zP ?_|refine zE ?_|refine zG ?_|refine zF ?_|refine zH (by decide) ?_|refine zQ ?_|((first|refine zC ?_|refine zM ?_|refine zO rfl rfl ?_|refine zN rfl ?_|refine zL ?_);simp only [yq220.down,zA,lemS.down,lemC.down,zex,zew,zeu,reduceIte,zev,zey,zez,ze0,ze1,ze2,ze3,ze4,ze5,reduceCtorEq,zZ,zY,lemH.down,lemW.down,t0,t3,t4,t5])))
 have hK8:=hK6.keep k68 (by show ¬ (h.next + 2≤h.next);omega)
 have hH8:=hH6.keep k68 (by show ¬ (h.next + 2≤h.next + 1);omega)
 have hg8:=hg6.then k68 (fun A hA=>by show ¬ (h.next + 2≤A);omega)
 have hpl:(padB s s.length).length = s.length + 1 + zAP s.length + 8:=by simp [padB,zCJ];omega
 refine zcF pr hp _ _ g8 h.next (h.next + 1) v8 (fun A=>h.next + 2≤A) (padB s s.length) Sha.H0 rfl (zIQ s s.length) (by omega) hO8 hK8 hH8 (by omega) (fun C (hC:h.next + 2≤C)=>by omega) _ ⟨by simp only [yq220.down,zA,lemS.down,lemC.down,zex,zew,zeu,reduceIte,zev,zey,zez,ze0,ze1,ze2,ze3,ze4,ze5,reduceCtorEq,t3],by simp only [yq220.down,zA,lemS.down,lemC.down,zex,zew,zeu,reduceIte,zev,zey,zez,ze0,ze1,ze2,ze3,ze4,ze5,reduceCtorEq,t4],by simp only [yq220.down,zA,lemS.down,lemC.down,zex,zew,zeu,reduceIte,zev,zey,zez,ze0,ze1,ze2,ze3,ze4,ze5,reduceCtorEq,t5],by (simp only [yq220.down,zA,lemS.down,lemC.down,zex,zew,zeu,reduceIte,zev,zey,zez,ze0,ze1,ze2,ze3,ze4,ze5,reduceCtorEq])<;>rfl⟩ ?_
 intro t g9 t4 hH9 k9
 have hn9:=k9.next
 (repeat (first|refine zS ?_|refine zK ?_|refine zR ?_|refine zD ?_|refine zB ?_|refine zI ?_|refine zJ ?_|refine zP ?_|refine zE ?_|refine zG ?_|refine zF ?_|refine zH (by decide) ?_|refine zQ ?_|((first|refine zC ?_|refine zM ?_|refine zO rfl rfl ?_|refine zN rfl ?_|refine zL ?_);simp only [yq220.down,zA,lemS.down,lemC.down,zex,zew,zeu,reduceIte,zev,zey,zez,ze0,ze1,ze2,ze3,ze4,ze5,reduceCtorEq,zZ,zY,lemH.down,lemW.down,t4])))
 have hO10:Own (g9.new []) (fun A=>h.next + 2≤A) 1 (.slice (some ⟨g9.next,0,none⟩) 0 0) 0 []:=(Own.newSlice (sp:=none) rfl (.inl rfl)).mono (fun A hA=>by show h.next + 2≤A;omega)
 refine out_loop pr _ _ (g9.new []) (h.next + 1) _ (zD5 _ rfl) (fun A=>h.next + 2≤A) _ hO10 hH9.new_old (by show ¬ (h.next + 2≤h.next + 1);omega) (fun A hA=>by rw [zLw] at hA;show h.next + 2≤A;omega) _ (by simp only [yq220.down,zA,lemS.down,lemC.down,zex,zew,zeu,reduceIte,zev,zey,zez,ze0,ze1,ze2,ze3,ze4,ze5,reduceCtorEq,t4]) (by simp only [yq220.down,zA,lemS.down,lemC.down,zex,zew,zeu,reduceIte,zev,zey,zez,ze0,ze1,ze2,ze3,ze4,ze5,reduceCtorEq]) (by simp only [yq220.down,zA,lemS.down,lemC.down,zex,zew,zeu,reduceIte,zev,zey,zez,ze0,ze1,ze2,ze3,ze4,ze5,reduceCtorEq]) ?_
 intro t g11 v11 hO11 k11 t22
 (repeat (first|refine zS ?_|refine zK ?_|refine zR ?_|refine zD ?_|refine zB ?_|refine zI ?_|refine zJ ?_|refine zP ?_|refine zE ?_|refine zG ?_|refine zF ?_|refine zH (by decide) ?_|refine zQ ?_|((first|refine zC ?_|refine zM ?_|refine zO rfl rfl ?_|refine zN rfl ?_|refine zL ?_);simp only [yq220.down,zA,lemS.down,lemC.down,zex,zew,zeu,reduceIte,zev,zey,zez,ze0,ze1,ze2,ze3,ze4,ze5,reduceCtorEq,zZ,zY,lemH.down,lemW.down,t22,hO11.cb2s])))
 refine ⟨.inr rfl,?_,?_⟩
 ·simp only [yq220.down,zA,lemS.down,lemC.down,zex,zew,zeu,reduceIte,zev,zey,zez,ze0,ze1,ze2,ze3,ze4,ze5,reduceCtorEq]
  rfl
 ·have a1:=hg8.then k9 (fun A hA=>by show ¬ (A = h.next + 1);omega)
  exact (a1.trans (Grows.new (l:=[]))).then k11 (fun A hA=>by show ¬ (h.next + 2≤A);omega)
end Go.X
end
