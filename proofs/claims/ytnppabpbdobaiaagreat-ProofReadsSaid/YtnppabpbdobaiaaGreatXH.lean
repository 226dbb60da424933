/- Tags. -/
import Derived.Test.YtnppabpbdobaiaaGreatXC
import Derived.Test.YtnppabpbdobaiaaGreatXD
import Derived.Test.YtnppabpbdobaiaaGreatXG
set_option linter.unusedSimpArgs false
set_option linter.unusedVariables false
set_option maxHeartbeats 2000000
open Nat renaming reduceLeDiff → zeu, reduceEqDiff → zev, reduceAdd → zew
open Int renaming reduceBEq → zex, reduceLT → zey, reduceLE → zez, reduceGT → ze0, reduceGE → ze1, reduceEq → ze2, reduceAdd → ze3, reduceSub → ze4, reduceMul → ze5
section
open Go Go.X
namespace Go.X
set_option linter.unusedVariables false
theorem zFQ (s:List UInt8):(sha s).length = 32:=by
 unfold sha fin
 rw [zGJ,zD5 _ rfl]
def keyB (k:List UInt8):List UInt8:=(if 64 < k.length then sha k else k) ++ List.replicate (64 - (if 64 < k.length then sha k else k).length) 0
theorem zLe (k:List UInt8):(keyB k).length = 64:=by
 unfold keyB
 rw [List.length_append,List.length_replicate]
 split
 ·rw [zFQ]
 ·omega
def padK (k:List UInt8) (b:UInt8):List UInt8:=(keyB k).map (· ^^^ b)
theorem zGK (k:List UInt8) (b:UInt8):(padK k b).length = 64:=by simp [padK,zLe]
def mac (k s:List UInt8):List UInt8:=sha (padK k 92 ++ sha (padK k 54 ++ s))
theorem mac_len (k s:List UInt8):(mac k s).length = 32:=zFQ _
def zDl:List Value→Option Value
 | [.string s,.int .i64 c]=>if 0≤c∧c≤9223372036854775807∧s.data.toList.length * c.toNat≤zU then some (.string (strOf (List.replicate c.toNat s.data.toList).flatten)) else none
 | _=>none
theorem zcL {s:List UInt8} {c:Nat} (h0:c≤9223372036854775807) (h:s.length * c≤zU):zDl [.string (strOf s),.int .i64 (c:Int)] = some (.string (strOf (List.replicate c s).flatten)):=by
 simp only [zDl,zBd]
 rw [if_pos ⟨by omega,by omega,by simpa using h⟩]
 simp
theorem flat1 (n:Nat) (x:UInt8):(List.replicate n [x]).flatten = List.replicate n x:=by
 induction n with
 | zero=>rfl
 | succ n ih=>simp [List.replicate_succ,ih]
def xorP (l:List UInt8) (b:UInt8) (i:Nat):List UInt8:=(l.take i).map (· ^^^ b) ++ l.drop i
theorem xorP_len {l:List UInt8} {b:UInt8} {i:Nat}:(xorP l b i).length = l.length:=by simp [xorP];omega
theorem xorP_get {l:List UInt8} {b:UInt8} {i:Nat} (hi:i < l.length):(xorP l b i).getD i 0 = l.getD i 0:=by
 unfold xorP
 simp only [List.getD_eq_getElem?_getD]
 have e:((l.take i).map (· ^^^ b)).length = i:=by simp;omega
 rw [List.getElem?_append_right (by omega),e,List.getElem?_drop]
 simp
theorem xorP_set {l:List UInt8} {b:UInt8} {i:Nat} (hi:i < l.length):(xorP l b i).set i (l.getD i 0 ^^^ b) = xorP l b (i + 1):=by
 unfold xorP
 have e:((l.take i).map (· ^^^ b)).length = i:=by simp;omega
 rw [List.set_append_right _ _ (by omega),e,Nat.sub_self,List.take_succ_eq_append_getElem hi,List.map_append,List.append_assoc,List.drop_eq_getElem_cons hi]
 simp only [List.getD_eq_getElem?_getD,List.getElem?_eq_getElem hi,Option.getD_some,List.set_cons_zero,List.map_cons,List.map_nil,List.cons_append,List.nil_append]
theorem pad_ok (pr:Prog) (hs:pr.prim 179 = some (zf shaS)) (hr:pr.prim 248 = some (zf zDl)) (k:List UInt8) (b:UInt8) (hk:k.length + 400≤zU) (h:Heap):Comes pr xq223 [.string (strOf k),uw .u8 b.toNat] h (.string (strOf (padK k b))):=by
 apply Comes.of
 unfold xq223
 dsimp only [zh]
 have main:∀ (q:List UInt8) (t:Fr),q.length≤64→q ++ List.replicate (64 - q.length) 0 = keyB k→t.get 0 = .string (strOf q)→t.get 1 = uw .u8 b.toNat →
   wpk pr (.seq (.ops zJr) (.seq (.seq (.ops zJs) (.block 0 (.loop zJt))) (.seq (.ops zJq) (.ret)))) [] (fun e t h'=>(e = XE.normal∨e = XE.ret)∧t.get 4 = .string (strOf (padK k b))∧Grows h h') t h:=by
  intro q t hq hqk t0 t1
  have hr64:zU = 140737488355328:=rfl
  have w64:IntKind.i64.wrap (64 - (q.length:Int)) = ((64 - q.length:Nat):Int):=by rw [wrap_i64 (by omega) (by omega)];omega
  have rep:cfi pr 248 [.string (strOf [0]),.int .i64 ((64 - q.length:Nat):Int)] h = some (.string (strOf (List.replicate (64 - q.length) 0)),h):=
   zAD hr (by rw [zcL (by omega) (by simp;omega),flat1])
  have cat:=zEs (a:=q) (b:=List.replicate (64 - q.length) 0) (by simp;omega)
  rw [hqk] at cat
  (repeat (first|refine zS ?_|refine zK ?_|refine zR ?_|refine zD ?_|refine zB ?_|refine zI ?_|refine zJ ?_|refine zP ?_|refine zE ?_|refine zG ?_|refine zF ?_|refine zH (by decide) ?_|refine zQ ?_|((first|refine zC ?_|refine zM ?_|refine zO rfl rfl ?_|refine zN rfl ?_|refine zL ?_);simp only [yq223.down,zA,lemS.down,lemC.down,zex,zew,zeu,reduceIte,zev,zey,zez,ze0,ze1,ze2,ze3,ze4,ze5,reduceCtorEq,lemH.down,lemW.down,t0,t1,w64,rep,cat,zEz])))
  have hO:=Own.newB (h:=h) (l:=zW (keyB k)) (n:=(keyB k).length) (esz:=1) (sp:=some 1) (by simp [zCF]) (.inr rfl)
  have hg:Grows h (h.newB (zW (keyB k))):=Grows.newB
  generalize h.newB (zW (keyB k)) = h1 at *
  have hkl:=zLe k
  refine zAG (fun m t g=>∃ i,m = 64 - i∧i≤64∧Own g (fun A=>A = h.next) 1 (.slice (some ⟨h.next,0,some 1⟩) (keyB k).length (keyB k).length) (keyB k).length (zW (xorP (keyB k) b i))∧Keeps (fun A=>A = h.next) h1 g∧t.get 1 = uw .u8 b.toNat∧t.get 5 = .slice (some ⟨h.next,0,some 1⟩) (keyB k).length (keyB k).length∧t.get 20 = .int .i64 ((keyB k).length:Int)∧t.get 21 = .int .i64 (i:Int)) ?_ 64 _ _ ⟨0,rfl,by omega,by simpa [xorP] using hO,Keeps.refl,by simp only [yq223.down,zA,lemS.down,lemC.down,zex,zew,zeu,reduceIte,zev,zey,zez,ze0,ze1,ze2,ze3,ze4,ze5,reduceCtorEq,t1],by simp only [yq223.down,zA,lemS.down,lemC.down,zex,zew,zeu,reduceIte,zev,zey,zez,ze0,ze1,ze2,ze3,ze4,ze5,reduceCtorEq],by simp only [yq223.down,zA,lemS.down,lemC.down,zex,zew,zeu,reduceIte,zev,zey,zez,ze0,ze1,ze2,ze3,ze4,ze5,reduceCtorEq],by (simp only [yq223.down,zA,lemS.down,lemC.down,zex,zew,zeu,reduceIte,zev,zey,zez,ze0,ze1,ze2,ze3,ze4,ze5,reduceCtorEq])<;>rfl⟩
  rintro m t g ⟨i,rfl,hi,gO,gk,t1,t5,t20,t21⟩ hnext
  refine xq223_9k ?_
  dsimp only [zJu]
  (repeat (first|refine zS ?_|refine zK ?_|refine zR ?_|refine zD ?_|refine zB ?_|refine zI ?_|refine zJ ?_|refine zP ?_|refine zE ?_|refine zG ?_|refine zF ?_|refine zH (by decide) ?_|refine zQ ?_|((first|refine zC ?_|refine zM ?_|refine zO rfl rfl ?_|refine zN rfl ?_|refine zL ?_);simp only [yq223.down,zA,lemS.down,lemC.down,zex,zew,zeu,reduceIte,zev,zey,zez,ze0,ze1,ze2,ze3,ze4,ze5,reduceCtorEq,lemH.down,lemW.down,t1,t5,t20,t21])))
  refine ⟨fun hlt=>?_,fun hge=>?_⟩
  ·have hi':i < 64:=by omega
   have ww:IntKind.i64.wrap ((i:Int) + 1) = ((i + 1:Nat):Int):=by rw [wrap_i64 (by omega) (by omega)];omega
   obtain⟨B,o,a1,l1,st⟩:=gO.set1 (i:=i) (k:=.i64) (by omega)
   rw [zFt (by rw [xorP_len];omega),xorP_get (by omega)] at l1
   obtain⟨g2,st2,gO2,gk2⟩:=st (uw .u8 (((keyB k).getD i 0).toNat ^^^ b.toNat)) rfl rfl
   rw [← UInt8.toNat_xor,zGm,zav,xorP_set (by omega)] at gO2
   (repeat (first|refine zS ?_|refine zK ?_|refine zR ?_|refine zD ?_|refine zB ?_|refine zI ?_|refine zJ ?_|refine zP ?_|refine zE ?_|refine zG ?_|refine zF ?_|refine zH (by decide) ?_|refine zQ ?_|((first|refine zC ?_|refine zM ?_|refine zO rfl rfl ?_|refine zN rfl ?_|refine zL ?_);simp only [yq223.down,zA,lemS.down,lemC.down,zex,zew,zeu,reduceIte,zev,zey,zez,ze0,ze1,ze2,ze3,ze4,ze5,reduceCtorEq,lemH.down,lemW.down,t1,t5,t20,t21,zAs,a1,l1,st2,ww])))
   refine hnext (64 - (i + 1)) _ _ (by omega) ⟨i + 1,rfl,by omega,gO2,gk.trans gk2 (fun _ _ e=>e),?_,?_,?_,?_⟩<;>simp only [yq223.down,zA,lemS.down,lemC.down,zex,zew,zeu,reduceIte,zev,zey,zez,ze0,ze1,ze2,ze3,ze4,ze5,reduceCtorEq,t1,t5,t20]
  ·obtain rfl:i = 64:=by omega
   have hx:xorP (keyB k) b 64 = padK k b:=by
    unfold xorP padK
    rw [List.take_of_length_le (by omega),List.drop_of_length_le (by omega),List.append_nil]
   rw [hx] at gO
   (repeat (first|refine zS ?_|refine zK ?_|refine zR ?_|refine zD ?_|refine zB ?_|refine zI ?_|refine zJ ?_|refine zP ?_|refine zE ?_|refine zG ?_|refine zF ?_|refine zH (by decide) ?_|refine zQ ?_|((first|refine zC ?_|refine zM ?_|refine zO rfl rfl ?_|refine zN rfl ?_|refine zL ?_);simp only [yq223.down,zA,lemS.down,lemC.down,zex,zew,zeu,reduceIte,zev,zey,zez,ze0,ze1,ze2,ze3,ze4,ze5,reduceCtorEq,lemH.down,lemW.down,t1,t5,t20,t21,gO.cb2s])))
   exact⟨.inr rfl,by simp only [yq223.down,zA,lemS.down,lemC.down,zex,zew,zeu,reduceIte,zev,zey,zez,ze0,ze1,ze2,ze3,ze4,ze5,reduceCtorEq],hg.then gk (fun A hA e=>by omega)⟩
 (repeat (first|refine zS ?_|refine zK ?_|refine zR ?_|refine zD ?_|refine zB ?_|refine zI ?_|refine zJ ?_|refine zP ?_|refine zE ?_|refine zG ?_|refine zF ?_|refine zH (by decide) ?_|refine zQ ?_|((first|refine zC ?_|refine zM ?_|refine zO rfl rfl ?_|refine zN rfl ?_|refine zL ?_);simp only [yq223.down,zA,lemS.down,lemC.down,zex,zew,zeu,reduceIte,zev,zey,zez,ze0,ze1,ze2,ze3,ze4,ze5,reduceCtorEq,lemH.down,lemW.down])))
 refine ⟨fun hl=>?_,fun hl=>?_⟩
 ·refine zC ?_
  simp only [yq223.down,zA,lemS.down,lemC.down,zex,zew,zeu,reduceIte,zev,zey,zez,ze0,ze1,ze2,ze3,ze4,ze5,reduceCtorEq,zAD hs (zGZ hk)]
  refine zB (main (sha k) _ (by rw [zFQ];decide) ?_ (by simp only [yq223.down,zA,lemS.down,lemC.down,zex,zew,zeu,reduceIte,zev,zey,zez,ze0,ze1,ze2,ze3,ze4,ze5,reduceCtorEq]) (by simp only [yq223.down,zA,lemS.down,lemC.down,zex,zew,zeu,reduceIte,zev,zey,zez,ze0,ze1,ze2,ze3,ze4,ze5,reduceCtorEq]))
  unfold keyB
  rw [if_pos (by omega)]
 ·refine zD (zB (main k _ (by omega) ?_ (by simp only [yq223.down,zA,lemS.down,lemC.down,zex,zew,zeu,reduceIte,zev,zey,zez,ze0,ze1,ze2,ze3,ze4,ze5,reduceCtorEq]) (by simp only [yq223.down,zA,lemS.down,lemC.down,zex,zew,zeu,reduceIte,zev,zey,zez,ze0,ze1,ze2,ze3,ze4,ze5,reduceCtorEq])))
  unfold keyB
  rw [if_neg (by omega)]
end Go.X
end
section
open Go Go.X
namespace Go.X
set_option linter.unusedVariables false
def padS:List Value→Option Value
 | [.string k,.int .u8 b]=>if k.data.toList.length + 400≤zU∧0≤b∧b < 256 then some (.string (strOf (padK k.data.toList (UInt8.ofNat b.toNat)))) else none
 | _=>none
theorem zMI {k:List UInt8} {b:Nat} (h:k.length + 400≤zU) (hb:b < 256):padS [.string (strOf k),.int .u8 (OfNat.ofNat b)] = some (.string (strOf (padK k (UInt8.ofNat b)))):=by
 have e:(OfNat.ofNat b:Int) = (b:Int):=rfl
 simp only [padS,zBd,e]
 rw [if_pos ⟨h,by omega,by omega⟩]
 simp
def tagS:List Value→Option Value
 | [.string k,.string s]=>if k.data.toList.length + 400≤zU∧s.data.toList.length + 500≤zU then some (.string (strOf (mac k.data.toList s.data.toList))) else none
 | _=>none
theorem tagS_at {k s:List UInt8} (h:k.length + 400≤zU) (h2:s.length + 500≤zU):tagS [.string (strOf k),.string (strOf s)] = some (.string (strOf (mac k s))):=by
 simp only [tagS,zBd,if_pos (And.intro h h2)]
theorem tag_ok (pr:Prog) (hs:pr.prim 179 = some (zf shaS)) (hp:pr.prim 223 = some (zf padS)) (k s:List UInt8) (hk:k.length + 400≤zU) (hs5:s.length + 500≤zU) (h:Heap):Comes pr xq199 [.string (strOf k),.string (strOf s)] h (.string (strOf (mac k s))):=by
 apply Comes.of
 unfold xq199
 dsimp only [zh]
 have hr64:zU = 140737488355328:=rfl
 have p1:=zAD (h:=h) hp (zMI (b:=92) hk (by decide))
 have p2:=zAD (h:=h) hp (zMI (b:=54) hk (by decide))
 have c1:=zEs (a:=padK k (UInt8.ofNat 54)) (b:=s) (by rw [zGK];omega)
 have s1:=zAD (h:=h) hs (zGZ (s:=padK k (UInt8.ofNat 54) ++ s) (by rw [List.length_append,zGK];omega))
 have c2:=zEs (a:=padK k (UInt8.ofNat 92)) (b:=sha (padK k (UInt8.ofNat 54) ++ s)) (by rw [zGK,zFQ];omega)
 have s2:=zAD (h:=h) hs (zGZ (s:=padK k (UInt8.ofNat 92) ++ sha (padK k (UInt8.ofNat 54) ++ s)) (by rw [List.length_append,zGK,zFQ];omega))
 have p1:cfi pr 223 [.string (strOf k),.int .u8 92] h = _:=p1
 have p2:cfi pr 223 [.string (strOf k),.int .u8 54] h = _:=p2
 (repeat (first|refine zS ?_|refine zK ?_|refine zR ?_|refine zD ?_|refine zB ?_|refine zI ?_|refine zJ ?_|refine zP ?_|refine zE ?_|refine zG ?_|refine zF ?_|refine zH (by decide) ?_|refine zQ ?_|((first|refine zC ?_|refine zM ?_|refine zO rfl rfl ?_|refine zN rfl ?_|refine zL ?_);simp only [yq199.down,zA,lemS.down,lemC.down,zex,zew,zeu,reduceIte,zev,zey,zez,ze0,ze1,ze2,ze3,ze4,ze5,reduceCtorEq,p1,p2,c1,s1,c2,s2])))
 exact⟨.inr rfl,by (simp only [yq199.down,zA,lemS.down,lemC.down,zex,zew,zeu,reduceIte,zev,zey,zez,ze0,ze1,ze2,ze3,ze4,ze5,reduceCtorEq])<;>rfl,Grows.refl h⟩
def zDI (x:UInt8):List UInt8→List UInt8→UInt8
 | a :: l,b :: m=>zDI (x ||| (a ^^^ b)) l m
 | _,_=>x
theorem or_zero8 {x y:UInt8}:(x ||| y = 0)↔(x = 0∧y = 0):=by
 constructor
 ·intro h
  have e:x.toNat ||| y.toNat = 0:=by rw [← UInt8.toNat_or,h];rfl
  have:=Nat.or_eq_zero_iff.1 e
  exact⟨UInt8.toNat_inj.1 this.1,UInt8.toNat_inj.1 this.2⟩
 ·rintro⟨rfl,rfl⟩;rfl
theorem zMj:∀ (a b:List UInt8) (x:UInt8),a.length = b.length→(zDI x a b = 0↔x = 0∧a = b)
 | [],[],x,_=>by simp [zDI]
 | a :: l,b :: m,x,h=>by
  simp only [zDI]
  rw [zMj l m _ (by simpa using h),or_zero8,UInt8.xor_eq_zero_iff]
  simp only [List.cons.injEq]
  constructor
  ·rintro⟨⟨h1,h2⟩,h3⟩;exact⟨h1,h2,h3⟩
  ·rintro⟨h1,h2,h3⟩;exact⟨⟨h1,h2⟩,h3⟩
 | [],_ :: _,_,h=>by simp at h
 | _ :: _,[],_,h=>by simp at h
def zDo:List Value→Option Value
 | [.string a,.string b]=>if a.data.toList.length≤zU then some (.bool (a.data.toList == b.data.toList)) else none
 | _=>none
theorem sameS_at {a b:List UInt8} (h:a.length≤zU):zDo [.string (strOf a),.string (strOf b)] = some (.bool (a == b)):=by
 simp only [zDo,zBd,if_pos h]
theorem zGX (pr:Prog) (a b:List UInt8) (hr:a.length≤zU) (h:Heap):Comes pr xq212 [.string (strOf a),.string (strOf b)] h (.bool (a == b)):=by
 apply Comes.of
 unfold xq212
 dsimp only [zh]
 have hr64:zU = 140737488355328:=rfl
 (repeat (first|refine zS ?_|refine zK ?_|refine zR ?_|refine zD ?_|refine zB ?_|refine zI ?_|refine zJ ?_|refine zP ?_|refine zE ?_|refine zG ?_|refine zF ?_|refine zH (by decide) ?_|refine zQ ?_|((first|refine zC ?_|refine zM ?_|refine zO rfl rfl ?_|refine zN rfl ?_|refine zL ?_);simp only [yq212.down,zA,lemS.down,lemC.down,zex,zew,zeu,reduceIte,zev,zey,zez,ze0,ze1,ze2,ze3,ze4,ze5,reduceCtorEq,lemH.down,lemW.down])))
 refine ⟨fun hne=>?_,fun heq=>?_⟩
 ·(repeat (first|refine zS ?_|refine zK ?_|refine zR ?_|refine zD ?_|refine zB ?_|refine zI ?_|refine zJ ?_|refine zP ?_|refine zE ?_|refine zG ?_|refine zF ?_|refine zH (by decide) ?_|refine zQ ?_|((first|refine zC ?_|refine zM ?_|refine zO rfl rfl ?_|refine zN rfl ?_|refine zL ?_);simp only [yq212.down,zA,lemS.down,lemC.down,zex,zew,zeu,reduceIte,zev,zey,zez,ze0,ze1,ze2,ze3,ze4,ze5,reduceCtorEq,lemH.down,lemW.down])))
  refine ⟨.inr rfl,?_,Grows.refl h⟩
  simp only [yq212.down,zA,lemS.down,lemC.down,zex,zew,zeu,reduceIte,zev,zey,zez,ze0,ze1,ze2,ze3,ze4,ze5,reduceCtorEq]
  congr 1
  symm
  rw [beq_eq_false_iff_ne]
  rintro rfl
  exact hne rfl
 ·have hl:a.length = b.length:=by omega
  (repeat (first|refine zS ?_|refine zK ?_|refine zR ?_|refine zD ?_|refine zB ?_|refine zI ?_|refine zJ ?_|refine zP ?_|refine zE ?_|refine zG ?_|refine zF ?_|refine zH (by decide) ?_|refine zQ ?_|((first|refine zC ?_|refine zM ?_|refine zO rfl rfl ?_|refine zN rfl ?_|refine zL ?_);simp only [yq212.down,zA,lemS.down,lemC.down,zex,zew,zeu,reduceIte,zev,zey,zez,ze0,ze1,ze2,ze3,ze4,ze5,reduceCtorEq,lemH.down,lemW.down])))
  refine zAG (fun m t g=>∃ i x,m = a.length - i∧i≤a.length∧g = h∧zDI x (a.drop i) (b.drop i) = zDI 0 a b∧t.get 0 = .string (strOf a)∧t.get 1 = .string (strOf b)∧t.get 5 = uw .u8 x.toNat∧t.get 13 = .int .i64 (a.length:Int)∧t.get 14 = .int .i64 (i:Int)) ?_ a.length _ _ ⟨0,0,rfl,by omega,rfl,rfl,by simp only [yq212.down,zA,lemS.down,lemC.down,zex,zew,zeu,reduceIte,zev,zey,zez,ze0,ze1,ze2,ze3,ze4,ze5,reduceCtorEq],by simp only [yq212.down,zA,lemS.down,lemC.down,zex,zew,zeu,reduceIte,zev,zey,zez,ze0,ze1,ze2,ze3,ze4,ze5,reduceCtorEq],by (simp only [yq212.down,zA,lemS.down,lemC.down,zex,zew,zeu,reduceIte,zev,zey,zez,ze0,ze1,ze2,ze3,ze4,ze5,reduceCtorEq])<;>rfl,by simp only [yq212.down,zA,lemS.down,lemC.down,zex,zew,zeu,reduceIte,zev,zey,zez,ze0,ze1,ze2,ze3,ze4,ze5,reduceCtorEq],by (simp only [yq212.down,zA,lemS.down,lemC.down,zex,zew,zeu,reduceIte,zev,zey,zez,ze0,ze1,ze2,ze3,ze4,ze5,reduceCtorEq])<;>rfl⟩
  rintro m t g ⟨i,x,rfl,hi,rfl,hx,t0,t1,t5,t13,t14⟩ hnext
  refine xq212_9k ?_
  dsimp only [zJU]
  (repeat (first|refine zS ?_|refine zK ?_|refine zR ?_|refine zD ?_|refine zB ?_|refine zI ?_|refine zJ ?_|refine zP ?_|refine zE ?_|refine zG ?_|refine zF ?_|refine zH (by decide) ?_|refine zQ ?_|((first|refine zC ?_|refine zM ?_|refine zO rfl rfl ?_|refine zN rfl ?_|refine zL ?_);simp only [yq212.down,zA,lemS.down,lemC.down,zex,zew,zeu,reduceIte,zev,zey,zez,ze0,ze1,ze2,ze3,ze4,ze5,reduceCtorEq,lemH.down,lemW.down,t0,t1,t5,t13,t14])))
  refine ⟨fun hlt=>?_,fun hge=>?_⟩
  ·have hi':i < a.length:=by omega
   have ww:IntKind.i64.wrap ((i:Int) + 1) = ((i + 1:Nat):Int):=by rw [wrap_i64 (by omega) (by omega)];omega
   (repeat (first|refine zS ?_|refine zK ?_|refine zR ?_|refine zD ?_|refine zB ?_|refine zI ?_|refine zJ ?_|refine zP ?_|refine zE ?_|refine zG ?_|refine zF ?_|refine zH (by decide) ?_|refine zQ ?_|((first|refine zC ?_|refine zM ?_|refine zO rfl rfl ?_|refine zN rfl ?_|refine zL ?_);simp only [yq212.down,zA,lemS.down,lemC.down,zex,zew,zeu,reduceIte,zev,zey,zez,ze0,ze1,ze2,ze3,ze4,ze5,reduceCtorEq,lemH.down,lemW.down,t0,t1,t5,t13,t14,zLW hi',zLW (s:=b) (i:=i) (by omega),ww])))
   refine hnext (a.length - (i + 1)) _ _ (by omega) ⟨i + 1,x ||| (a.getD i 0 ^^^ b.getD i 0),rfl,by omega,rfl,?_,by simp only [yq212.down,zA,lemS.down,lemC.down,zex,zew,zeu,reduceIte,zev,zey,zez,ze0,ze1,ze2,ze3,ze4,ze5,reduceCtorEq,t0],by simp only [yq212.down,zA,lemS.down,lemC.down,zex,zew,zeu,reduceIte,zev,zey,zez,ze0,ze1,ze2,ze3,ze4,ze5,reduceCtorEq,t1],by simp only [yq212.down,zA,lemS.down,lemC.down,zex,zew,zeu,reduceIte,zev,zey,zez,ze0,ze1,ze2,ze3,ze4,ze5,reduceCtorEq];rw [UInt8.toNat_or,UInt8.toNat_xor],by simp only [yq212.down,zA,lemS.down,lemC.down,zex,zew,zeu,reduceIte,zev,zey,zez,ze0,ze1,ze2,ze3,ze4,ze5,reduceCtorEq,t13],by simp only [yq212.down,zA,lemS.down,lemC.down,zex,zew,zeu,reduceIte,zev,zey,zez,ze0,ze1,ze2,ze3,ze4,ze5,reduceCtorEq]⟩
   rw [← hx,List.drop_eq_getElem_cons (l:=a) hi',List.drop_eq_getElem_cons (l:=b) (show i < b.length by omega)]
   simp only [zDI,List.getD_eq_getElem?_getD,List.getElem?_eq_getElem hi',List.getElem?_eq_getElem (show i < b.length by omega),Option.getD_some]
  ·obtain rfl:i = a.length:=by omega
   rw [List.drop_of_length_le (Nat.le_refl _),List.drop_of_length_le (by omega)] at hx
   have hx':x = zDI 0 a b:=hx
   have hz:=zMj a b 0 hl
   rw [← hx'] at hz
   rw [show uw .u8 x.toNat = .int .u8 (x.toNat:Int) from zGm x] at t5
   (repeat (first|refine zS ?_|refine zK ?_|refine zR ?_|refine zD ?_|refine zB ?_|refine zI ?_|refine zJ ?_|refine zP ?_|refine zE ?_|refine zG ?_|refine zF ?_|refine zH (by decide) ?_|refine zQ ?_|((first|refine zC ?_|refine zM ?_|refine zO rfl rfl ?_|refine zN rfl ?_|refine zL ?_);simp only [yq212.down,zA,lemS.down,lemC.down,zex,zew,zeu,reduceIte,zev,zey,zez,ze0,ze1,ze2,ze3,ze4,ze5,reduceCtorEq,lemH.down,lemW.down,t5])))
   refine ⟨.inr rfl,?_,Grows.refl _⟩
   simp only [yq212.down,zA,lemS.down,lemC.down,zex,zew,zeu,reduceIte,zev,zey,zez,ze0,ze1,ze2,ze3,ze4,ze5,reduceCtorEq]
   congr 1
   by_cases e:a = b
   ·have hx0:=hz.2 ⟨rfl,e⟩
    rw [hx0,e];simp
   ·have:x≠0:=fun e'=>e (hz.1 e').2
    have:x.toNat≠0:=fun e'=>this (UInt8.toNat_inj.1 e')
    rw [show (a == b) = false by rw [beq_eq_false_iff_ne];exact e,beq_eq_false_iff_ne]
    omega
def zEw:List Value→Option Value
 | [.string k,.string s,.string t]=>if k.data.toList.length + 400≤zU∧s.data.toList.length + 500≤zU then some (.bool (mac k.data.toList s.data.toList == t.data.toList)) else none
 | _=>none
theorem check_ok (pr:Prog) (hs:pr.prim 212 = some (zf zDo)) (hp:pr.prim 199 = some (zf tagS)) (k s t:List UInt8) (hk:k.length + 400≤zU) (hs5:s.length + 500≤zU) (h:Heap):Comes pr xq216 [.string (strOf k),.string (strOf s),.string (strOf t)] h (.bool (mac k s == t)):=by
 apply Comes.of
 unfold xq216
 dsimp only [zh]
 (repeat (first|refine zS ?_|refine zK ?_|refine zR ?_|refine zD ?_|refine zB ?_|refine zI ?_|refine zJ ?_|refine zP ?_|refine zE ?_|refine zG ?_|refine zF ?_|refine zH (by decide) ?_|refine zQ ?_|((first|refine zC ?_|refine zM ?_|refine zO rfl rfl ?_|refine zN rfl ?_|refine zL ?_);simp only [yq216.down,zA,lemS.down,lemC.down,zex,zew,zeu,reduceIte,zev,zey,zez,ze0,ze1,ze2,ze3,ze4,ze5,reduceCtorEq,zAD hp (tagS_at hk hs5),zAD hs (sameS_at (show (mac k s).length≤zU by rw [mac_len];decide))])))
 exact⟨.inr rfl,by simp only [yq216.down,zA,lemS.down,lemC.down,zex,zew,zeu,reduceIte,zev,zey,zez,ze0,ze1,ze2,ze3,ze4,ze5,reduceCtorEq],Grows.refl h⟩
end Go.X
end
section
open Go Go.X
namespace Go.X
set_option linter.unusedVariables false
def zA5 (n:Nat):List UInt8:=[UInt8.ofNat (n / 16777216),UInt8.ofNat (n / 65536),UInt8.ofNat (n / 256),UInt8.ofNat n]
def partB (s:List UInt8):List UInt8:=zA5 s.length ++ s
def zAI (l:List (List UInt8)):List UInt8:=l.flatMap partB
def zIn (p:UInt8) (l:List (List UInt8)):List UInt8:=sha (p :: zAI l)
def zAj (l:List (List UInt8)):List Value:=l.map fun s=>.string (strOf s)
theorem zKs {l:List (List UInt8)}:(zAj l).length = l.length:=by simp [zAj]
theorem zKr {l:List (List UInt8)} {i:Nat} (hi:i < l.length):(zAj l)[i]? = some (.string (strOf (l.getD i []))):=by
 simp [zAj,List.getElem?_map,List.getElem?_eq_getElem hi,List.getD_eq_getElem?_getD]
def zC1:List Value→Option Value
 | [.int .i64 n]=>if 0≤n∧n < 9223372036854775808 then some (.string (strOf (zA5 n.toNat))) else none
 | _=>none
theorem zLM {n:Nat} (h:n < 9223372036854775808):zC1 [.int .i64 (n:Int)] = some (.string (strOf (zA5 n))):=by
 simp only [zC1]
 rw [if_pos (by omega)]
 simp
theorem zFz (n:Nat):zW (zA5 n) = [uw .u8 (n / 16777216),uw .u8 (n / 65536),uw .u8 (n / 256),uw .u8 n]:=by
 simp only [← zCv]
 rfl
theorem fill4' {z:Value} {a b c d:Nat}:zAB (List.replicate 4 z) [(0,1,uw .u8 a),(1,1,uw .u8 b),(2,1,uw .u8 c),(3,1,uw .u8 d)] = some [uw .u8 a,uw .u8 b,uw .u8 c,uw .u8 d]:=by simp [zAB,zEv,putN,List.replicate]
theorem shrI {k:IntKind} {n j:Nat} (hj:j≤64):binX .shr (.int .i64 (n:Int)) (.int k (OfNat.ofNat j)) = some (.int .i64 ((n / 2 ^ j:Nat):Int)):=by
 have e:(OfNat.ofNat j:Int) = (j:Int):=rfl
 rw [e,zKZ (by omega),Int.toNat_natCast,Nat.min_eq_left (show j≤IntKind.i64.bits from hj),Int.fdiv_eq_ediv_of_nonneg _ (by exact Int.le_of_lt (Int.pow_pos (by omega)))]
 simp
theorem four_ok (pr:Prog) (n:Nat) (hn:n < 9223372036854775808) (h:Heap):Comes pr xq196 [.int .i64 (n:Int)] h (.string (strOf (zA5 n))):=by
 apply Comes.of
 unfold xq196
 dsimp only [zh]
 have c:=fun n=>zCl (k:=.u8) (k':=.i64) zNG (n:=n)
 have hO:=Own.newSlice (h:=h) (l:=zW (zA5 n)) (n:=4) (esz:=1) (sp:=none) (by rw [zFz];rfl) (.inl rfl)
 have s24:=shrI (k:=.u64) (n:=n) (j:=24) (by decide)
 have s16:=shrI (k:=.u64) (n:=n) (j:=16) (by decide)
 have s8:=shrI (k:=.u64) (n:=n) (j:=8) (by decide)
 simp only [Nat.reducePow] at s24 s16 s8
 have hb:=hO.cb2s
 rw [zFz] at hb
 (repeat (first|refine zS ?_|refine zK ?_|refine zR ?_|refine zD ?_|refine zB ?_|refine zI ?_|refine zJ ?_|refine zP ?_|refine zE ?_|refine zG ?_|refine zF ?_|refine zH (by decide) ?_|refine zQ ?_|((first|refine zC ?_|refine zM ?_|refine zO rfl rfl ?_|refine zN rfl ?_|refine zL ?_);simp only [yq196.down,zA,lemS.down,lemC.down,zex,zew,zeu,reduceIte,zev,zey,zez,ze0,ze1,ze2,ze3,ze4,ze5,reduceCtorEq,lemH.down,lemW.down,s24,s16,s8,c,fill4',hb])))
 exact⟨.inr rfl,by simp only [yq196.down,zA,lemS.down,lemC.down,zex,zew,zeu,reduceIte,zev,zey,zez,ze0,ze1,ze2,ze3,ze4,ze5,reduceCtorEq],Grows.new⟩
end Go.X
end
section
open Go Go.X
namespace Go.X
set_option linter.unusedVariables false
theorem st_app (b s:List UInt8):absorb ((b.drop (64 * (b.length / 64)) ++ s).length / 64) (absorb (b.length / 64) Sha.H0 b) (b.drop (64 * (b.length / 64)) ++ s) = absorb ((b ++ s).length / 64) Sha.H0 (b ++ s) ∧
  (b.drop (64 * (b.length / 64)) ++ s).drop (64 * ((b.drop (64 * (b.length / 64)) ++ s).length / 64)) = (b ++ s).drop (64 * ((b ++ s).length / 64)):=by
 have hd:(b ++ s).drop (64 * (b.length / 64)) = b.drop (64 * (b.length / 64)) ++ s:=List.drop_append_of_le_length (by omega)
 have hl:(b.drop (64 * (b.length / 64)) ++ s).length = (b ++ s).length - 64 * (b.length / 64):=by rw [← hd,List.length_drop]
 have hn:(b ++ s).length / 64 = b.length / 64 + (b.drop (64 * (b.length / 64)) ++ s).length / 64:=by
  rw [hl,List.length_append];omega
 constructor
 ·rw [hn,zG3,zFe (b.length / 64) Sha.H0 b s (by omega),hd]
 ·rw [hn,Nat.mul_add,← List.drop_drop,hd]
def DigB (h:Heap) (N D:Nat) (b:List UInt8):Prop:=Dig h N D (absorb (b.length / 64) Sha.H0 b) (b.drop (64 * (b.length / 64))) b.length
theorem New_B {pr:Prog} (T:zCV pr) (h:Heap):∃ v h',cfi pr 194 [] h = some (v,h')∧v = .pointer (some ⟨h.next,0,none⟩)∧DigB h' h.next h.next []∧Grows h h':=zJ9 pr T.begin T.new T.newC h
theorem zG2 {pr:Prog} (T:zCV pr) {h:Heap} {N D:Nat} {b:List UInt8} (hd:DigB h N D b) (s:List UInt8) (hroom:s.length + 64≤zU) :
  ∃ v h',cfi pr 195 [.pointer (some ⟨D,0,none⟩),.string (strOf s)] h = some (v,h')∧v = .tuple #[]∧DigB h' N D (b ++ s)∧Keeps (fun A=>N≤A) h h':=by
 obtain⟨v,h',e,hv,d,k⟩:=zKG pr T.right T.words T.consts T.blk T.blkC T.wr T.wrC h N D _ _ _ s hd (by rw [List.length_drop];omega)
 rw [(st_app b s).1,(st_app b s).2,← List.length_append] at d
 exact⟨v,h',e,hv,d,k⟩
theorem Sum_B {pr:Prog} (T:zCV pr) {h:Heap} {N D:Nat} {b:List UInt8} (hd:DigB h N D b):∃ v h',cfi pr 197 [.pointer (some ⟨D,0,none⟩)] h = some (v,h')∧v = .string (strOf (sha b))∧Grows h h':=by
 have:=zKC pr T.right T.words T.consts T.blk T.blkC T.sum T.sumC h N D _ _ _ hd (by rw [List.length_drop];have:zU = 140737488355328:=rfl;omega)
 rw [zMq] at this
 exact this
def zEb:List Value→Option (List (List UInt8))
 | []=>some []
 | .string s :: r=>(match zEb r with|some l=>some (s.data.toList :: l)|none=>none)
 | _ :: _=>none
theorem zM3:∀ {cs:List Value} {l:List (List UInt8)},zEb cs = some l→cs = zAj l
 | [],l,h=>by cases h;rfl
 | c :: cs,l,h=>by
  unfold zEb at h
  split at h
  ·rename_i heq;cases heq
  ·rename_i s r heq
   cases heq
   split at h
   ·rename_i q hq
    cases h
    rw [zM3 hq]
    simp only [zAj,List.map_cons]
    rw [show strOf s.data.toList = s from zEc s]
   ·cases h
  ·cases h
def zDq (h:Heap):Value→Option (List (List UInt8))
 | .slice none n _=>if n = 0 then some [] else none
 | .slice (some a) n _=>if n = 0 then some [] else (match h.loadN a n with|some cs=>zEb cs|none=>none)
 | _=>none
theorem zHz {h:Heap} {a:Addr} {n:Nat} {l:List Value} (hl:h.loadN a n = some l):l.length = n:=by
 unfold Heap.loadN at hl
 split at hl
 ·rename_i c hc
  unfold zAm at hl
  cases hb:(a.off + n).ble c.cells.length with
  | false=>rw [hb] at hl;cases hl
  | true=>
   rw [hb] at hl
   cases hl
   have:=Nat.le_of_ble_eq_true hb
   simp;omega
 ·cases hl
theorem zM5 {h:Heap} {v:Value} {l:List (List UInt8)} (hs:zDq h v = some l):∃ a cap,v = .slice a l.length cap∧∀ i,i < l.length→∃ B o,(∀ k:IntKind,zA0 1 v (.int k (i:Int)) = some (.pointer (some ⟨B,o,none⟩)))∧h.load ⟨B,o,none⟩ = some (.string (strOf (l.getD i []))):=by
 unfold zDq at hs
 split at hs
 ·rename_i n c
  split at hs
  ·rename_i h0
   cases hs
   subst h0
   exact⟨none,c,rfl,fun i hi=>by simp at hi⟩
  ·cases hs
 ·rename_i a n c
  split at hs
  ·rename_i h0
   cases hs
   subst h0
   exact⟨some a,c,rfl,fun i hi=>by simp at hi⟩
  ·split at hs
   ·rename_i cs hcs
    obtain rfl:=zM3 hs
    have hn:l.length = n:=by
     have:=zHz hcs
     rw [zKs] at this
     exact this
    subst hn
    exact⟨some a,c,rfl,fun i hi=>⟨a.block,a.off + i,fun k=>zC2 hi,zFC hcs (zKr hi)⟩⟩
   ·cases hs
 ·cases hs
def zDs:Prim:=fun args h=>match args with
 | [.int .u8 p,v]=>(match zDq h v with
  | some l=>if 0≤p∧p < 256∧(zAI l).length + 1000≤zU then some (.string (strOf (zIn (UInt8.ofNat p.toNat) l)),h) else none
  | none=>none)
 | _=>none
theorem zGN {l:List (List UInt8)} {i:Nat} (hi:i < l.length):zAI (l.take (i + 1)) = zAI (l.take i) ++ zA5 (l.getD i []).length ++ l.getD i []:=by
 unfold zAI
 rw [List.take_succ_eq_append_getElem hi,List.flatMap_append,List.flatMap_cons,List.flatMap_nil,List.append_nil,List.append_assoc]
 simp [partB,List.getD_eq_getElem?_getD,List.getElem?_eq_getElem hi]
theorem zMJ {l:List (List UInt8)} {i:Nat} (hi:i < l.length):(l.getD i []).length + 4≤(zAI l).length:=by
 have h1:=zGN hi
 have h2:zAI l = zAI (l.take (i + 1)) ++ zAI (l.drop (i + 1)):=by
  unfold zAI;rw [← List.flatMap_append,List.take_append_drop]
 rw [h2,h1]
 simp [zA5]
 omega
theorem zMK {l:List (List UInt8)}:l.length * 4≤(zAI l).length:=by
 induction l with
 | nil=>simp
 | cons s l ih=>
  unfold zAI at ih ⊢
  simp only [List.flatMap_cons,List.length_append,List.length_cons,partB,zA5] at ih ⊢
  simp only [List.length_nil]
  omega
end Go.X
end
section
open Go Go.X
namespace Go.X
set_option linter.unusedVariables false
theorem zKd {p:Nat} (hp:p < 256) {h:Heap}:zCt (h.new [uw .u8 p]) (.slice (some ⟨h.next,0,none⟩) 1 1) = some (.string (strOf [UInt8.ofNat p])):=by
 have hO:=Own.newSlice (h:=h) (l:=zW [UInt8.ofNat p]) (n:=1) (esz:=1) (sp:=none) rfl (.inl rfl)
 have:=hO.cb2s
 rw [zCv] at this
 exact this
theorem zcx (pr:Prog) (T:zCV pr) (hf:pr.prim 196 = some (zf zC1)) (p:Nat) (hp:p < 256) (h:Heap) (wf:HWF h) (v:Value) (l:List (List UInt8)) (hs:zDq h v = some l) (hr:(zAI l).length + 1000≤zU) :
  Comes pr xq160 [uw .u8 p,v] h (.string (strOf (zIn (UInt8.ofNat p) l))):=by
 apply Comes.of
 unfold xq160
 dsimp only [zh]
 have hr64:zU = 140737488355328:=rfl
 obtain⟨a,cap,rfl,hel⟩:=zM5 hs
 obtain⟨_,h1,e1,rfl,d1,g1⟩:=New_B T h
 have g2:Grows h (h1.new [uw .u8 p]):=g1.trans Grows.new
 obtain⟨_,h3,e3,rfl,d3,k3⟩:=zG2 T (d1.keep (W:=zER) (Grows.new (l:=[uw .u8 p])).keeps (fun _ _=>id)) [UInt8.ofNat p] (by simp;omega)
 have g3:=g2.then k3 (fun A hA=>by omega)
 (repeat (first|refine zS ?_|refine zK ?_|refine zR ?_|refine zD ?_|refine zB ?_|refine zI ?_|refine zJ ?_|refine zP ?_|refine zE ?_|refine zG ?_|refine zF ?_|refine zH (by decide) ?_|refine zQ ?_|((first|refine zC ?_|refine zM ?_|refine zO rfl rfl ?_|refine zN rfl ?_|refine zL ?_);simp only [yq160.down,zA,lemS.down,lemC.down,zex,zew,zeu,reduceIte,zev,zey,zez,ze0,ze1,ze2,ze3,ze4,ze5,reduceCtorEq,lemH.down,lemW.down,e1,zKd hp,e3])))
 refine zAG (fun m t g=>∃ i,m = l.length - i∧i≤l.length∧DigB g h.next h.next (UInt8.ofNat p :: zAI (l.take i))∧Grows h g∧t.get 5 = .pointer (some ⟨h.next,0,none⟩)∧t.get 14 = .slice a l.length cap∧t.get 15 = .int .i64 (l.length:Int)∧t.get 16 = .int .i64 (i:Int)) ?_ l.length _ _ ⟨0,rfl,by omega,by simpa [zAI] using d3,g3,by simp only [yq160.down,zA,lemS.down,lemC.down,zex,zew,zeu,reduceIte,zev,zey,zez,ze0,ze1,ze2,ze3,ze4,ze5,reduceCtorEq],by simp only [yq160.down,zA,lemS.down,lemC.down,zex,zew,zeu,reduceIte,zev,zey,zez,ze0,ze1,ze2,ze3,ze4,ze5,reduceCtorEq],by simp only [yq160.down,zA,lemS.down,lemC.down,zex,zew,zeu,reduceIte,zev,zey,zez,ze0,ze1,ze2,ze3,ze4,ze5,reduceCtorEq],by (simp only [yq160.down,zA,lemS.down,lemC.down,zex,zew,zeu,reduceIte,zev,zey,zez,ze0,ze1,ze2,ze3,ze4,ze5,reduceCtorEq])<;>rfl⟩
 rintro m t g ⟨i,rfl,hi,gd,gg,t5,t14,t15,t16⟩ hnext
 refine xq160_9k ?_
 dsimp only [zJH]
 (repeat (first|refine zS ?_|refine zK ?_|refine zR ?_|refine zD ?_|refine zB ?_|refine zI ?_|refine zJ ?_|refine zP ?_|refine zE ?_|refine zG ?_|refine zF ?_|refine zH (by decide) ?_|refine zQ ?_|((first|refine zC ?_|refine zM ?_|refine zO rfl rfl ?_|refine zN rfl ?_|refine zL ?_);simp only [yq160.down,zA,lemS.down,lemC.down,zex,zew,zeu,reduceIte,zev,zey,zez,ze0,ze1,ze2,ze3,ze4,ze5,reduceCtorEq,lemH.down,lemW.down,t5,t14,t15,t16])))
 refine ⟨fun hlt=>?_,fun hge=>?_⟩
 ·have hi':i < l.length:=by omega
  have hpl:=zMJ hi'
  have hpc:=zMK (l:=l)
  have ww:IntKind.i64.wrap ((i:Int) + 1) = ((i + 1:Nat):Int):=by rw [wrap_i64 (by omega) (by omega)];omega
  obtain⟨B,o,ia,ld⟩:=hel i hi'
  have ld:=gg.load wf ld
  have f4:=zAD (h:=g) hf (zLM (n:=(l.getD i []).length) (by omega))
  obtain⟨_,h4,e4,rfl,d4,k4⟩:=zG2 T gd (zA5 (l.getD i []).length) (by simp [zA5];omega)
  obtain⟨_,h5,e5,rfl,d5,k5⟩:=zG2 T d4 (l.getD i []) (by omega)
  (repeat (first|refine zS ?_|refine zK ?_|refine zR ?_|refine zD ?_|refine zB ?_|refine zI ?_|refine zJ ?_|refine zP ?_|refine zE ?_|refine zG ?_|refine zF ?_|refine zH (by decide) ?_|refine zQ ?_|((first|refine zC ?_|refine zM ?_|refine zO rfl rfl ?_|refine zN rfl ?_|refine zL ?_);simp only [yq160.down,zA,lemS.down,lemC.down,zex,zew,zeu,reduceIte,zev,zey,zez,ze0,ze1,ze2,ze3,ze4,ze5,reduceCtorEq,lemH.down,lemW.down,t5,t14,t15,t16,zAs,ia,ld,f4,e4,e5,ww])))
  refine hnext (l.length - (i + 1)) _ _ (by omega) ⟨i + 1,rfl,by omega,?_,(gg.then k4 (fun A hA=>by omega)).then k5 (fun A hA=>by omega),by simp only [yq160.down,zA,lemS.down,lemC.down,zex,zew,zeu,reduceIte,zev,zey,zez,ze0,ze1,ze2,ze3,ze4,ze5,reduceCtorEq,t5],by simp only [yq160.down,zA,lemS.down,lemC.down,zex,zew,zeu,reduceIte,zev,zey,zez,ze0,ze1,ze2,ze3,ze4,ze5,reduceCtorEq,t14],by simp only [yq160.down,zA,lemS.down,lemC.down,zex,zew,zeu,reduceIte,zev,zey,zez,ze0,ze1,ze2,ze3,ze4,ze5,reduceCtorEq,t15],by simp only [yq160.down,zA,lemS.down,lemC.down,zex,zew,zeu,reduceIte,zev,zey,zez,ze0,ze1,ze2,ze3,ze4,ze5,reduceCtorEq]⟩
  rw [zGN hi']
  simpa using d5
 ·obtain rfl:i = l.length:=by omega
  rw [List.take_length] at gd
  obtain⟨_,h6,e6,rfl,g6⟩:=Sum_B T gd
  (repeat (first|refine zS ?_|refine zK ?_|refine zR ?_|refine zD ?_|refine zB ?_|refine zI ?_|refine zJ ?_|refine zP ?_|refine zE ?_|refine zG ?_|refine zF ?_|refine zH (by decide) ?_|refine zQ ?_|((first|refine zC ?_|refine zM ?_|refine zO rfl rfl ?_|refine zN rfl ?_|refine zL ?_);simp only [yq160.down,zA,lemS.down,lemC.down,zex,zew,zeu,reduceIte,zev,zey,zez,ze0,ze1,ze2,ze3,ze4,ze5,reduceCtorEq,lemH.down,lemW.down,t5,t14,t15,t16,e6])))
  exact⟨.inr rfl,by (simp only [yq160.down,zA,lemS.down,lemC.down,zex,zew,zeu,reduceIte,zev,zey,zez,ze0,ze1,ze2,ze3,ze4,ze5,reduceCtorEq])<;>rfl,gg.trans g6⟩
theorem zcT (pr:Prog) (hs9:pr.prim 220 = some (zf shaS)) (p:Nat) (hp:p < 256) (h:Heap) (wf:HWF h) (v:Value) (l:List (List UInt8)) (hs:zDq h v = some l) (hr:(zAI l).length + 1000≤zU) :
  Comes pr xq187 [uw .u8 p,v] h (.string (strOf (zIn (UInt8.ofNat p) l))):=by
 apply Comes.of
 unfold xq187
 dsimp only [zh]
 have hr64:zU = 140737488355328:=rfl
 obtain⟨a,cap,rfl,hel⟩:=zM5 hs
 have g1:Grows h (h.new [uw .u8 p]):=Grows.new
 (repeat (first|refine zS ?_|refine zK ?_|refine zR ?_|refine zD ?_|refine zB ?_|refine zI ?_|refine zJ ?_|refine zP ?_|refine zE ?_|refine zG ?_|refine zF ?_|refine zH (by decide) ?_|refine zQ ?_|((first|refine zC ?_|refine zM ?_|refine zO rfl rfl ?_|refine zN rfl ?_|refine zL ?_);simp only [yq187.down,zA,lemS.down,lemC.down,zex,zew,zeu,reduceIte,zev,zey,zez,ze0,ze1,ze2,ze3,ze4,ze5,reduceCtorEq,lemH.down,lemW.down,zKd hp])))
 generalize h.new [uw .u8 p] = h1 at *
 refine zAG (fun m t g=>∃ i,m = l.length - i∧i≤l.length∧Grows h g∧t.get 1 = .slice a l.length cap∧t.get 5 = .string (strOf (UInt8.ofNat p :: zAI (l.take i)))∧t.get 6 = .int .i64 (i:Int)) ?_ l.length _ _ ⟨0,rfl,by omega,g1,by simp only [yq187.down,zA,lemS.down,lemC.down,zex,zew,zeu,reduceIte,zev,zey,zez,ze0,ze1,ze2,ze3,ze4,ze5,reduceCtorEq],by (simp only [yq187.down,zA,lemS.down,lemC.down,zex,zew,zeu,reduceIte,zev,zey,zez,ze0,ze1,ze2,ze3,ze4,ze5,reduceCtorEq])<;>rfl,by (simp only [yq187.down,zA,lemS.down,lemC.down,zex,zew,zeu,reduceIte,zev,zey,zez,ze0,ze1,ze2,ze3,ze4,ze5,reduceCtorEq])<;>rfl⟩
 rintro m t g ⟨i,rfl,hi,gg,t1,t5,t6⟩ hnext
 refine xq187_7k ?_
 dsimp only [zJI]
 (repeat (first|refine zS ?_|refine zK ?_|refine zR ?_|refine zD ?_|refine zB ?_|refine zI ?_|refine zJ ?_|refine zP ?_|refine zE ?_|refine zG ?_|refine zF ?_|refine zH (by decide) ?_|refine zQ ?_|((first|refine zC ?_|refine zM ?_|refine zO rfl rfl ?_|refine zN rfl ?_|refine zL ?_);simp only [yq187.down,zA,lemS.down,lemC.down,zex,zew,zeu,reduceIte,zev,zey,zez,ze0,ze1,ze2,ze3,ze4,ze5,reduceCtorEq,lemH.down,lemW.down,t1,t5,t6])))
 have hple:(zAI (l.take i)).length≤(zAI l).length:=by
  have h2:zAI l = zAI (l.take i) ++ zAI (l.drop i):=by
   unfold zAI;rw [← List.flatMap_append,List.take_append_drop]
  rw [h2];simp
 refine ⟨fun hlt=>?_,fun hge=>?_⟩
 ·have hi':i < l.length:=by omega
  have hpl:=zMJ hi'
  have hpc:=zMK (l:=l)
  have ww:IntKind.i64.wrap ((i:Int) + 1) = ((i + 1:Nat):Int):=by rw [wrap_i64 (by omega) (by omega)];omega
  obtain⟨B,o,ia,ld⟩:=hel i hi'
  have ld0:=gg.load wf ld
  have q24:=zIU (k:=.i64) (a:=(l.getD i []).length) (b:=16777216) (by decide)
  have q16:=zIU (k:=.i64) (a:=(l.getD i []).length) (b:=65536) (by decide)
  have q8:=zIU (k:=.i64) (a:=(l.getD i []).length) (b:=256) (by decide)
  rw [wrap_i64 (by omega) (by omega)] at q24 q16 q8
  simp only [Int.cast_ofNat_Int] at q24 q16 q8
  have c:=fun n=>zCl (k:=.u8) (k':=.i64) zNG (n:=n)
  have hO:=Own.newSlice (h:=g) (l:=zW (zA5 (l.getD i []).length)) (n:=4) (esz:=1) (sp:=none) (by rw [zFz];rfl) (.inl rfl)
  have hb:=hO.cb2s
  have ld2:=(gg.trans (Grows.new (l:=zW (zA5 (l.getD i []).length)))).load wf ld
  rw [zFz] at hb ld2
  have fl:∀ n,(zA5 n).length = 4:=fun _=>rfl
  have cat1:=zEs (a:=zA5 (l.getD i []).length) (b:=l.getD i []) (by rw [fl];omega)
  have cat2:=zEs (a:=UInt8.ofNat p :: zAI (l.take i)) (b:=zA5 (l.getD i []).length ++ l.getD i []) (by
   have h3:(zAI (l.take i)).length + 4 + (l.getD i []).length≤(zAI l).length:=by
    have h2:zAI l = zAI (l.take (i + 1)) ++ zAI (l.drop (i + 1)):=by
     unfold zAI;rw [← List.flatMap_append,List.take_append_drop]
    rw [h2,zGN hi',List.length_append,List.length_append,List.length_append,fl]
    omega
   rw [List.length_append,List.length_cons,fl];omega)
  (repeat (first|refine zS ?_|refine zK ?_|refine zR ?_|refine zD ?_|refine zB ?_|refine zI ?_|refine zJ ?_|refine zP ?_|refine zE ?_|refine zG ?_|refine zF ?_|refine zH (by decide) ?_|refine zQ ?_|((first|refine zC ?_|refine zM ?_|refine zO rfl rfl ?_|refine zN rfl ?_|refine zL ?_);simp only [yq187.down,zA,lemS.down,lemC.down,zex,zew,zeu,reduceIte,zev,zey,zez,ze0,ze1,ze2,ze3,ze4,ze5,reduceCtorEq,lemH.down,lemW.down,t1,t5,t6,zAs,ia,ld0,q24,q16,q8,c,fill4',hb,ld2,cat1,cat2,ww])))
  refine hnext (l.length - (i + 1)) _ _ (by omega) ⟨i + 1,rfl,by omega,gg.trans Grows.new,by simp only [yq187.down,zA,lemS.down,lemC.down,zex,zew,zeu,reduceIte,zev,zey,zez,ze0,ze1,ze2,ze3,ze4,ze5,reduceCtorEq,t1],?_,by simp only [yq187.down,zA,lemS.down,lemC.down,zex,zew,zeu,reduceIte,zev,zey,zez,ze0,ze1,ze2,ze3,ze4,ze5,reduceCtorEq]⟩
  simp only [yq187.down,zA,lemS.down,lemC.down,zex,zew,zeu,reduceIte,zev,zey,zez,ze0,ze1,ze2,ze3,ze4,ze5,reduceCtorEq]
  rw [zGN hi']
  simp
 ·obtain rfl:i = l.length:=by omega
  rw [List.take_length] at t5
  have sm:=zAD (h:=g) hs9 (zGZ (s:=UInt8.ofNat p :: zAI l) (by simp;omega))
  (repeat (first|refine zS ?_|refine zK ?_|refine zR ?_|refine zD ?_|refine zB ?_|refine zI ?_|refine zJ ?_|refine zP ?_|refine zE ?_|refine zG ?_|refine zF ?_|refine zH (by decide) ?_|refine zQ ?_|((first|refine zC ?_|refine zM ?_|refine zO rfl rfl ?_|refine zN rfl ?_|refine zL ?_);simp only [yq187.down,zA,lemS.down,lemC.down,zex,zew,zeu,reduceIte,zev,zey,zez,ze0,ze1,ze2,ze3,ze4,ze5,reduceCtorEq,lemH.down,lemW.down,t1,t5,t6,sm])))
  exact⟨.inr rfl,by (simp only [yq187.down,zA,lemS.down,lemC.down,zex,zew,zeu,reduceIte,zev,zey,zez,ze0,ze1,ze2,ze3,ze4,ze5,reduceCtorEq])<;>rfl,gg⟩
end Go.X
end
section
open Go Go.X Go.Proofs Go.RowKit
namespace Go.X
set_option linter.unusedVariables false
def trueS:List Value→Option Value
 | []=>some (.bool true)
 | _=>none
theorem mixed:Tryz.prog.follows .mixedOrders = true:=by kernel_rfl
theorem zr {P:Program} {l:List (Nat×Prim)} {f:Nat} {fn:Func} {F:XF} (hf:P.funcs[f]? = some fn) (hF:zg P fn = some F):(Tab P l).code f = some F:=by
 simp only [Tab,hf,Option.bind_some,hF]
theorem zbz {h:Heap} {a:Addr} {n:Nat} {l:List Value} (hl:h.loadN a n = some l):l.length = n:=by
 unfold Heap.loadN at hl
 split at hl
 ·rename_i c hc
  unfold zAm at hl
  cases hb:(a.off + n).ble c.cells.length with
  | false=>rw [hb] at hl;cases hl
  | true=>
   rw [hb] at hl
   cases hl
   have:=Nat.le_of_ble_eq_true hb
   simp;omega
 ·cases hl
theorem Tab.words {P:Program} {l:List (Nat×Prim)} (ok:XOK P (Tab P l)) {f:Nat} {fn:Func} (hf:P.funcs[f]? = some fn) (hF:zg P fn = some xq246) (hp:(Tab P l).prim 247 = some (zf zBX)):XOK P (Tab P ((f,zCT) :: l)):=by
 refine Tab.cons ok fun args h v h' hr=>?_
 unfold zCT at hr
 split at hr
 ·rename_i a cap
  split at hr
  ·rename_i cs hcs
   split at hr
   ·rename_i bs hbs
    cases hr
    refine ⟨zHJ hf hF,Nat.le_refl _,zHK ok hf hF rfl (fun _ _ _ _ _ _=>⟨_,zDZ (v:=.agg _) ?_⟩) fun n hn wf=>?_⟩
    ·show ((List.map (uw IntKind.u32) _).toArray.toList.all zAR) = true
     rw [List.all_eq_true]
     intro x hx
     simp only [List.mem_map] at hx
     obtain⟨y,_,rfl⟩:=hx
     rfl
    ·have hld:∀ j,j < 64→(h.at n).load ⟨a.block,a.off + j,none⟩ = some (uw .u8 (bs.getD j 0).toNat):=by
      intro j hj
      obtain rfl:=zKg hbs
      have hlen:(zW bs).length = 64:=zbz hcs
      rw [zCF] at hlen
      exact zFC (show (h.at n).loadN a 64 = some (zW bs) from hcs) (zFt (by omega))
     exact words_ok (Tab P l) hp (h.at n) wf a cap _ (fun j=>(bs.getD j 0).toNat_lt) hld
   ·cases hr
  ·cases hr
 ·cases hr
end Go.X
namespace Go.X
set_option linter.unusedVariables false
theorem zIZ {args:List Value} {v:Value} (h:zDm args = some v):args.length = 2∧zAN v = true∧∀ pr h,Comes pr xq268 args h v:=by
 unfold zDm at h
 split at h
 ·rename_i a n
  split at h
  ·rename_i hc
   cases h
   refine ⟨rfl,rfl,fun pr h=>?_⟩
   have:=rotl_ok pr a.toNat (-n).toNat h (by omega) (by omega)
   rw [show -((-n).toNat:Int) = n by omega] at this
   have e:uw .u32 a.toNat = .int .u32 a:=by unfold uw;rw [zB5,Nat.mod_eq_of_lt (by omega)];congr 1;omega
   rw [e] at this
   exact this
  ·cases h
 ·cases h
theorem zIX {args:List Value} {v:Value} (h:zBX args = some v):args.length = 2∧zAN v = true∧∀ pr h,pr.prim 268 = some (zf zDm)→Comes pr xq247 args h v:=by
 unfold zBX at h
 split at h
 ·rename_i a n
  split at h
  ·rename_i hc
   cases h
   refine ⟨rfl,rfl,fun pr h hp=>?_⟩
   have:=right_ok pr hp a.toNat n.toNat h (by omega)
   rw [show (n.toNat:Int) = n by omega] at this
   have e:uw .u32 a.toNat = .int .u32 a:=by unfold uw;rw [zB5,Nat.mod_eq_of_lt (by omega)];congr 1;omega
   rw [e] at this
   exact this
  ·cases h
 ·cases h
theorem zIr {args:List Value} {v:Value} (h:zCR args = some v):args.length = 2∧zAN v = true∧∀ pr h,Comes pr xq244 args h v:=by
 unfold zCR at h
 split at h
 ·rename_i a n
  split at h
  ·rename_i hc
   cases h
   refine ⟨rfl,rfl,fun pr h=>?_⟩
   have:=turn_ok pr a.toNat n.toNat h (by omega)
   rw [show (n.toNat:Int) = n by omega] at this
   have e:uw .u32 a.toNat = .int .u32 a:=by unfold uw;rw [zB5,Nat.mod_eq_of_lt (by omega)];congr 1;omega
   rw [e] at this
   exact this
  ·cases h
 ·cases h
theorem zCP (s:ByteArray):strOf s.data.toList = s:=zEc s
theorem zEY {args:List Value} {v:Value} (h:shaS args = some v):args.length = 1∧zAN v = true∧(∀ pr h,zCV pr→Comes pr xq179 args h v)∧(∀ pr h,pr.prim 244 = some (zf zCR)→pr.prim 243 = some (zf zFV)→Comes pr xq220 args h v):=by
 unfold shaS at h
 split at h
 ·rename_i s
  split at h
  ·rename_i hc
   cases h
   refine ⟨rfl,rfl,fun pr h T=>?_,fun pr h h1 h2=>?_⟩
   ·have:=zce pr T s.data.toList hc h
    rwa [zCP] at this
   ·have:=zcK pr h1 h2 s.data.toList hc h
    rwa [zCP] at this
  ·cases h
 ·cases h
theorem zIR {args:List Value} {v:Value} (h:padS args = some v):args.length = 2∧zAN v = true∧∀ pr h,pr.prim 179 = some (zf shaS)→pr.prim 248 = some (zf zDl)→Comes pr xq223 args h v:=by
 unfold padS at h
 split at h
 ·rename_i k b
  split at h
  ·rename_i hc
   cases h
   refine ⟨rfl,rfl,fun pr h h1 h2=>?_⟩
   have:=pad_ok pr h1 h2 k.data.toList (UInt8.ofNat b.toNat) hc.1 h
   rw [zCP] at this
   have e:uw .u8 (UInt8.ofNat b.toNat).toNat = .int .u8 b:=by
    rw [zGm,UInt8.toNat_ofNat']
    congr 1;omega
   rw [e] at this
   exact this
  ·cases h
 ·cases h
theorem zIm {args:List Value} {v:Value} (h:tagS args = some v):args.length = 2∧zAN v = true∧(∀ pr h,pr.prim 179 = some (zf shaS)→pr.prim 223 = some (zf padS)→Comes pr xq199 args h v):=by
 unfold tagS at h
 split at h
 ·rename_i k s
  split at h
  ·rename_i hc
   cases h
   refine ⟨rfl,rfl,fun pr h h1 h2=>?_⟩
   have:=tag_ok pr h1 h2 k.data.toList s.data.toList hc.1 hc.2 h
   rwa [zCP,zCP] at this
  ·cases h
 ·cases h
theorem zIf {args:List Value} {v:Value} (h:zDo args = some v):args.length = 2∧zAN v = true∧∀ pr h,Comes pr xq212 args h v:=by
 unfold zDo at h
 split at h
 ·rename_i a b
  split at h
  ·rename_i hc
   cases h
   refine ⟨rfl,rfl,fun pr h=>?_⟩
   have:=zGX pr a.data.toList b.data.toList hc h
   rwa [zCP,zCP] at this
  ·cases h
 ·cases h
theorem zHO {args:List Value} {v:Value} (h:zEw args = some v):args.length = 3∧zAN v = true∧∀ pr h,pr.prim 212 = some (zf zDo)→pr.prim 199 = some (zf tagS)→Comes pr xq216 args h v:=by
 unfold zEw at h
 split at h
 ·rename_i k s t
  split at h
  ·rename_i hc
   cases h
   refine ⟨rfl,rfl,fun pr h h1 h2=>?_⟩
   have:=check_ok pr h1 h2 k.data.toList s.data.toList t.data.toList hc.1 hc.2 h
   rwa [zCP,zCP,zCP] at this
  ·cases h
 ·cases h
theorem zIC {args:List Value} {v w:Value} {s:List Value→Option Value} (hs:∀ a l,s (a :: l) = none) (hw:s [] = some w) (h:s args = some v):args = []∧v = w:=by
 cases args with
 | nil=>rw [hw] at h;exact⟨rfl,(Option.some.inj h).symm⟩
 | cons a l=>rw [hs] at h;cases h
theorem zas {P:Program} {f:Nat} {args:List Value} {v:Value} (ha:args.all zAN = true) (hv:zAN v = true) (hc:∀ w,Calls P f args.toArray w fun e w'=>e = .returned v∧Below w.heap.size w w') (h:Heap):zCm P f args h v h:=by
 intro base ρ w args' hr wf hpre hargs
 have e:args' = args:=by
  clear hr hpre hc
  induction hargs with
  | nil=>rfl
  | cons h1 _ ih=>
   simp only [List.all_cons,Bool.and_eq_true] at ha
   rw [zFy ha.1 h1,ih ha.2]
 subst e
 refine (hc w).mono fun e w' hq=>?_
 obtain⟨rfl,q3⟩:=hq
 exact⟨_,ρ,rfl,hr.below q3,wf,⟨fun _ _ h=>h,fun _ h=>absurd rfl h,Nat.le_refl _,fun _ _ h=>h,fun _ _ _=>⟨rfl,rfl⟩,q3.mono hr.le,fun r h1 _=>q3.block r h1,fun A l h1 h2=>by rw [h1] at h2;cases h2⟩,zDZ hv⟩
theorem Tab.below {P:Program} {l:List (Nat×Prim)} (ok:XOK P (Tab P l)) {f:Nat} (hcall:zBt P f) {s:List Value→Option Value}
  (hs:∀ args v,s args = some v→args.all zAN = true∧zAN v = true∧∀ w,Calls P f args.toArray w fun e w'=>e = .returned v∧Below w.heap.size w w'):XOK P (Tab P ((f,zf s) :: l)):=by
 refine Tab.cons ok fun args h v h' hr=>?_
 unfold zf at hr
 split at hr
 ·rename_i v1 hv
  cases hr
  obtain⟨h1,h2,h3⟩:=hs args v hv
  exact⟨hcall,Nat.le_refl _,zas h1 h2 h3 h⟩
 ·cases hr
end Go.X
end
