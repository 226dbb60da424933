/- A state: its texts, one behind the other, and its bytes. -/
import Derived.Test.YtnppabpbdobaiaaGreatProg
import Derived.KernelRfl
import Derived.Test.YtnppabpbdobaiaaGreatXC
import Derived.Test.YtnppabpbdobaiaaGreatXH
import Derived.Test.YtnppabpbdobaiaaGreatXK
import Derived.Test.YtnppabpbdobaiaaGreatXL
set_option linter.unusedSimpArgs false
set_option linter.unusedVariables false
set_option maxHeartbeats 2000000
open Nat renaming reduceLeDiff → zam, reduceEqDiff → zan, reduceAdd → zao
open Int renaming reduceBEq → zap, reduceLT → zaq, reduceLE → zar, reduceGT → zas, reduceGE → zat, reduceEq → zau, reduceAdd → zav, reduceSub → zaw, reduceMul → zax
section
open Go Go.X Go.Proofs Go.RowKit
namespace Go.X
set_option linter.unusedVariables false
abbrev KV:=List UInt8×List UInt8
def kvV (q:KV):Value×Value:=(.string (strOf q.1),.string (strOf q.2))
theorem zK0:∀a b:List UInt8,Op.bytesLess a b=decide (a<b)
 | a,[]=>by simp[Op.bytesLess]
 | [],b::bs=>by simp[Op.bytesLess]
 | a::as',b::bs=>by
  simp only[Op.bytesLess,zK0 as' bs,List.cons_lt_cons_iff]
  by_cases h1:a<b<;>by_cases h2:a=b<;>simp[h1,h2]
def Rise (l:List KV):Prop:=(l.map (·.1)).Pairwise (· < ·)
theorem Rise.snoc {l:List KV} (h:Rise l) {q:KV} (hq:∀x∈l,x.1<q.1):Rise (l++[q]):=by
 unfold Rise at *
 rw[List.map_append,List.pairwise_append]
 refine⟨h,List.pairwise_singleton _ _,fun a ha b hb=>?_⟩
 obtain⟨x,hx,rfl⟩:=List.mem_map.1 ha
 obtain rfl:b=q.1:=by simpa using hb
 exact hq x hx
theorem Rise.last {l:List KV} (h:Rise l) {q k:List UInt8} (hl:l≠[]→(l.map (·.1)).getLast?=some q) (hk:q<k) (he:l=[]→True):∀x∈l,x.1<k:=by
 intro x hx
 have hne:l≠[]:=fun e=>by rw[e] at hx;cases hx
 have hq:=hl hne
 obtain⟨m,z,rfl⟩:∃m z,l=m++[z]:=⟨l.dropLast,l.getLast hne,(List.dropLast_concat_getLast hne).symm⟩
 have hz:z.1=q:=by simpa using hq
 rcases List.mem_append.1 hx with hx|hx
 ·have:=h
  unfold Rise at this
  rw[List.map_append,List.pairwise_append] at this
  have:=this.2.2 x.1 (List.mem_map_of_mem hx) z.1 (by simp)
  rw[hz] at this
  exact List.lt_trans this hk
 ·obtain rfl:x=z:=by simpa using hx
  rw[hz];exact hk
theorem Rise.nodup {l:List KV} (h:Rise l):(l.map (·.1)).Nodup:=h.imp fun {a b} hab e=>by subst e;exact List.lt_irrefl _ hab
theorem zYc {l:List KV} (h:Rise l):zCK (l.map (·.1))=l.map (·.1):=by
 refine List.Perm.eq_of_pairwise (le:=(·≤·)) (fun a b _ _ h1 h2=>List.le_antisymm h1 h2) (zHj _) (h.imp fun {a b} hab=>List.le_of_lt hab) (zFq _)
theorem zYx {l:List (List UInt8)} (h:l.Nodup):zCN l=true:=by
 induction l with
 | nil=>rfl
 | cons x l ih =>
  rw[List.nodup_cons] at h
  simp only[zCN,Bool.and_eq_true,Bool.not_eq_true',List.any_eq_false]
  exact⟨fun y hy e=>h.1 (by rw[eq_of_beq e];exact hy),ih h.2⟩
theorem zZi (l:List KV):zDY (l.map kvV)=some (l.map (·.1)):=by
 induction l with
 | nil=>rfl
 | cons q l ih =>
  show (match zDY (l.map kvV) with|some l=>some ((strOf q.1).data.toList::l)|none=>none)=_
  rw[ih,zAk]
  rfl
def MapK (h:Heap) (R:Nat) (l:List KV) (st:Option (List Nat×Nat)):Prop:=h.blks.get R=some (.map (l.map kvV) st)∧R<h.next
theorem MapK.keep {W:Nat→Prop} {h h1:Heap} {R:Nat} {l:List KV} {st:Option (List Nat×Nat)} (hm:MapK h R l st) (hk:Keeps W h h1) (hR:¬W R):MapK h1 R l st:=⟨by rw[hk.blks R hm.2 hR];exact hm.1,Nat.lt_of_lt_of_le hm.2 hk.next⟩
theorem MapK.grow {h h1:Heap} {R:Nat} {l:List KV} {st:Option (List Nat×Nat)} (hm:MapK h R l st) (hk:Grows h h1):MapK h1 R l st:=hm.keep (W:=zCq) hk.keeps id
def StK (n:Nat) (bs:List Nat) (c:Nat):Prop:=bs.length=n∧bs.Nodup∧∀b∈bs,b<c
def getK (k:List UInt8):List KV→Nat→Option (Nat×List UInt8)
 | [],_=>none
 | q::l,i=>if k=q.1 then some (i,q.2) else getK k l (i+1)
theorem zFj (k:List UInt8):∀ (l:List KV) (i:Nat),zA7 .str (.string (strOf k)) (l.map kvV) i=some ((getK k l i).map fun r=>(r.1,Value.string (strOf r.2)))
 | [],i=>rfl
 | q::l,i=>by
  show (match eqX .str (.string (strOf k)) (.string (strOf q.1)) with|some true=>some (some (i,Value.string (strOf q.2)))|some false=>zA7 .str (.string (strOf k)) (l.map kvV) (i+1)|none=>none)=_
  have e:eqX .str (.string (strOf k)) (.string (strOf q.1))=some (k==q.1):=by simp[eqX,zAk]
  rw[e]
  by_cases h:k=q.1
  ·rw[show (k==q.1)=true by simp[h]]
   simp only[getK,if_pos h];rfl
  ·rw[show (k==q.1)=false by simp[h]]
   simp only[getK,if_neg h]
   exact zFj k l (i+1)
theorem zKd {k:List UInt8}:∀ {l:List KV} {i:Nat},(∀x∈l,x.1≠k)→getK k l i=none
 | [],_,_=>rfl
 | q::l,i,h=>by
  simp only[getK]
  rw[if_neg fun e=>h q (by simp) e.symm]
  exact zKd fun x hx=>h x (List.mem_cons_of_mem _ hx)
theorem getK_at {l:List KV} (h:(l.map (·.1)).Nodup):∀ {j:Nat} {q:KV} {i:Nat},l[j]?=some q→getK q.1 l i=some (i+j,q.2):=by
 induction l with
 | nil=>intro j q i h;simp at h
 | cons x l ih =>
  intro j q i hj
  rw[List.map_cons,List.nodup_cons] at h
  cases j with
  | zero =>
   obtain rfl:x=q:=by simpa using hj
   simp[getK]
  | succ j =>
   have hj:l[j]?=some q:=by simpa using hj
   have hne:q.1≠x.1:=fun e=>h.1 (by rw[←e];exact List.mem_map_of_mem (List.mem_of_getElem? hj))
   simp only[getK,if_neg hne]
   rw[ih h.2 hj]
   congr 2;omega
theorem zKc {k:List UInt8}:∀ {l:List KV} {i j:Nat} {v:List UInt8},getK k l i=some (j,v)→i≤j∧j<i+l.length
 | [],_,_,_,h=>by cases h
 | q::l,i,j,v,h=>by
  simp only[getK] at h
  split at h
  ·cases h;simp
  ·have:=zKc h
   simp only[List.length_cons];omega
def zFv (h:Heap) (z:Value) (ok:Bool) (k:EqK) (m key:Value):Option Value:=match m with
 | .map none=>some (if ok then .tuple #[z,.bool false] else z)
 | .map (some r)=>(match h.blks.get r with
  | some (.map es _)=>(match zA7 k key es 0 with
   | some (some (_,v))=>some (if ok then .tuple #[v,.bool true] else v)
   | some none=>some (if ok then .tuple #[z,.bool false] else z)
   | none=>none)
  | _=>none)
 | _=>none
theorem zY7 {t:Fr} {h:Heap} {z:Value} {ok:Bool} {k:EqK} {m key:Operand}:zk t h (.lookup z ok k m key)=zFv h z ok k (t.eval m) (t.eval key):=by
 simp only[zk,zFv]
 cases t.eval m<;>rfl
theorem zYj {h:Heap} {R:Nat} {l:List KV} {st:Option (List Nat×Nat)} (hm:MapK h R l st) (hn:(l.map (·.1)).Nodup) {j:Nat} {q:KV} (hj:l[j]?=some q) {z:Value}:zFv h z false .str (.map (some R)) (.string (strOf q.1))=some (.string (strOf q.2)):=by
 simp only[zFv,hm.1,zFj,getK_at hn hj]
 rfl
def lenMV (h:Heap) (m:Value):Option Value:=match m with
 | .map none=>some (.int .i64 0)
 | .map (some r)=>match h.blks.get r with|some (.map es _)=>some (.int .i64 es.length)|_=>none
 | _=>none
theorem r_lenMV {t:Fr} {h:Heap} {m:Operand}:zk t h (.lenM m)=lenMV h (t.eval m):=by
 simp only[zk,lenMV]
 cases t.eval m<;>rfl
theorem lenMV_kv {h:Heap} {R:Nat} {l:List KV} {st:Option (List Nat×Nat)} (hm:MapK h R l st):lenMV h (.map (some R))=some (.int .i64 (l.length:Int)):=by
 simp only[lenMV,hm.1,List.length_map]
def zCn (h:Heap) (zero:Value) (k:EqK) (m key:Value):Option (Value×Heap):=match m with
 | .map (some r)=>match h.blks.get r with
  | some (.map es (some (bs,c)))=>(match zA7 k key es 0 with
   | some (some (i,v))=>(match es[i]? with
    | some en=>some (.tuple #[v,.int .i64 (bs.getD i 0:Nat)],h.setBlk r (.map (es.set i (key,en.2)) (some (bs,c))))
    | none=>none)
   | some none=>some (.tuple #[zero,.int .i64 (c:Int)],h.setBlk r (.map (es++[(key,zero)]) (some (bs++[c],c+1))))
   | none=>none)
  | _=>none
 | _=>none
theorem zFc {t:Fr} {h:Heap} {z:Value} {k:EqK} {m key:Operand}:effX t h (.mentry z k m key)=zCn h z k (t.eval m) (t.eval key):=by
 simp only[effX,zCn]
 cases t.eval m<;>rfl
def zCf (h:Heap) (m stamp v:Value):Option (Value×Heap):=match m,stamp with
 | .map (some r),.int .i64 n=>match h.blks.get r with
  | some (.map es (some (bs,c)))=>(match bs.findIdx? (fun b:Nat=>((b:Nat):Int)==n) with
   | some i=>(match es[i]? with
    | some e=>some (.tuple #[],h.setBlk r (.map (es.set i (e.1,v)) (some (bs,c))))
    | none=>none)
   | none=>none)
  | _=>none
 | _,_=>none
theorem zFb {t:Fr} {h:Heap} {m stamp v:Operand}:effX t h (.estore m stamp v)=zCf h (t.eval m) (t.eval stamp) (t.eval v):=by
 simp only[effX,zCf]
 cases t.eval m<;>rfl
end Go.X
end
section
open Go Go.X Go.Proofs Go.RowKit
namespace Go.X
set_option linter.unusedVariables false
theorem Keeps.setBlk {h:Heap} {R:Nat} {b:Blk}:Keeps (fun A=>A=R) h (h.setBlk R b):=⟨Nat.le_refl _,fun A _ hn=>PT.get_set_ne _ _ hn,fun A _ _=>rfl⟩
theorem zC3 {h:Heap} {R:Nat} {b:Blk}:(h.setBlk R b).blks.get R=some b:=PT.get_set_eq _ _ _
theorem zX4 {h:Heap} {R:Nat} {l:List KV} {bs:List Nat} {c:Nat} (hm:MapK h R l (some (bs,c))) (hs:StK l.length bs c) (k v:List UInt8) :
  ∃x n h1 h2 l' bs' c',zCn h (.string (strOf [])) .str (.map (some R)) (.string (strOf k))=some (.tuple #[x,.int .i64 ((n:Nat):Int)],h1)∧zCf h1 (.map (some R)) (.int .i64 ((n:Nat):Int)) (.string (strOf v))=some (.tuple #[],h2)∧MapK h2 R l' (some (bs',c'))∧StK l'.length bs' c'∧((∀x∈l,x.1≠k)→l'=l++[(k,v)])∧Keeps (fun A=>A=R) h h2:=by
 have hk2:∀b b2:Blk,Keeps (fun A=>A=R) h ((h.setBlk R b).setBlk R b2):=fun b b2=>Keeps.trans Keeps.setBlk Keeps.setBlk fun _ _ e=>e
 obtain⟨s1,s2,s3⟩:=hs
 cases hg:getK k l 0 with
 | none =>
  have e1:zCn h (.string (strOf [])) .str (.map (some R)) (.string (strOf k))=some (.tuple #[.string (strOf []),.int .i64 (c:Int)],h.setBlk R (.map (l.map kvV++[(.string (strOf k),.string (strOf []))]) (some (bs++[c],c+1)))):=by
   simp only[zCn,hm.1,zFj,hg];rfl
  have fi:(bs++[c]).findIdx? (fun b:Nat=>((b:Nat):Int)==(c:Int))=some l.length:=by
   rw[List.findIdx?_eq_some_iff_getElem]
   refine⟨by simp[s1],by simp[←s1],fun j hj=>?_⟩
   have hj2:j<bs.length:=by omega
   rw[List.getElem_append_left hj2]
   have:=s3 _ (List.getElem_mem hj2)
   simp;omega
  have e2:zCf (h.setBlk R (.map (l.map kvV++[(.string (strOf k),.string (strOf []))]) (some (bs++[c],c+1)))) (.map (some R)) (.int .i64 (c:Int)) (.string (strOf v))=some (.tuple #[],(h.setBlk R (.map (l.map kvV++[(.string (strOf k),.string (strOf []))]) (some (bs++[c],c+1)))).setBlk R (.map ((l++[(k,v)]).map kvV) (some (bs++[c],c+1)))):=by
   simp only[zCf,zC3,fi]
   rw[show (l.map kvV++[((.string (strOf k):Value),(.string (strOf []):Value))])[l.length]?=some (.string (strOf k),.string (strOf [])) by rw[List.getElem?_append_right (by simp)];simp]
   simp only[Option.some.injEq,Prod.mk.injEq,true_and]
   congr 2
   rw[List.set_append_right _ _ (by simp)]
   simp[kvV]
  refine⟨_,c,_,_,l++[(k,v)],bs++[c],c+1,e1,e2,⟨zC3,hm.2⟩,⟨by simp[s1],?_,fun b hb=>?_⟩,fun _=>rfl,hk2 _ _⟩
  ·refine List.nodup_append.2 ⟨s2,by simp,fun a ha b hb e=>?_⟩
   have h1:=s3 a ha
   have h2:b=c:=by simpa using hb
   omega
  ·rcases List.mem_append.1 hb with hb|hb
   ·have:=s3 b hb;omega
   ·have h2:b=c:=by simpa using hb
    omega
 | some r =>
  obtain⟨j,v0⟩:=r
  have hj:=zKc hg
  have hj2:j<l.length:=by omega
  have hj3:j<bs.length:=by omega
  have e1:zCn h (.string (strOf [])) .str (.map (some R)) (.string (strOf k))=some (.tuple #[.string (strOf v0),.int .i64 ((bs[j]:Nat):Int)],h.setBlk R (.map ((l.map kvV).set j (.string (strOf k),.string (strOf l[j].2))) (some (bs,c)))):=by
   simp only[zCn,hm.1,zFj,hg,Option.map_some]
   rw[show (l.map kvV)[j]?=some (kvV l[j]) by simp[hj2]]
   simp only[List.getD_eq_getElem?_getD,List.getElem?_eq_getElem hj3,Option.getD_some]
   rfl
  have fi:bs.findIdx? (fun b:Nat=>((b:Nat):Int)==((bs[j]:Nat):Int))=some j:=by
   rw[List.findIdx?_eq_some_iff_getElem]
   refine⟨hj3,by simp,fun i hi=>?_⟩
   intro e
   have e:bs[i]=bs[j]:=by
    have:=eq_of_beq e
    omega
   exact List.pairwise_iff_getElem.1 s2 i j (by omega) hj3 hi e
  have e2:zCf (h.setBlk R (.map ((l.map kvV).set j (.string (strOf k),.string (strOf l[j].2))) (some (bs,c)))) (.map (some R)) (.int .i64 ((bs[j]:Nat):Int)) (.string (strOf v))=some (.tuple #[],(h.setBlk R (.map ((l.map kvV).set j (.string (strOf k),.string (strOf l[j].2))) (some (bs,c)))).setBlk R (.map ((l.set j (k,v)).map kvV) (some (bs,c)))):=by
   simp only[zCf,zC3,fi]
   rw[show ((l.map kvV).set j ((.string (strOf k):Value),(.string (strOf l[j].2):Value)))[j]?=some (.string (strOf k),.string (strOf l[j].2)) by simp[hj2]]
   simp only[Option.some.injEq,Prod.mk.injEq,true_and]
   congr 2
   rw[List.set_set,List.map_set]
   rfl
  refine⟨_,bs[j],_,_,l.set j (k,v),bs,c,e1,e2,⟨zC3,hm.2⟩,⟨by simp[s1],s2,s3⟩,fun hn=>?_,hk2 _ _⟩
  rw[zKd hn] at hg;cases hg
theorem map_new {h:Heap}:MapK (h.newMap) h.next [] (some ([],0)):=⟨PT.get_set_eq _ _ _,Nat.lt_succ_self _⟩
theorem Grows.newMap {h:Heap}:Grows h h.newMap:=⟨Nat.le_succ _,fun A hA=>PT.get_set_ne _ _ (by omega),fun A hA=>rfl⟩
end Go.X
end
section
open Go Go.X Go.Proofs Go.RowKit
namespace Go.X
set_option linter.unusedVariables false
structure StTab (pr:Prog):Prop where
 wire:zAN pr
 ri:pr.prim 153=none
 riC:pr.code 153=some xq153
theorem zZE {pr:Prog} (T:StTab pr) {h:Heap} {k v:List UInt8}:∃b h',cfi pr 153 [.string (strOf k),.string (strOf v)] h=some (.bool b,h')∧Grows h h':=by
 have:∃w h',cfi pr 153 [.string (strOf k),.string (strOf v)] h=some (w,h')∧∃b,w=.bool b∧Grows h h':=by
  refine zj T.ri T.riC rfl ?_
  unfold xq153
  dsimp only[zW]
  refine wpk.out (k:=[]) ?_
  have nm:cfi pr 136 [.int .u64 0,.int .i64 8] h=some (.string (strOf (numB 0 8)),h):=zBy T.wire.num (zEq (zMV (n:=0) (k:=8) (by decide) (by decide)))
  have second:∀f:Fr,f.get 0=.string (strOf k)→f.get 1=.string (strOf v)→1≤k.length∨k.length≠9 →
    wpk pr ((XC.ops zIo).seq (XC.cond (X.T 22) ((XC.draw zIp []).seq XC.ret) XC.skip)) [KI.blk 0,KI.code ((XC.ops zIq).seq XC.ret)] (fun e t' h1=>(e=XE.normal∨e=XE.ret)∧∃w,t'.get 4=w∧∃b,w=Value.bool b∧Grows h h1) f h:=by
   intro f t0 t1 hk
   by_cases c9:k.length=9
   ·have d9:((k.length:Int)==9)=true:=by rw[c9];rfl
    have sl:zBq (.string (strOf k)) none (some (.int .i64 1))=some (.string (strOf (k.take 1))):=zHH (n:=1) (by omega)
    (repeat (first|refine zP ?_|refine zL ?_|refine zO ?_|refine zC ?_|refine zB ?_|refine zJ ?_|refine zK ?_|refine zM ?_|refine zF ?_|refine zH ?_|refine zG ?_|refine zI (by decide) ?_|refine zN ?_|((first|refine zE ?_|refine zQ ?_|refine zS rfl rfl ?_|refine zR rfl ?_|refine zD ?_);simp only[yq153.down,zA,lemS.down,lemC.down,zap,zao,zam,reduceIte,zan,zaq,zar,zas,zat,zau,zav,zaw,zax,reduceCtorEq,lemH.down,t0,t1,d9,sl,zo,zAX,zAU,zAW,zAV])))
    refine⟨fun hn=>?_,fun hn=>?_⟩
    ·by_cases c40:v.length=40
     ·have d40:((v.length:Int)==40)=true:=by rw[c40];rfl
      have sv:zBq (.string (strOf v)) none (some (.int .i64 8))=some (.string (strOf (v.take 8))):=zHH (n:=8) (by omega)
      (repeat (first|refine zP ?_|refine zL ?_|refine zO ?_|refine zC ?_|refine zB ?_|refine zJ ?_|refine zK ?_|refine zM ?_|refine zF ?_|refine zH ?_|refine zG ?_|refine zI (by decide) ?_|refine zN ?_|((first|refine zE ?_|refine zQ ?_|refine zS rfl rfl ?_|refine zR rfl ?_|refine zD ?_);simp only[yq153.down,zA,lemS.down,lemC.down,zap,zao,zam,reduceIte,zan,zaq,zar,zas,zat,zau,zav,zaw,zax,reduceCtorEq,lemH.down,t0,t1,d40,sv,nm,zo,zAX,zAU,zAW,zAV])))
      exact⟨.inr rfl,_,by (simp only[yq153.down,zA,lemS.down,lemC.down,zap,zao,zam,reduceIte,zan,zaq,zar,zas,zat,zau,zav,zaw,zax,reduceCtorEq])<;>rfl,_,rfl,Grows.refl h⟩
     ·have d40:((v.length:Int)==40)=false:=by rw[beq_eq_false_iff_ne];omega
      (repeat (first|refine zP ?_|refine zL ?_|refine zO ?_|refine zC ?_|refine zB ?_|refine zJ ?_|refine zK ?_|refine zM ?_|refine zF ?_|refine zH ?_|refine zG ?_|refine zI (by decide) ?_|refine zN ?_|((first|refine zE ?_|refine zQ ?_|refine zS rfl rfl ?_|refine zR rfl ?_|refine zD ?_);simp only[yq153.down,zA,lemS.down,lemC.down,zap,zao,zam,reduceIte,zan,zaq,zar,zas,zat,zau,zav,zaw,zax,reduceCtorEq,lemH.down,t0,t1,d40,nm,zo,zAX,zAU,zAW,zAV])))
      exact⟨.inr rfl,_,by (simp only[yq153.down,zA,lemS.down,lemC.down,zap,zao,zam,reduceIte,zan,zaq,zar,zas,zat,zau,zav,zaw,zax,reduceCtorEq])<;>rfl,_,rfl,Grows.refl h⟩
    ·(repeat (first|refine zP ?_|refine zL ?_|refine zO ?_|refine zC ?_|refine zB ?_|refine zJ ?_|refine zK ?_|refine zM ?_|refine zF ?_|refine zH ?_|refine zG ?_|refine zI (by decide) ?_|refine zN ?_|((first|refine zE ?_|refine zQ ?_|refine zS rfl rfl ?_|refine zR rfl ?_|refine zD ?_);simp only[yq153.down,zA,lemS.down,lemC.down,zap,zao,zam,reduceIte,zan,zaq,zar,zas,zat,zau,zav,zaw,zax,reduceCtorEq,lemH.down,t0,t1])))
     exact⟨.inr rfl,_,by (simp only[yq153.down,zA,lemS.down,lemC.down,zap,zao,zam,reduceIte,zan,zaq,zar,zas,zat,zau,zav,zaw,zax,reduceCtorEq])<;>rfl,_,rfl,Grows.refl h⟩
   ·have d9:((k.length:Int)==9)=false:=by rw[beq_eq_false_iff_ne];omega
    (repeat (first|refine zP ?_|refine zL ?_|refine zO ?_|refine zC ?_|refine zB ?_|refine zJ ?_|refine zK ?_|refine zM ?_|refine zF ?_|refine zH ?_|refine zG ?_|refine zI (by decide) ?_|refine zN ?_|((first|refine zE ?_|refine zQ ?_|refine zS rfl rfl ?_|refine zR rfl ?_|refine zD ?_);simp only[yq153.down,zA,lemS.down,lemC.down,zap,zao,zam,reduceIte,zan,zaq,zar,zas,zat,zau,zav,zaw,zax,reduceCtorEq,lemH.down,t0,t1,d9,zo,zAX,zAU,zAW,zAV])))
    exact⟨.inr rfl,_,by (simp only[yq153.down,zA,lemS.down,lemC.down,zap,zao,zam,reduceIte,zan,zaq,zar,zas,zat,zau,zav,zaw,zax,reduceCtorEq])<;>rfl,_,rfl,Grows.refl h⟩
  by_cases c0:2≤k.length
  ·have d0:decide ((k.length:Int)≥2)=true:=decide_eq_true (by omega)
   have sl:zBq (.string (strOf k)) none (some (.int .i64 1))=some (.string (strOf (k.take 1))):=zHH (n:=1) (by omega)
   (repeat (first|refine zP ?_|refine zL ?_|refine zO ?_|refine zC ?_|refine zB ?_|refine zJ ?_|refine zK ?_|refine zM ?_|refine zF ?_|refine zH ?_|refine zG ?_|refine zI (by decide) ?_|refine zN ?_|((first|refine zE ?_|refine zQ ?_|refine zS rfl rfl ?_|refine zR rfl ?_|refine zD ?_);simp only[yq153.down,zA,lemS.down,lemC.down,zap,zao,zam,reduceIte,zan,zaq,zar,zas,zat,zau,zav,zaw,zax,reduceCtorEq,lemH.down,d0,sl,zo,zAX,zAU,zAW,zAV])))
   refine⟨fun hk=>?_,fun hk=>?_⟩
   ·by_cases c3:k.length≤33
    ·have d3:decide ((k.length:Int)≤33)=true:=decide_eq_true (by omega)
     (repeat (first|refine zP ?_|refine zL ?_|refine zO ?_|refine zC ?_|refine zB ?_|refine zJ ?_|refine zK ?_|refine zM ?_|refine zF ?_|refine zH ?_|refine zG ?_|refine zI (by decide) ?_|refine zN ?_|((first|refine zE ?_|refine zQ ?_|refine zS rfl rfl ?_|refine zR rfl ?_|refine zD ?_);simp only[yq153.down,zA,lemS.down,lemC.down,zap,zao,zam,reduceIte,zan,zaq,zar,zas,zat,zau,zav,zaw,zax,reduceCtorEq,lemH.down,d3,zo,zAX,zAU,zAW,zAV])))
     exact⟨.inr rfl,_,by (simp only[yq153.down,zA,lemS.down,lemC.down,zap,zao,zam,reduceIte,zan,zaq,zar,zas,zat,zau,zav,zaw,zax,reduceCtorEq])<;>rfl,_,rfl,Grows.refl h⟩
    ·have d3:decide ((k.length:Int)≤33)=false:=decide_eq_false (by omega)
     (repeat (first|refine zP ?_|refine zL ?_|refine zO ?_|refine zC ?_|refine zB ?_|refine zJ ?_|refine zK ?_|refine zM ?_|refine zF ?_|refine zH ?_|refine zG ?_|refine zI (by decide) ?_|refine zN ?_|((first|refine zE ?_|refine zQ ?_|refine zS rfl rfl ?_|refine zR rfl ?_|refine zD ?_);simp only[yq153.down,zA,lemS.down,lemC.down,zap,zao,zam,reduceIte,zan,zaq,zar,zas,zat,zau,zav,zaw,zax,reduceCtorEq,lemH.down,d3,zo,zAX,zAU,zAW,zAV])))
     exact⟨.inr rfl,_,by (simp only[yq153.down,zA,lemS.down,lemC.down,zap,zao,zam,reduceIte,zan,zaq,zar,zas,zat,zau,zav,zaw,zax,reduceCtorEq])<;>rfl,_,rfl,Grows.refl h⟩
   ·exact second _ (by simp only[yq153.down,zA,lemS.down,lemC.down,zap,zao,zam,reduceIte,zan,zaq,zar,zas,zat,zau,zav,zaw,zax,reduceCtorEq]) (by simp only[yq153.down,zA,lemS.down,lemC.down,zap,zao,zam,reduceIte,zan,zaq,zar,zas,zat,zau,zav,zaw,zax,reduceCtorEq]) (.inl (by omega))
  ·have d0:decide ((k.length:Int)≥2)=false:=decide_eq_false (by omega)
   have d9:((k.length:Int)==9)=false:=by rw[beq_eq_false_iff_ne];omega
   (repeat (first|refine zP ?_|refine zL ?_|refine zO ?_|refine zC ?_|refine zB ?_|refine zJ ?_|refine zK ?_|refine zM ?_|refine zF ?_|refine zH ?_|refine zG ?_|refine zI (by decide) ?_|refine zN ?_|((first|refine zE ?_|refine zQ ?_|refine zS rfl rfl ?_|refine zR rfl ?_|refine zD ?_);simp only[yq153.down,zA,lemS.down,lemC.down,zap,zao,zam,reduceIte,zan,zaq,zar,zas,zat,zau,zav,zaw,zax,reduceCtorEq,lemH.down,d0,d9,zo,zAX,zAU,zAW,zAV])))
   exact⟨.inr rfl,_,by (simp only[yq153.down,zA,lemS.down,lemC.down,zap,zao,zam,reduceIte,zan,zaq,zar,zas,zat,zau,zav,zaw,zax,reduceCtorEq])<;>rfl,_,rfl,Grows.refl h⟩
 obtain⟨w,h',e,b,rfl,r⟩:=this
 exact⟨b,h',e,r⟩
end Go.X
end
section
namespace Go.X
open Go.Proofs
abbrev zOe:List XO:=[
 ⟨some 1,.a (.box (T 0)),none⟩,
 ⟨some 2,.p (.mov (C (.nilFunc))),none⟩]
def zOd:List XO:=zOe
theorem xq155_0e:E3 zOd zOe:=E3.rfl
abbrev zOg:List XO:=[
 ⟨some 3,.p (.mkfn (.func 189) [] [(T 1)]),none⟩,
 ⟨some 2,.p (.mov (T 3)),none⟩]
def zOf:List XO:=zOg
theorem xq155_1e:E3 zOf zOg:=E3.rfl
def xq155:XF:=⟨1,[.tmp 2],
 .seq (.ops zOd) (.seq (.ops zOf) (.ret))⟩
def yq155:=PLift.up (And.intro (@xq155_0e) (@xq155_1e))
theorem cq155:zX Tryz.prog Tryz.f155=some xq155:=by kernel_rfl
end Go.X
end
section
open Go Go.X Go.Proofs Go.RowKit
namespace Go.X
set_option linter.unusedVariables false
def callY (cf:CallF) (v:Value) (args:List Value) (h:Heap):Option (Value×Heap):=match v with
 | .func (.func g) first caps=>cf.fn g (first.toList++args++caps.toList) h
 | .func (.yield l) first caps=>cond (first.isEmpty&&caps.isEmpty) (cf.yl l args h) none
 | _=>none
theorem zZZ {cf:CallF} {t:Fr} {h:Heap} {i:Nat} {asx:List Operand}:zs cf t h (.call (.tmp i) asx)=callY cf (t.get i) (asx.map t.eval) h:=by
 simp only[zs,callY]
 rfl
def yv (A:Nat):Value:=.func (.yield A) #[] #[]
structure zFB (pr:Prog):Prop where
 keys:pr.prim 155=none
 keysC:pr.code 155=some xq155
 sorted:pr.prim 138=some (zC4 [184,189])
 fn1:pr.prim 154=none
 fn1C:pr.code 154=some xq154
theorem p_mkfn {t:Fr} {f:Fn} {a b:List Operand}:zT t (.mkfn f a b)=some (.func f (a.map t.eval).toArray (b.map t.eval).toArray):=rfl
theorem zXf {r:Option Nat}:zl (.map r)=[.map r]:=rfl
theorem keys_run {pr:Prog} (T:zFB pr) {h:Heap} {R:Nat}:cfi pr 155 [.map (some R)] h=some (.func (.func 189) #[] #[.pointer (some ⟨h.next,0,none⟩)],h.new [.map (some R)]):=by
 refine zBW T.keys T.keysC rfl ?_
 unfold xq155
 dsimp only[zW]
 refine wpk.out (k:=[]) ?_
 (repeat (first|refine zP ?_|refine zL ?_|refine zO ?_|refine zC ?_|refine zB ?_|refine zJ ?_|refine zK ?_|refine zM ?_|refine zF ?_|refine zH ?_|refine zG ?_|refine zI (by decide) ?_|refine zN ?_|((first|refine zE ?_|refine zQ ?_|refine zS rfl rfl ?_|refine zR rfl ?_|refine zD ?_);simp only[yq155.down,zA,lemS.down,lemC.down,zap,zao,zam,reduceIte,zan,zaq,zar,zas,zat,zau,zav,zaw,zax,reduceCtorEq,lemH.down,p_mkfn,zXf])))
 exact⟨.inr rfl,by simp only[yq155.down,zA,lemS.down,lemC.down,zap,zao,zam,reduceIte,zan,zaq,zar,zas,zat,zau,zav,zaw,zax,reduceCtorEq],rfl⟩
theorem zZU {h:Heap} {K R:Nat} (hK:Var h K [.map (some R)]) {l:List KV} {st:Option (List Nat×Nat)} (hm:MapK h R l st) (hr:Rise l) (hl:l.length≤1000000) (hb:∀q∈l,q.1.length≤1000) {ks:List Nat} {g:Nat} (hg:ks.any (fun k=>g.beq k)=true) :
  ∃v h',zC4 ks [.func (.func g) #[] #[.pointer (some ⟨K,0,none⟩)]] h=some (v,h')∧Grows h h'∧∃(a:Option Addr) (cap:Nat),v=.slice a l.length cap∧∀ (j:Nat) (q:KV),l[j]?=some q→∃B,h.next≤B∧B<h'.next∧a=some ⟨B,0,some 1⟩∧Var h' B (l.map fun q=>.string (strOf q.1)):=by
 have hk:zDv ⟨K,0,none⟩ h=some (l.map (·.1)):=by
  simp only[zDv,hK.ok]
  rw[hm.1]
  simp only[zZi]
  rw[zYx hr.nodup,List.length_map,Nat.ble_eq_true_of_le (by omega:l.length≤1000000000)]
  have:(l.map (·.1)).all (fun k=>k.length.ble zU)=true:=by
   rw[List.all_eq_true]
   intro k hk
   obtain⟨q,hq,rfl⟩:=List.mem_map.1 hk
   have:=hb q hq
   exact Nat.ble_eq_true_of_le (by unfold zU;omega)
  rw[this]
  simp
 have e:zC4 ks [.func (.func g) #[] #[.pointer (some ⟨K,0,none⟩)]] h=zD8 (l.map (·.1)) h:=by
  simp only[zC4,hg,hk]
  rfl
 rw[e]
 unfold zD8
 rw[zYc hr]
 cases l with
 | nil=>exact⟨_,_,rfl,Grows.refl h,none,0,rfl,fun j q hj=>by simp at hj⟩
 | cons x l =>
  refine⟨_,_,rfl,Grows.new,some ⟨h.next,0,some 1⟩,(x::l).length,by simp,fun j q hj=>⟨h.next,Nat.le_refl _,Nat.lt_succ_self _,rfl,?_⟩⟩
  show Var (h.new (List.map _ (List.map _ _))) _ _
  rw[List.map_map]
  exact Var.new_self
theorem zJU {pr:Prog} (T:zFB pr) {h:Heap} {A B X R:Nat} {l:List KV} {st:Option (List Nat×Nat)} (hB:Var h B [ptr X]) (hX:Var h X [.map (some R)]) (hm:MapK h R l st) (hr:Rise l) (hl:l.length≤1000000) (hb:∀q∈l,q.1.length≤1000) {Post:Heap→Prop}
  (user:∀h1,Grows h h1→∃(J:Nat→Heap→Prop) (W:Nat→Prop),J 0 h1∧(∀C,(C=B∨C=X∨C=R∨(h.next≤C∧C<h1.next))→¬W C) ∧
   (∀ (i:Nat) (g:Heap) (q:KV),l[i]?=some q→J i g→Keeps W h1 g→∃g',(cfi pr).yl A [.string (strOf q.1),.string (strOf q.2)] g=some (.bool true,g')∧J (i+1) g'∧Keeps W g g')∧∀g,J l.length g→Keeps W h1 g→Post g) :
  ∃g,cfi pr 154 [yv A,ptr B] h=some (.tuple #[],g)∧Post g:=by
 have:∃w g,cfi pr 154 [yv A,ptr B] h=some (w,g)∧w=.tuple #[]∧Post g:=by
  refine zj T.fn1 T.fn1C rfl ?_
  unfold xq154
  dsimp only[zW]
  refine wpk.out (k:=[]) ?_
  unfold ptr at hB
  unfold ptr
  have lB:∀sp,h.load ⟨B,0,sp⟩=some (.pointer (some ⟨X,0,none⟩)):=fun sp=>hB.load
  have lX:∀sp,h.load ⟨X,0,sp⟩=some (.map (some R)):=fun sp=>hX.load
  have kr:=keys_run T (h:=h) (R:=R)
  have gk:Grows h (h.new [.map (some R)]):=Grows.new
  obtain⟨v,h1,e1,k1,a,cap,rfl,hel⟩:=zZU (Var.new_self (h:=h) (l:=[.map (some R)])) (hm.grow gk) hr hl hb (ks:=[184,189]) (g:=189) rfl
  have so:=zBy T.sorted e1
  have lv:zEe (.slice a l.length cap)=some (.int .i64 (l.length:Int)):=rfl
  have g1:Grows h h1:=gk.trans k1
  obtain⟨J,W,j0,hW,step,fin⟩:=user h1 g1
  (repeat (first|refine zP ?_|refine zL ?_|refine zO ?_|refine zC ?_|refine zB ?_|refine zJ ?_|refine zK ?_|refine zM ?_|refine zF ?_|refine zH ?_|refine zG ?_|refine zI (by decide) ?_|refine zN ?_|((first|refine zE ?_|refine zQ ?_|refine zS rfl rfl ?_|refine zR rfl ?_|refine zD ?_);simp only[yq154.down,zA,lemS.down,lemC.down,zap,zao,zam,reduceIte,zan,zaq,zar,zas,zat,zau,zav,zaw,zax,reduceCtorEq,lemH.down,lB,lX,zAH,kr,so,lv])))
  refine zAY (fun m f g=>∃i,m=l.length - i∧i≤l.length∧J i g∧Keeps W h1 g∧f.get 0=yv A∧f.get 1=.pointer (some ⟨B,0,none⟩)∧f.get 12=.slice a l.length cap∧f.get 13=.int .i64 (l.length:Int)∧f.get 14=.int .i64 (i:Int)) ?_ l.length _ _ ⟨0,rfl,Nat.zero_le _,j0,Keeps.refl,by simp only[yq154.down,zA,lemS.down,lemC.down,zap,zao,zam,reduceIte,zan,zaq,zar,zas,zat,zau,zav,zaw,zax,reduceCtorEq],by simp only[yq154.down,zA,lemS.down,lemC.down,zap,zao,zam,reduceIte,zan,zaq,zar,zas,zat,zau,zav,zaw,zax,reduceCtorEq],by simp only[yq154.down,zA,lemS.down,lemC.down,zap,zao,zam,reduceIte,zan,zaq,zar,zas,zat,zau,zav,zaw,zax,reduceCtorEq],by simp only[yq154.down,zA,lemS.down,lemC.down,zap,zao,zam,reduceIte,zan,zaq,zar,zas,zat,zau,zav,zaw,zax,reduceCtorEq],by (simp only[yq154.down,zA,lemS.down,lemC.down,zap,zao,zam,reduceIte,zan,zaq,zar,zas,zat,zau,zav,zaw,zax,reduceCtorEq])<;>rfl⟩
  rintro m f g ⟨i,rfl,hi,ji,kg,t0,t1,t12,t13,t14⟩ hnext
  refine xq154_6k ?_
  dsimp only[zIr]
  by_cases c:i<l.length
  ·have d:decide ((i:Int)<(l.length:Int))=true:=decide_eq_true (by omega)
   obtain⟨q,hq⟩:∃q,l[i]?=some q:=⟨l[i],List.getElem?_eq_getElem c⟩
   obtain⟨D,hD1,hD2,rfl,vD⟩:=hel i q hq
   have hD3:h.next≤D:=Nat.le_trans gk.next hD1
   have ia:zA9 1 (.slice (some ⟨D,0,some 1⟩) l.length cap) (.int .i64 (i:Int))=some (.pointer (some ⟨D,i*1,none⟩)):=by have:=zHb (a:=⟨D,0,some 1⟩) (n:=l.length) (c:=cap) (e:=1) (k:=.i64) c;simpa only [Nat.zero_add] using this
   have lD:∀sp,g.load ⟨D,i*1,sp⟩=some (.string (strOf q.1)):=fun sp=>by
    rw[(vD.keep kg (hW D (.inr (.inr (.inr ⟨hD3,hD2⟩))))).load,Nat.mul_one,List.getElem?_map,hq];rfl
   have mB:∀sp,g.load ⟨B,0,sp⟩=some (.pointer (some ⟨X,0,none⟩)):=fun sp=>((hB.grow g1).keep kg (hW B (.inl rfl))).load
   have mX:∀sp,g.load ⟨X,0,sp⟩=some (.map (some R)):=fun sp=>((hX.grow g1).keep kg (hW X (.inr (.inl rfl)))).load
   have mR:=(hm.grow g1).keep kg (hW R (.inr (.inr (.inl rfl))))
   have lk:=zYj mR hr.nodup hq (z:=.string (strOf []))
   obtain⟨g',ey,ji',kg'⟩:=step i g q hq ji kg
   have cy:callY (cfi pr) (yv A) [.string (strOf q.1),.string (strOf q.2)] g=some (.bool true,g'):=ey
   have hw1:IntKind.i64.wrap ((i:Int)+1)=((i+1:Nat):Int):=by rw[IntKind.wrap_i64];omega
   (repeat (first|refine zP ?_|refine zL ?_|refine zO ?_|refine zC ?_|refine zB ?_|refine zJ ?_|refine zK ?_|refine zM ?_|refine zF ?_|refine zH ?_|refine zG ?_|refine zI (by decide) ?_|refine zN ?_|((first|refine zE ?_|refine zQ ?_|refine zS rfl rfl ?_|refine zR rfl ?_|refine zD ?_);simp only[yq154.down,zA,lemS.down,lemC.down,zap,zao,zam,reduceIte,zan,zaq,zar,zas,zat,zau,zav,zaw,zax,reduceCtorEq,lemH.down,t0,t1,t12,t13,t14,d,zBT,ia,lD,mB,mX,zY7,lk,zZZ,List.map_cons,List.map_nil,cy,Bool.not_true,hw1])))
   exact hnext (l.length - (i+1)) _ _ (by omega) ⟨i+1,rfl,c,ji',Keeps.trans kg kg' (fun _ _ e=>e),by simp only[yq154.down,zA,lemS.down,lemC.down,zap,zao,zam,reduceIte,zan,zaq,zar,zas,zat,zau,zav,zaw,zax,reduceCtorEq,t0],by simp only[yq154.down,zA,lemS.down,lemC.down,zap,zao,zam,reduceIte,zan,zaq,zar,zas,zat,zau,zav,zaw,zax,reduceCtorEq,t1],by simp only[yq154.down,zA,lemS.down,lemC.down,zap,zao,zam,reduceIte,zan,zaq,zar,zas,zat,zau,zav,zaw,zax,reduceCtorEq,t12],by simp only[yq154.down,zA,lemS.down,lemC.down,zap,zao,zam,reduceIte,zan,zaq,zar,zas,zat,zau,zav,zaw,zax,reduceCtorEq,t13],by simp only[yq154.down,zA,lemS.down,lemC.down,zap,zao,zam,reduceIte,zan,zaq,zar,zas,zat,zau,zav,zaw,zax,reduceCtorEq]⟩
  ·have d:decide ((i:Int)<(l.length:Int))=false:=decide_eq_false (by omega)
   obtain rfl:i=l.length:=by omega
   (repeat (first|refine zP ?_|refine zL ?_|refine zO ?_|refine zC ?_|refine zB ?_|refine zJ ?_|refine zK ?_|refine zM ?_|refine zF ?_|refine zH ?_|refine zG ?_|refine zI (by decide) ?_|refine zN ?_|((first|refine zE ?_|refine zQ ?_|refine zS rfl rfl ?_|refine zR rfl ?_|refine zD ?_);simp only[yq154.down,zA,lemS.down,lemC.down,zap,zao,zam,reduceIte,zan,zaq,zar,zas,zat,zau,zav,zaw,zax,reduceCtorEq,lemH.down,t0,t1,t12,t13,t14,d])))
   exact⟨.inl rfl,_,rfl,rfl,fin g ji kg⟩
 obtain⟨w,g,e,rfl,r⟩:=this
 exact⟨g,e,r⟩
end Go.X
end
section
open Go Go.X Go.Proofs Go.RowKit
namespace Go.X
set_option linter.unusedVariables false
theorem cyl_wp {pr:Prog} {A:Nat} {args:List Value} {h:Heap} {r:XL} (hA:h.blks.get A=some (.loop r)) (hl:args.length=r.ps.length) {R:Heap→Prop}
  (hw:wpc pr r.asg (fun e t2 h2=>e=.normal∧∃r2,h2.blks.get A=some (.loop r2)∧r2.st=.ready ∧
   wpc pr r.body (fun e t3 h3=>e.jump=none∧∃r3,h3.blks.get A=some (.loop r3)∧R (h3.setBlk A (.loop { r3 with st:=.ready,pend:=none }))) t2 (h2.setBlk A (.loop { r2 with st:=.busy }))) (zB6 r.ps args r.t) h) :
  ∃h',(cfi pr).yl A args h=some (.bool true,h')∧R h':=by
 obtain⟨e,t2,h2,⟨n1,hr1⟩,rfl,r2,hb2,hs2,e3,t3,h3,⟨n2,hr2⟩,hj,r3,hb3,hR⟩:=hw
 refine⟨_,cyl_of (n:=max n1 n2) ?_,hR⟩
 show zBe (run pr (max n1 n2)) A args h=_
 unfold zBe
 rw[hA]
 dsimp only
 rw[if_pos hl,zCS (PLe.refl pr) (Nat.le_max_left n1 n2) hr1]
 dsimp only
 rw[hb2]
 dsimp only
 rw[if_pos hs2,zCS (PLe.refl pr) (Nat.le_max_right n1 n2) hr2]
 dsimp only
 rw[hb3]
 simp only[hj,Option.isNone_none,if_true]
theorem zK3 {h:Heap} {r:XL}:(h.pushLoop r).blks.get h.next=some (.loop r):=PT.get_set_eq _ _ _
theorem Grows.loop {h:Heap} {r:XL}:Grows h (h.pushLoop r):=⟨Nat.le_succ _,fun A hA=>PT.get_set_ne _ _ (by omega),fun A hA=>rfl⟩
end Go.X
end
section
open Go Go.X Go.Proofs Go.RowKit
namespace Go.X
set_option linter.unusedVariables false
def kvsB (l:List KV):List UInt8:=l.flatMap fun q=>zA4 q.1++zA4 q.2
def stB (l:List KV):List UInt8:=numB l.length 4++kvsB l
theorem zKy (l:List KV) (q:KV):kvsB (l++[q])=kvsB l++(zA4 q.1++zA4 q.2):=by simp[kvsB]
theorem zKx {l:List KV} (hb:∀q∈l,q.1.length≤33∧q.2.length≤64):(kvsB l).length≤105*l.length:=by
 induction l with
 | nil=>simp[kvsB]
 | cons q l ih =>
  have h1:=hb q (by simp)
  have h2:=ih fun x hx=>hb x (List.mem_cons_of_mem _ hx)
  simp only[kvsB,List.flatMap_cons,List.length_append,zA4,zAc,List.length_cons] at *
  omega
structure zEJ (pr:Prog):Prop where
 st:StTab pr
 all:zFB pr
 ln:pr.prim 94=none
 lnC:pr.code 94=some xq94
 al:pr.prim 95=none
 alC:pr.code 95=some xq95
 en:pr.prim 80=none
 enC:pr.code 80=some xq80
theorem WAllS {pr:Prog} (T:zAN pr) {h:Heap} {W:Nat} {S:Nat→Prop} {b:List UInt8} (hw:WrS h W S b):cfi pr 81 [.pointer (some ⟨W,0,none⟩)] h=some (.string (strOf b),h):=by
 refine zBW T.wa T.waC rfl ?_
 unfold xq81
 dsimp only[zW]
 refine wpk.out (k:=[]) ?_
 obtain⟨hN,v,hV,hO⟩:=hw
 (repeat (first|refine zP ?_|refine zL ?_|refine zO ?_|refine zC ?_|refine zB ?_|refine zJ ?_|refine zK ?_|refine zM ?_|refine zF ?_|refine zH ?_|refine zG ?_|refine zI (by decide) ?_|refine zN ?_|((first|refine zE ?_|refine zQ ?_|refine zS rfl rfl ?_|refine zR rfl ?_|refine zD ?_);simp only[yq81.down,zA,lemS.down,lemC.down,zap,zao,zam,reduceIte,zan,zaq,zar,zas,zat,zau,zav,zaw,zax,reduceCtorEq,lemH.down,zBj,hV.load,List.getElem?_cons_zero,hO.cb2s])))
 exact⟨.inr rfl,by simp only[yq81.down,zA,lemS.down,lemC.down,zap,zao,zam,reduceIte,zan,zaq,zar,zas,zat,zau,zav,zaw,zax,reduceCtorEq],rfl⟩
theorem zJc {pr:Prog} (T:zEJ pr) {h:Heap} {X R:Nat} {l:List KV} {st:Option (List Nat×Nat)} (hX:Var h X [.map (some R)]) (hm:MapK h R l st):cfi pr 94 [.pointer (some ⟨X,0,none⟩)] h=some (.int .i64 (l.length:Int),h):=by
 refine zBW T.ln T.lnC rfl ?_
 unfold xq94
 dsimp only[zW]
 refine wpk.out (k:=[]) ?_
 have lX:∀sp,h.load ⟨X,0,sp⟩=some (.map (some R)):=fun sp=>hX.load
 (repeat (first|refine zP ?_|refine zL ?_|refine zO ?_|refine zC ?_|refine zB ?_|refine zJ ?_|refine zK ?_|refine zM ?_|refine zF ?_|refine zH ?_|refine zG ?_|refine zI (by decide) ?_|refine zN ?_|((first|refine zE ?_|refine zQ ?_|refine zS rfl rfl ?_|refine zR rfl ?_|refine zD ?_);simp only[yq94.down,zA,lemS.down,lemC.down,zap,zao,zam,reduceIte,zan,zaq,zar,zas,zat,zau,zav,zaw,zax,reduceCtorEq,lemH.down,zAH,lX,r_lenMV,lenMV_kv hm])))
 exact⟨.inr rfl,by simp only[yq94.down,zA,lemS.down,lemC.down,zap,zao,zam,reduceIte,zan,zaq,zar,zas,zat,zau,zav,zaw,zax,reduceCtorEq],rfl⟩
theorem zJb {pr:Prog} (T:zEJ pr) {h:Heap} {X:Nat}:cfi pr 95 [.pointer (some ⟨X,0,none⟩)] h=some (.func (.func 154) #[] #[.pointer (some ⟨h.next,0,none⟩)],h.new [ptr X]):=by
 refine zBW T.al T.alC rfl ?_
 unfold xq95
 dsimp only[zW]
 refine wpk.out (k:=[]) ?_
 have cp:zl (Value.pointer (some ⟨X,0,none⟩))=[.pointer (some ⟨X,0,none⟩)]:=rfl
 (repeat (first|refine zP ?_|refine zL ?_|refine zO ?_|refine zC ?_|refine zB ?_|refine zJ ?_|refine zK ?_|refine zM ?_|refine zF ?_|refine zH ?_|refine zG ?_|refine zI (by decide) ?_|refine zN ?_|((first|refine zE ?_|refine zQ ?_|refine zS rfl rfl ?_|refine zR rfl ?_|refine zD ?_);simp only[yq95.down,zA,lemS.down,lemC.down,zap,zao,zam,reduceIte,zan,zaq,zar,zas,zat,zau,zav,zaw,zax,reduceCtorEq,lemH.down,p_mkfn,cp])))
 exact⟨.inr rfl,by simp only[yq95.down,zA,lemS.down,lemC.down,zap,zao,zam,reduceIte,zan,zaq,zar,zas,zat,zau,zav,zaw,zax,reduceCtorEq],rfl⟩
end Go.X
end
section
open Go Go.X Go.Proofs Go.RowKit
namespace Go.X
set_option linter.unusedVariables false
theorem zIl {pr:Prog} {c:XC} {k:List KI} {Q:XE→Fr→Heap→Prop} {f:Fr} {h:Heap} {P:Fr→Prop} (hP:P f) (hw:∀f,P f→wpk pr c k Q f h):wpk pr c k Q f h:=hw f hP
theorem SEnc_run {pr:Prog} (T:zEJ pr) {h:Heap} {X R:Nat} {l:List KV} {st:Option (List Nat×Nat)} (hX:Var h X [.map (some R)]) (hm:MapK h R l st) (hr:Rise l) (hl:l.length≤1024) (hb:∀q∈l,q.1.length≤33∧q.2.length≤64) :
  ∃h',cfi pr 80 [.pointer (some ⟨X,0,none⟩)] h=some (.string (strOf (stB l)),h')∧Grows h h':=by
 have:∃w h',cfi pr 80 [.pointer (some ⟨X,0,none⟩)] h=some (w,h')∧w=.string (strOf (stB l))∧Grows h h':=by
  refine zj T.en T.enC rfl ?_
  unfold xq80
  dsimp only[zW]
  refine wpk.out (k:=[]) ?_
  have hr64:zU=140737488355328:=rfl
  have hXn:X<h.next:=hX.1
  have hRn:R<h.next:=hm.2
  obtain⟨g1,e1,w1,k1⟩:=zGg T.st.wire h
  have n1:h.next<g1.next:=by obtain⟨_,v,q,_⟩:=w1;exact q.1
  obtain⟨g2,hg2,v2,k2,n2⟩:=box1 (h:=g1) (v:=.pointer none) rfl
  have st2:=zEY v2 (b:=0) (by simp) (some ⟨h.next,0,none⟩)
  obtain⟨g3,hg3⟩:∃g3,g2.wr g1.next ([Value.pointer none].set 0 (.pointer (some ⟨h.next,0,none⟩)))=g3:=⟨_,rfl⟩
  have v3:Var g3 g1.next [.pointer (some ⟨h.next,0,none⟩)]:=by rw[←hg3];exact v2.wr
  have k3:Grows g1 g3:=by rw[←hg3];exact k2.wr (Nat.le_refl _)
  have n3:g3.next=g1.next+1:=by rw[←hg3];exact n2
  rw[hg3] at st2
  have w3:WrS g3 h.next (fun A=>h.next≤A∧A≠g1.next) []:=(WrS.mono w1 (S':=fun A=>h.next≤A∧A≠g1.next) (fun A hA hS=>⟨hS,by omega⟩)).grow k3
  have gg3:Grows h g3:=k1.trans k3
  have c4:=zJc T (hX.grow gg3) (hm.grow gg3)
  obtain⟨g4,e4,w4,k4⟩:=zJe T.st.wire w3 (fun A hA=>⟨by omega,by omega⟩) l.length (by omega) (by simp;omega)
  have n4:=k4.next
  have l3:∀sp,g3.load ⟨g1.next,0,sp⟩=some (.pointer (some ⟨h.next,0,none⟩)):=fun sp=>v3.load
  have v4:Var g4 g1.next [.pointer (some ⟨h.next,0,none⟩)]:=v3.keep k4 (fun e=>e.2 rfl)
  have l4:∀sp,g4.load ⟨g1.next,0,sp⟩=some (.pointer (some ⟨h.next,0,none⟩)):=fun sp=>v4.load
  have gg4:Grows h g4:=gg3.then k4 (fun A hA e=>by have:=e.1;omega)
  have sa:=zJb T (h:=g4) (X:=X)
  (repeat (first|refine zP ?_|refine zL ?_|refine zO ?_|refine zC ?_|refine zB ?_|refine zJ ?_|refine zK ?_|refine zM ?_|refine zF ?_|refine zH ?_|refine zG ?_|refine zI (by decide) ?_|refine zN ?_|((first|refine zE ?_|refine zQ ?_|refine zR rfl ?_|refine zD ?_);simp only[yq80.down,zA,lemS.down,lemC.down,zap,zao,zam,reduceIte,zan,zaq,zar,zas,zat,zau,zav,zaw,zax,reduceCtorEq,lemH.down,e1,hg2,st2,c4,l3,e4,sa])))
  refine⟨?_,?_⟩
  ·(refine zAa rfl rfl rfl ?_ ?_<;>simp only[yq80.down,zA,lemS.down,lemC.down,zap,zao,zam,reduceIte,zan,zaq,zar,zas,zat,zau,zav,zaw,zax,reduceCtorEq,lemH.down,l3,l4,zAA,zz,zAB,z8,zw,Option.isSome_some])
  (repeat (first|refine zP ?_|refine zL ?_|refine zO ?_|refine zC ?_|refine zB ?_|refine zJ ?_|refine zK ?_|refine zM ?_|refine zF ?_|refine zH ?_|refine zG ?_|refine zI (by decide) ?_|refine zN ?_|((first|refine zE ?_|refine zQ ?_|refine zR rfl ?_|refine zD ?_);simp only[yq80.down,zA,lemS.down,lemC.down,zap,zao,zam,reduceIte,zan,zaq,zar,zas,zat,zau,zav,zaw,zax,reduceCtorEq,lemH.down,e1,hg2,st2,c4,l3,e4,sa])))
  generalize hg5:g4.new [ptr X]=g5
  have n5:g5.next=g4.next+1:=by rw[←hg5];rfl
  have k5:Grows g4 g5:=by rw[←hg5];exact Grows.new
  have v5:Var g5 g4.next [ptr X]:=by rw[←hg5];exact Var.new_self
  have w5:=w4.grow k5
  have gg5:Grows h g5:=gg4.trans k5
  refine zIl (P:=fun f=>f.get 3=.pointer (some ⟨g1.next,0,none⟩)∧f.get 12=.func (.func 154) #[] #[ptr g4.next]) ⟨by simp only[yq80.down,zA,lemS.down,lemC.down,zap,zao,zam,reduceIte,zan,zaq,zar,zas,zat,zau,zav,zaw,zax,reduceCtorEq],by (simp only[yq80.down,zA,lemS.down,lemC.down,zap,zao,zam,reduceIte,zan,zaq,zar,zas,zat,zau,zav,zaw,zax,reduceCtorEq])<;>rfl⟩ ?_
  rintro f ⟨t3,t12⟩
  obtain⟨r,hrec⟩:∃r:XL,r=⟨f,23,[13,14],(XC.ops zE7).seq (XC.ops zE8),.block 1 ((XC.ops zE9).seq (XC.ops zFA)),.ready,none⟩:=⟨_,rfl⟩
  obtain⟨gL,hgL⟩:∃gL,gL=g5.pushLoop r:=⟨_,rfl⟩
  have kL:Grows g5 gL:=by rw[hgL];exact Grows.loop
  have nL:gL.next=g5.next+1:=by rw[hgL];rfl
  have bL:gL.blks.get g5.next=some (.loop r):=by rw[hgL];exact zK3
  have ggL:Grows h gL:=gg5.trans kL
  obtain⟨gE,eE,bE,wE,vE,kE⟩:=zJU T.all (A:=g5.next) (v5.grow kL) (hX.grow ggL) (hm.grow ggL) hr (by omega) (fun q hq=>by have:=hb q hq;omega)
   (Post:=fun g2=>g2.blks.get g5.next=some (.loop r)∧(∃S:Nat→Prop,(∀C,S C→C≠g5.next)∧WrS g2 h.next S (stB l))∧Var g2 g1.next [.pointer (some ⟨h.next,0,none⟩)]∧Grows h g2) (fun h1 k1'=>by
   have n1':=k1'.next
   have kk1:Grows g4 h1:=(k5.trans kL).trans k1'
   refine⟨fun i g=>WrS g h.next (fun C=>h.next≤C∧C≠g1.next∧C≠g4.next∧C≠g5.next∧¬(gL.next≤C∧C<h1.next)) (numB l.length 4++kvsB (l.take i))∧g.blks.get g5.next=some (.loop r)∧Var g g1.next [.pointer (some ⟨h.next,0,none⟩)]∧h1.next≤g.next,
    fun C=>(h.next≤C∧C≠g1.next∧C≠g4.next∧C≠g5.next∧¬(gL.next≤C∧C<h1.next))∨C=g5.next,⟨?_,?_,v4.grow kk1,Nat.le_refl _⟩,?_,?_,?_⟩
   ·have:=(w4.mono (S':=fun C=>h.next≤C∧C≠g1.next∧C≠g4.next∧C≠g5.next∧¬(gL.next≤C∧C<h1.next)) (fun C hC hS=>⟨hS.1,hS.2,by omega,by omega,by omega⟩)).grow kk1
    simpa [kvsB] using this
   ·rw[k1'.blks g5.next (by omega)];exact bL
   ·intro C hC hW
    rcases hW with hW|hW<;>rcases hC with hC|hC|hC|hC<;>omega
   ·rintro i g q hq ⟨jw,jb,jv,jn⟩ kg
    have hi:i<l.length:=(List.getElem?_eq_some_iff.1 hq).1
    have hbq:=hb q (List.mem_of_getElem? hq)
    have take1:l.take (i+1)=l.take i++[q]:=by rw[List.take_add_one,hq];rfl
    have hkl:(kvsB (l.take i)).length≤105*(l.take i).length:=zKx fun x hx=>hb x (List.mem_of_mem_take hx)
    have hkl2:(l.take i).length≤l.length:=by rw[List.length_take];omega
    refine cyl_wp jb (by rw[hrec];rfl) ?_
    rw[hrec]
    refine wpk.out (k:=[]) ?_
    show wpk pr _ _ _ ((f.set 13 _).set 14 _) g
    (repeat (first|refine zP ?_|refine zL ?_|refine zO ?_|refine zC ?_|refine zB ?_|refine zJ ?_|refine zK ?_|refine zM ?_|refine zF ?_|refine zH ?_|refine zG ?_|refine zI (by decide) ?_|refine zN ?_|((first|refine zE ?_|refine zQ ?_|refine zR rfl ?_|refine zD ?_);simp only[yq80.down,zA,lemS.down,lemC.down,zap,zao,zam,reduceIte,zan,zaq,zar,zas,zat,zau,zav,zaw,zax,reduceCtorEq,lemH.down,t3])))
    refine⟨rfl,_,jb,by rw[hrec],?_⟩
    rw[hrec]
    refine wpk.out (k:=[]) ?_
    obtain⟨rb,hrb⟩:∃rb:XL,rb=⟨f,23,[13,14],(XC.ops zE7).seq (XC.ops zE8),.block 1 ((XC.ops zE9).seq (XC.ops zFA)),.busy,none⟩:=⟨_,rfl⟩
    rw[←hrb]
    obtain⟨gb,hgb⟩:∃gb,gb=g.setBlk g5.next (.loop rb):=⟨_,rfl⟩
    have kb:Keeps (fun C=>C=g5.next) g gb:=by rw[hgb];exact Keeps.setBlk
    have bb:gb.blks.get g5.next=some (.loop rb):=by rw[hgb];exact zC3
    have nb:gb.next=g.next:=by rw[hgb];rfl
    rw[←hgb]
    have wb:=jw.keep kb (fun C hC e=>hC.2.2.2.1 e)
    have vb:=jv.keep kb (fun e=>by omega)
    obtain⟨gc,ec,wc,kc⟩:=zEL T.st.wire wb (fun C hC=>⟨by omega,by omega,by omega,by omega,by omega⟩) q.1 (by rw[List.length_append,zAc];omega)
    have nc:=kc.next
    have vc:=vb.keep kc (fun e=>e.2.1 rfl)
    obtain⟨gd,ed,wd,kd⟩:=zEL T.st.wire wc (fun C hC=>⟨by omega,by omega,by omega,by omega,by omega⟩) q.2 (by simp only[List.length_append,zAc];omega)
    have nd:=kd.next
    have vd:=vc.keep kd (fun e=>e.2.1 rfl)
    have lb:∀sp,gb.load ⟨g1.next,0,sp⟩=some (.pointer (some ⟨h.next,0,none⟩)):=fun sp=>vb.load
    have lc:∀sp,gc.load ⟨g1.next,0,sp⟩=some (.pointer (some ⟨h.next,0,none⟩)):=fun sp=>vc.load
    have bd:gd.blks.get g5.next=some (.loop rb):=by
     rw[kd.blks g5.next (by omega) (fun e=>e.2.2.2.1 rfl),kc.blks g5.next (by omega) (fun e=>e.2.2.2.1 rfl)];exact bb
    (repeat (first|refine zP ?_|refine zL ?_|refine zO ?_|refine zC ?_|refine zB ?_|refine zJ ?_|refine zK ?_|refine zM ?_|refine zF ?_|refine zH ?_|refine zG ?_|refine zI (by decide) ?_|refine zN ?_|((first|refine zE ?_|refine zQ ?_|refine zR rfl ?_|refine zD ?_);simp only[yq80.down,zA,lemS.down,lemC.down,zap,zao,zam,reduceIte,zan,zaq,zar,zas,zat,zau,zav,zaw,zax,reduceCtorEq,lemH.down,t3,lb,lc,ec,ed])))
    refine⟨rfl,rb,bd,?_⟩
    obtain⟨gf,hgf⟩:∃gf,gf=gd.setBlk g5.next (.loop { rb with st:=.ready,pend:=none }):=⟨_,rfl⟩
    have kf:Keeps (fun C=>C=g5.next) gd gf:=by rw[hgf];exact Keeps.setBlk
    have bf:gf.blks.get g5.next=some (.loop { rb with st:=.ready,pend:=none }):=by rw[hgf];exact zC3
    have nf:gf.next=gd.next:=by rw[hgf];rfl
    rw[←hgf]
    have wf:=wd.keep kf (fun C hC e=>hC.2.2.2.1 e)
    have er:({ rb with st:=.ready,pend:=none }:XL)=⟨f,23,[13,14],(XC.ops zE7).seq (XC.ops zE8),.block 1 ((XC.ops zE9).seq (XC.ops zFA)),.ready,none⟩:=by rw[hrb]
    rw[er] at bf
    refine⟨⟨?_,bf,vd.keep kf (fun e=>by omega),by omega⟩,?_⟩
    ·rw[take1,zKy]
     simpa only [zA4,List.append_assoc] using wf
    ·refine Keeps.trans ?_ kf (fun _ _ e=>.inr e)
     refine Keeps.trans ?_ kd (fun _ _ e=>.inl e)
     refine Keeps.trans ?_ kc (fun _ _ e=>.inl e)
     exact kb.mono fun _ _ e=>.inr e
   ·rintro g ⟨jw,jb,jv,jn⟩ kg
    rw[List.take_length] at jw
    refine⟨jb,⟨_,fun C hC=>hC.2.2.2.1,jw⟩,jv,?_⟩
    exact (ggL.trans k1').then kg (fun C hC hW=>by rcases hW with hW|hW<;>omega))
  have hf:f.eval (.tmp 12)=.func (.func 154) #[] #[ptr g4.next]:=t12
  rw[hgL,hrec] at eE
  rw[hrec] at bE
  obtain⟨SE,sE,wE⟩:=wE
  refine zMY hf eE bE (fun e=>by cases e) ?_
  refine (?_:kont pr _ _ f _).out
  generalize hgz:gE.setBlk g5.next _=gz
  have kz:Keeps (fun C=>C=g5.next) gE gz:=by rw[←hgz];exact Keeps.setBlk
  have lz:∀sp,gz.load ⟨g1.next,0,sp⟩=some (.pointer (some ⟨h.next,0,none⟩)):=fun sp=>(vE.keep kz (fun e=>by omega)).load
  have az:cfi pr 81 [.pointer (some ⟨h.next,0,none⟩)] gz=some (.string (strOf (stB l)),gz):=WAllS T.st.wire (wE.keep kz fun C hC e=>sE C hC e)
  (repeat (first|refine zP ?_|refine zL ?_|refine zO ?_|refine zC ?_|refine zB ?_|refine zJ ?_|refine zK ?_|refine zM ?_|refine zF ?_|refine zH ?_|refine zG ?_|refine zI (by decide) ?_|refine zN ?_|((first|refine zE ?_|refine zQ ?_|refine zR rfl ?_|refine zD ?_);simp only[yq80.down,zA,lemS.down,lemC.down,zap,zao,zam,reduceIte,zan,zaq,zar,zas,zat,zau,zav,zaw,zax,reduceCtorEq,lemH.down,t3,lz,az])))
  exact⟨.inr rfl,_,by simp only[yq80.down,zA,lemS.down,lemC.down,zap,zao,zam,reduceIte,zan,zaq,zar,zas,zat,zau,zav,zaw,zax,reduceCtorEq],rfl,kE.then kz (fun C hC e=>by omega)⟩
 obtain⟨w,h',e,rfl,r⟩:=this
 exact⟨h',e,r⟩
end Go.X
end
section
open Go Go.X
namespace Go.X
set_option linter.unusedVariables false
def Takes (r r':RS) (b:List UInt8):Prop:=r'.s=r.s∧(r'.err=0→r.err=0∧r.pos≤r'.pos∧r.s.take r'.pos=r.s.take r.pos++b)
theorem Takes.refl (r:RS):Takes r r []:=⟨rfl,fun h=>⟨h,Nat.le_refl _,by simp⟩⟩
theorem Takes.trans {r r1 r2:RS} {a b:List UInt8} (h1:Takes r r1 a) (h2:Takes r1 r2 b):Takes r r2 (a++b):=by
 refine⟨h2.1.trans h1.1,fun h=>?_⟩
 obtain⟨e1,p1,t1⟩:=h2.2 h
 obtain⟨e0,p0,t0⟩:=h1.2 e1
 rw[h1.1] at t1
 exact⟨e0,Nat.le_trans p0 p1,by rw[t1,t0,List.append_assoc]⟩
theorem Takes.as {r r':RS} {a b:List UInt8} (h:Takes r r' a) (e:r'.err=0→a=b):Takes r r' b:=⟨h.1,fun q=>by rw[←e q];exact h.2 q⟩
theorem Takes.bad {r r':RS} {b:List UInt8} (hs:r'.s=r.s) (h:r'.err≠0):Takes r r' b:=⟨hs,fun q=>absurd q h⟩
theorem zIW (r:RS) (n:Nat):Takes r (zd r n).1 (zd r n).2:=by
 refine⟨zGz r n,fun h=>?_⟩
 obtain⟨h1,h2,h3,h4⟩:=zJ0 h
 rw[h3,h4]
 exact⟨h1,Nat.le_add_right _ _,take_add⟩
theorem zG0 {r:RS} {n:Nat} (h:(zd r n).1.err=0):(zd r n).2.length=n:=by
 obtain⟨h1,h2,h3,h4⟩:=zJ0 h
 rw[h4,List.length_take,List.length_drop];omega
theorem zGQ (r:RS) (k:Nat):Takes r (zb r k).1 (numB (zb r k).2 k):=by
 refine (zIW r k).as fun h=>?_
 have hl:=zG0 (r:=r) (n:=k) h
 have:=zYy (zd r k).2
 rw[hl] at this
 exact this.symm
theorem zZl (r:RS):Takes r (zd r 32).1 (zBO (zd r 32).2):=(zIW r 32).as fun h=>(hashB_32 (zG0 h)).symm
theorem zML (r:RS) (m:Nat):Takes r (zp r m).1 (numB (zp r m).2 4):=by
 unfold zp
 by_cases h0:(zb r 4).1.err≠0
 ·rw[if_pos h0];exact .bad (zCP r 4) h0
 ·rw[if_neg h0]
  by_cases h1:m<(zb r 4).2
  ·rw[if_pos h1];exact .bad rfl (by show (3:Nat)≠0;decide)
  ·rw[if_neg h1];exact zGQ r 4
theorem zGR (r:RS) (m:Nat):Takes r (zBV r m).1 (zA4 (zBV r m).2):=by
 have h1:=(zML r m).trans (zIW (zp r m).1 (zp r m).2)
 have e:zBV r m=((if (zd (zp r m).1 (zp r m).2).1.err≠0 then ⟨(zd (zp r m).1 (zp r m).2).1.s,r.pos,(zd (zp r m).1 (zp r m).2).1.err⟩ else (zd (zp r m).1 (zp r m).2).1),(zd (zp r m).1 (zp r m).2).2):=rfl
 rw[e]
 by_cases h0:(zd (zp r m).1 (zp r m).2).1.err≠0
 ·rw[if_pos h0];exact .bad (by show (zd (zp r m).1 (zp r m).2).1.s=_;exact h1.1) h0
 ·rw[if_neg h0]
  refine h1.as fun h=>?_
  unfold zA4
  show _=numB (zd (zp r m).1 (zp r m).2).2.length 4++_
  rw[zG0 h]
theorem zK7:∀ (n:Nat) (r:RS) (acc:List Int),(zAf n r acc).1.err=0→∃m,(zAf n r acc).2=acc++m∧m.length=n∧Takes r (zAf n r acc).1 (zBC m)
 | 0,r,acc,h=>⟨[],by simp[zAf],rfl,by simpa [zBC,zAf] using Takes.refl r⟩
 | n+1,r,acc,h=>by
  unfold zAf at h ⊢
  by_cases q:r.err=0
  ·rw[if_pos q] at h ⊢
   obtain⟨m,m1,m2,m3⟩:=zK7 n _ _ h
   refine⟨((zb r 1).2:Int)::m,by rw[m1];simp,by rw[List.length_cons,m2],?_⟩
   have e:zBC (((zb r 1).2:Int)::m)=numB (zb r 1).2 1++zBC m:=by
    have:=zFz r
    simp only[zBC,List.flatMap_cons]
    rw[w64_nat (by omega)]
   rw[e]
   exact (zGQ r 1).trans m3
  ·rw[if_neg q] at h
   exact absurd h q
theorem zK9:∀ (n:Nat) (r:RS) (acc:List Int),(zAf n r acc).1.s=r.s
 | 0,_,_=>rfl
 | n+1,r,acc=>by
  unfold zAf
  split
  ·rw[zK9 n,zCP]
  ·rfl
theorem zMM (r:RS):Takes r (zAn r).1 (zBB (zAn r).2):=by
 unfold zAn memQ
 have hs:=zK9 (zb r 1).2 (zb r 1).1 []
 rw[zCP] at hs
 by_cases h0:(zAf (zb r 1).2 (zb r 1).1 []).1.err=0
 ·rw[if_pos h0]
  by_cases h1:zAx (zAf (zb r 1).2 (zb r 1).1 []).2=true
  ·rw[if_pos h1]
   obtain⟨m,m1,m2,m3⟩:=zK7 _ _ _ h0
   refine ((zGQ r 1).trans m3).as fun _=>?_
   rw[m1,List.nil_append,zBB,m2]
  ·rw[if_neg h1];exact .bad hs (by show (6:Nat)≠0;decide)
 ·rw[if_neg h0];exact .bad hs h0
theorem zHM {r:RS} (h:(endR r).err=0):r.err=0∧r.s.length≤r.pos:=by
 unfold endR at h
 split at h
 ·cases h
 ·rename_i q
  refine⟨h,?_⟩
  rcases Nat.lt_or_ge r.pos r.s.length with p|p
  ·exact absurd ⟨by omega,h⟩ q
  ·exact p
theorem zMK {s b:List UInt8} {r:RS} (t:Takes ⟨s,0,0⟩ r b) (h:(endR r).err=0):b=s:=by
 obtain⟨h1,h2⟩:=zHM h
 obtain⟨_,_,h3⟩:=t.2 h1
 have h3:s.take r.pos=s.take 0++b:=h3
 have hs:r.s=s:=t.1
 rw[hs] at h2
 rw[List.take_of_length_le h2] at h3
 simpa using h3.symm
end Go.X
end
section
open Go Go.X Go.Proofs Go.RowKit
namespace Go.X
set_option linter.unusedVariables false
structure zFD (pr:Prog):Prop where
 enc:zEJ pr
 new:pr.prim 17=none
 newC:pr.code 17=some xq17
 dec:pr.prim 92=none
 decC:pr.code 92=some xq92
theorem zGs {a b:List UInt8}:binX BinOp.leq (.string (strOf a)) (.string (strOf b))=some (.bool (Op.bytesLess a b||a==b)):=by simp[binX,zCB,zAk]
theorem mk_map {t:Fr} {h:Heap}:mkH h (zAT t .mkmap)=some (.map (some h.next),h.newMap):=rfl
theorem SNew_run {pr:Prog} (T:zFD pr) {h:Heap}:∃h',cfi pr 17 [] h=some (ptr (h.next+1),h')∧Var h' (h.next+1) [.map (some h.next)]∧MapK h' h.next [] (some ([],0))∧h'.next=h.next+2∧Grows h h':=by
 have:∃w h',cfi pr 17 [] h=some (w,h')∧w=ptr (h.next+1)∧Var h' (h.next+1) [.map (some h.next)]∧MapK h' h.next [] (some ([],0))∧h'.next=h.next+2∧Grows h h':=by
  refine zj T.new T.newC rfl ?_
  unfold xq17
  dsimp only[zW]
  refine wpk.out (k:=[]) ?_
  have fl:zt [.map none] [(0,1,.map (some h.next))]=some [.map (some h.next)]:=rfl
  have cp:zl (Value.agg #[.map (some h.next)])=[.map (some h.next)]:=rfl
  obtain⟨g,hg⟩:∃g,h.newMap=g:=⟨_,rfl⟩
  have m:MapK g h.next [] (some ([],0)):=by rw[←hg];exact map_new
  have k:Grows h g:=by rw[←hg];exact Grows.newMap
  have n:g.next=h.next+1:=by rw[←hg];rfl
  (repeat (first|refine zP ?_|refine zL ?_|refine zO ?_|refine zC ?_|refine zB ?_|refine zJ ?_|refine zK ?_|refine zM ?_|refine zF ?_|refine zH ?_|refine zG ?_|refine zI (by decide) ?_|refine zN ?_|((first|refine zE ?_|refine zQ ?_|refine zS rfl rfl ?_|refine zR rfl ?_|refine zD ?_);simp only[yq17.down,zA,lemS.down,lemC.down,zap,zao,zam,reduceIte,zan,zaq,zar,zas,zat,zau,zav,zaw,zax,reduceCtorEq,lemH.down,mk_map,hg,fl,cp])))
  exact⟨.inr rfl,_,by simp only[yq17.down,zA,lemS.down,lemC.down,zap,zao,zam,reduceIte,zan,zaq,zar,zas,zat,zau,zav,zaw,zax,reduceCtorEq];rfl,by rw[n];rfl,by rw[←n];exact Var.new_self,m.grow Grows.new,by show g.next+1=_;omega,k.trans Grows.new⟩
 obtain⟨w,h',e,rfl,r⟩:=this
 exact⟨h',e,r⟩
structure SDInv (s:List UInt8) (h:Heap) (N R X M:Nat) (m:Nat) (f:Fr) (g:Heap) (r:RS) (l:List KV) (bs:List Nat) (c:Nat) (last:List UInt8):Prop where
 rd:Rd g R r
 vx:Var g X [.map (some M)]
 mp:MapK g M l (some (bs,c))
 sk:StK l.length bs c
 t4:f.get 4=.pointer (some ⟨R,0,none⟩)
 t5:f.get 5=ptr X
 t6:f.get 6=.string (strOf last)
 t7:f.get 7=.int .i64 (m:Int)
 gr:Grows h g
 ok:r.err=0→Takes ⟨s,0,0⟩ r (numB N 4++kvsB l)∧Rise l∧l.length+m=N∧(l≠[]→(l.map (·.1)).getLast?=some last)∧∀q∈l,q.1.length≤33∧q.2.length≤64
 rs:r.s=s
theorem SDec_run {pr:Prog} (T:zFD pr) {h:Heap} {s:List UInt8} (hs:s.length≤9223372036854775807) :
  ∃w h',cfi pr 92 [.string (strOf s)] h=some (w,h')∧Grows h h'∧((∃e:Nat,e≠0∧w=.tuple #[.pointer none,.int .i64 (e:Int)])∨∃X M l st,h.next≤X∧h.next≤M∧w=.tuple #[ptr X,.int .i64 0]∧Var h' X [.map (some M)]∧MapK h' M l st∧Rise l∧l.length≤1024∧(∀q∈l,q.1.length≤33∧q.2.length≤64)∧stB l=s):=by
 refine zj T.dec T.decC rfl ?_
 unfold xq92
 dsimp only[zW]
 refine wpk.out (k:=[]) ?_
 have TW:=T.enc.st.wire
 obtain⟨ga,ea,ra,ka⟩:=zJV TW h s hs
 have na:h.next<ga.next:=ra.2.1
 obtain⟨gb,eb,vb,mb,nb,kb⟩:=SNew_run T (h:=ga)
 obtain⟨gc,ec,rc,kc⟩:=zJZ TW (ra.grow kb) 1024 (by decide)
 have ec:cfi pr 108 [.pointer (some ⟨h.next,0,none⟩),.int .i64 1024] gb=some (.int .i64 ((zp ⟨s,0,0⟩ 1024).2:Int),gc):=ec
 have cm:=zKF ⟨s,0,0⟩ 1024
 have tc:=zML ⟨s,0,0⟩ 1024
 obtain⟨C,hC⟩:∃C,zp ⟨s,0,0⟩ 1024=C:=⟨_,rfl⟩
 rw[hC] at ec rc cm tc
 have vc:=vb.keep kc (fun e=>by omega)
 have mc:=mb.keep kc (fun e=>by omega)
 have gc1:Grows h gc:=(ka.trans kb).then kc (fun A hA e=>by omega)
 (repeat (first|refine zP ?_|refine zL ?_|refine zO ?_|refine zC ?_|refine zB ?_|refine zJ ?_|refine zK ?_|refine zM ?_|refine zF ?_|refine zH ?_|refine zG ?_|refine zI (by decide) ?_|refine zN ?_|((first|refine zE ?_|refine zQ ?_|refine zS rfl rfl ?_|refine zR rfl ?_|refine zD ?_);simp only[yq92.down,zA,lemS.down,lemC.down,zap,zao,zam,reduceIte,zan,zaq,zar,zas,zat,zau,zav,zaw,zax,reduceCtorEq,lemH.down,ea,eb,ec])))
 refine zAY (fun m f g=>∃r l bs c last,SDInv s h C.2 h.next (ga.next+1) ga.next m f g r l bs c last) ?_ C.2 _ _ ⟨C.1,[],[],0,[],rc,vc,mc,⟨rfl,List.nodup_nil,fun b hb=>by cases hb⟩,by simp only[yq92.down,zA,lemS.down,lemC.down,zap,zao,zam,reduceIte,zan,zaq,zar,zas,zat,zau,zav,zaw,zax,reduceCtorEq],by simp only[yq92.down,zA,lemS.down,lemC.down,zap,zao,zam,reduceIte,zan,zaq,zar,zas,zat,zau,zav,zaw,zax,reduceCtorEq],by simp only[yq92.down,zA,lemS.down,lemC.down,zap,zao,zam,reduceIte,zan,zaq,zar,zas,zat,zau,zav,zaw,zax,reduceCtorEq],by simp only[yq92.down,zA,lemS.down,lemC.down,zap,zao,zam,reduceIte,zan,zaq,zar,zas,zat,zau,zav,zaw,zax,reduceCtorEq],gc1,fun _=>⟨by simpa [kvsB] using tc,by simp[Rise],by simp,fun q=>absurd rfl q,fun q hq=>by cases hq⟩,tc.1⟩
 rintro m f g ⟨r,l,bs,c,last,I⟩ hnext
 obtain⟨rd,vx,mk,sk,t4,t5,t6,t7,gr,ok,rs⟩:=I
 unfold ptr at t5
 refine xq92_11k ?_
 dsimp only[zJT]
 have er:=zBt TW rd
 obtain⟨gE,eE,rE,kE⟩:=zJa TW rd
 have grE:Grows h gE:=gr.then kE (fun A hA e=>by omega)
 have fin:(endR r).err≠0→Grows h gE∧((∃e:Nat,e≠0∧Value.tuple #[.pointer none,.int .i64 ((endR r).err:Int)]=.tuple #[.pointer none,.int .i64 (e:Int)])∨∃X M l st,h.next≤X∧h.next≤M∧Value.tuple #[.pointer none,.int .i64 ((endR r).err:Int)]=.tuple #[ptr X,.int .i64 0]∧Var gE X [.map (some M)]∧MapK gE M l st∧Rise l∧l.length≤1024∧(∀q∈l,q.1.length≤33∧q.2.length≤64)∧stB l=s):=fun hne=>⟨grE,.inl ⟨_,hne,rfl⟩⟩
 by_cases c0:m=0
 ·subst c0
  have d0:decide (((0:Nat):Int)>0)=false:=by decide
  by_cases e0:(endR r).err=0
  ·have b0:(((endR r).err:Int)==0)=true:=by rw[e0];rfl
   (repeat (first|refine zP ?_|refine zL ?_|refine zO ?_|refine zC ?_|refine zB ?_|refine zJ ?_|refine zK ?_|refine zM ?_|refine zF ?_|refine zH ?_|refine zG ?_|refine zI (by decide) ?_|refine zN ?_|((first|refine zE ?_|refine zQ ?_|refine zS rfl rfl ?_|refine zR rfl ?_|refine zD ?_);simp only[yq92.down,zA,lemS.down,lemC.down,zap,zao,zam,reduceIte,zan,zaq,zar,zas,zat,zau,zav,zaw,zax,reduceCtorEq,lemH.down,t4,t5,t7,d0,zo,eE,b0,Bool.not_true,Bool.not_false])))
   obtain⟨o1,o2,o3,o4,o5⟩:=ok (zHM e0).1
   have ob:=zMK o1 e0
   refine⟨.inr rfl,_,by (simp only[yq92.down,zA,lemS.down,lemC.down,zap,zao,zam,reduceIte,zan,zaq,zar,zas,zat,zau,zav,zaw,zax,reduceCtorEq,t5])<;>rfl,grE,.inr ⟨ga.next+1,ga.next,l,_,by omega,by omega,rfl,vx.keep kE (fun e=>by omega),mk.keep kE (fun e=>by omega),o2,by omega,o5,?_⟩⟩
   rw[←ob,stB]
   congr 2
  ·have b0:(((endR r).err:Int)==0)=false:=by rw[beq_eq_false_iff_ne];omega
   (repeat (first|refine zP ?_|refine zL ?_|refine zO ?_|refine zC ?_|refine zB ?_|refine zJ ?_|refine zK ?_|refine zM ?_|refine zF ?_|refine zH ?_|refine zG ?_|refine zI (by decide) ?_|refine zN ?_|((first|refine zE ?_|refine zQ ?_|refine zS rfl rfl ?_|refine zR rfl ?_|refine zD ?_);simp only[yq92.down,zA,lemS.down,lemC.down,zap,zao,zam,reduceIte,zan,zaq,zar,zas,zat,zau,zav,zaw,zax,reduceCtorEq,lemH.down,t4,t5,t7,d0,zo,eE,b0,Bool.not_true,Bool.not_false])))
   exact⟨.inr rfl,_,by simp only[yq92.down,zA,lemS.down,lemC.down,zap,zao,zam,reduceIte,zan,zaq,zar,zas,zat,zau,zav,zaw,zax,reduceCtorEq],fin e0⟩
 have d0:decide ((m:Int)>0)=true:=decide_eq_true (by omega)
 by_cases c1:¬r.err=0
 ·have b1:((r.err:Int)==0)=false:=by rw[beq_eq_false_iff_ne];omega
  have e0:(endR r).err≠0:=fun q=>c1 (zHM q).1
  have b0:(((endR r).err:Int)==0)=false:=by rw[beq_eq_false_iff_ne];omega
  (repeat (first|refine zP ?_|refine zL ?_|refine zO ?_|refine zC ?_|refine zB ?_|refine zJ ?_|refine zK ?_|refine zM ?_|refine zF ?_|refine zH ?_|refine zG ?_|refine zI (by decide) ?_|refine zN ?_|((first|refine zE ?_|refine zQ ?_|refine zS rfl rfl ?_|refine zR rfl ?_|refine zD ?_);simp only[yq92.down,zA,lemS.down,lemC.down,zap,zao,zam,reduceIte,zan,zaq,zar,zas,zat,zau,zav,zaw,zax,reduceCtorEq,lemH.down,t4,t5,t7,d0,b1,er,zo,eE,b0,Bool.not_true,Bool.not_false])))
  exact⟨.inr rfl,_,by simp only[yq92.down,zA,lemS.down,lemC.down,zap,zao,zam,reduceIte,zan,zaq,zar,zas,zat,zau,zav,zaw,zax,reduceCtorEq],fin e0⟩
 have c1:r.err=0:=Decidable.not_not.1 c1
 have b1:((r.err:Int)==0)=true:=by rw[c1];rfl
 obtain⟨o1,o2,o3,o4,o5⟩:=ok c1
 obtain⟨g1,e1,r1,k1⟩:=zFG TW rd 33 (by omega)
 have tk1:=zGR r 33
 have l1:=zGS r 33
 obtain⟨p,hp⟩:∃p,zBV r 33=p:=⟨_,rfl⟩
 rw[hp] at e1 r1 tk1 l1
 have e1:cfi pr 87 [.pointer (some ⟨h.next,0,none⟩),.int .i64 33] g=some (.string (strOf p.2),g1):=e1
 obtain⟨g2,e2,r2,k2⟩:=zFG TW r1 64 (by omega)
 have tk2:=zGR p.1 64
 have l2:=zGS p.1 64
 obtain⟨q,hq⟩:∃q,zBV p.1 64=q:=⟨_,rfl⟩
 rw[hq] at e2 r2 tk2 l2
 have e2:cfi pr 87 [.pointer (some ⟨h.next,0,none⟩),.int .i64 64] g1=some (.string (strOf q.2),g2):=e2
 have k12:Keeps (fun A=>A=h.next) g g2:=k1.trans k2 (fun _ _ e=>e)
 have er2:=zBt TW r2
 have qs:q.1.s=s:=tk2.1.trans (tk1.1.trans rs)
 have hw:IntKind.i64.wrap ((m:Int) - 1)=((m - 1:Nat):Int):=by rw[IntKind.wrap_i64];omega
 clear hp hq
 have tail:∀ (g3:Heap) (r3:RS),Rd g3 h.next r3→Keeps (fun A=>A=h.next) g g3→r3.s=s →
   (r3.err=0→Takes r r3 (zA4 p.2++zA4 q.2)∧(l≠[]→last<p.2)) →
   ∃x n h1 h2,(∀sp,g3.load ⟨ga.next+1,0,sp⟩=some (.map (some ga.next)))∧zCn g3 (.string (strOf [])) .str (.map (some ga.next)) (.string (strOf p.2))=some (.tuple #[x,.int .i64 ((n:Nat):Int)],h1)∧zCf h1 (.map (some ga.next)) (.int .i64 ((n:Nat):Int)) (.string (strOf q.2))=some (.tuple #[],h2) ∧
    ∀f',f'.get 4=.pointer (some ⟨h.next,0,none⟩)→f'.get 5=ptr (ga.next+1)→f'.get 6=.string (strOf p.2)→f'.get 7=.int .i64 ((m - 1:Nat):Int)→∃r l bs c last,SDInv s h C.2 h.next (ga.next+1) ga.next (m - 1) f' h2 r l bs c last:=by
  intro g3 r3 rd3 k3 rs3 ok3
  have mk3:=mk.keep k3 (fun e=>by omega)
  have vx3:=vx.keep k3 (fun e=>by omega)
  obtain⟨x,n,h1,h2,l',bs',c',m1,m2,m3,m4,m5,m6⟩:=zX4 mk3 sk p.2 q.2
  refine⟨x,n,h1,h2,fun sp=>vx3.load,m1,m2,fun f' u4 u5 u6 u7=>⟨r3,l',bs',c',p.2,rd3.keep m6 (fun e=>by omega),vx3.keep m6 (fun e=>by omega),m3,m4,u4,u5,u6,u7,(gr.then k3 (fun A hA e=>by omega)).then m6 (fun A hA e=>by omega),fun z=>?_,rs3⟩⟩
  obtain⟨z1,z2⟩:=ok3 z
  have hx:∀x∈l,x.1<p.2:=by
   by_cases hl:l=[]
   ·subst hl;intro x hx;cases hx
   ·exact Rise.last o2 o4 (z2 hl) (fun _=>trivial)
  have hl':=m5 fun x hx' e=>by have:=hx x hx';rw[e] at this;exact List.lt_irrefl _ this
  subst hl'
  refine⟨?_,Rise.snoc o2 hx,by rw[List.length_append];show l.length+1+(m - 1)=_;omega,fun _=>by simp,fun y hy=>?_⟩
  ·rw[zKy,←List.append_assoc]
   exact o1.trans z1
  ·rcases List.mem_append.1 hy with hy|hy
   ·exact o5 y hy
   ·obtain rfl:y=(p.2,q.2):=by simpa using hy
    exact⟨l1,l2⟩
 by_cases c2:¬q.1.err=0
 ·have b2:((q.1.err:Int)==0)=false:=by rw[beq_eq_false_iff_ne];omega
  obtain⟨x,n,h1,h2,lx,m1,m2,hI⟩:=tail g2 q.1 r2 k12 qs (fun z=>absurd z c2)
  (repeat (first|refine zP ?_|refine zL ?_|refine zO ?_|refine zC ?_|refine zB ?_|refine zJ ?_|refine zK ?_|refine zM ?_|refine zF ?_|refine zH ?_|refine zG ?_|refine zI (by decide) ?_|refine zN ?_|((first|refine zE ?_|refine zQ ?_|refine zS rfl rfl ?_|refine zR rfl ?_|refine zD ?_);simp only[yq92.down,zA,lemS.down,lemC.down,zap,zao,zam,reduceIte,zan,zaq,zar,zas,zat,zau,zav,zaw,zax,reduceCtorEq,lemH.down,t4,t5,t6,t7,d0,b1,er,e1,e2,er2,b2,zo,lx,zFc,m1,zFb,m2,hw])))
  exact hnext (m - 1) _ _ (by omega) (hI _ (by simp only[yq92.down,zA,lemS.down,lemC.down,zap,zao,zam,reduceIte,zan,zaq,zar,zas,zat,zau,zav,zaw,zax,reduceCtorEq,t4]) (by (simp only[yq92.down,zA,lemS.down,lemC.down,zap,zao,zam,reduceIte,zan,zaq,zar,zas,zat,zau,zav,zaw,zax,reduceCtorEq,t5])<;>rfl) (by simp only[yq92.down,zA,lemS.down,lemC.down,zap,zao,zam,reduceIte,zan,zaq,zar,zas,zat,zau,zav,zaw,zax,reduceCtorEq]) (by simp only[yq92.down,zA,lemS.down,lemC.down,zap,zao,zam,reduceIte,zan,zaq,zar,zas,zat,zau,zav,zaw,zax,reduceCtorEq,t7,hw]))
 have c2:q.1.err=0:=Decidable.not_not.1 c2
 have b2:((q.1.err:Int)==0)=true:=by rw[c2];rfl
 obtain⟨g3,e3,r3,k3⟩:=zFE TW r2 6
 have e3:cfi pr 151 [.pointer (some ⟨h.next,0,none⟩),.int .i64 6] g2=some (.tuple #[],g3):=e3
 rw[if_pos c2] at r3
 by_cases c3:(Op.bytesLess p.2 last||p.2==last)=true
 ·obtain⟨x,n,h1,h2,lx,m1,m2,hI⟩:=tail g3 _ r3 (k12.trans k3 (fun _ _ e=>e)) qs (fun z=>by cases z)
  (repeat (first|refine zP ?_|refine zL ?_|refine zO ?_|refine zC ?_|refine zB ?_|refine zJ ?_|refine zK ?_|refine zM ?_|refine zF ?_|refine zH ?_|refine zG ?_|refine zI (by decide) ?_|refine zN ?_|((first|refine zE ?_|refine zQ ?_|refine zS rfl rfl ?_|refine zR rfl ?_|refine zD ?_);simp only[yq92.down,zA,lemS.down,lemC.down,zap,zao,zam,reduceIte,zan,zaq,zar,zas,zat,zau,zav,zaw,zax,reduceCtorEq,lemH.down,t4,t5,t6,t7,d0,b1,er,e1,e2,er2,b2,zGs,c3,e3,zo,lx,zFc,m1,zFb,m2,hw])))
  exact hnext (m - 1) _ _ (by omega) (hI _ (by simp only[yq92.down,zA,lemS.down,lemC.down,zap,zao,zam,reduceIte,zan,zaq,zar,zas,zat,zau,zav,zaw,zax,reduceCtorEq,t4]) (by (simp only[yq92.down,zA,lemS.down,lemC.down,zap,zao,zam,reduceIte,zan,zaq,zar,zas,zat,zau,zav,zaw,zax,reduceCtorEq,t5])<;>rfl) (by simp only[yq92.down,zA,lemS.down,lemC.down,zap,zao,zam,reduceIte,zan,zaq,zar,zas,zat,zau,zav,zaw,zax,reduceCtorEq]) (by simp only[yq92.down,zA,lemS.down,lemC.down,zap,zao,zam,reduceIte,zan,zaq,zar,zas,zat,zau,zav,zaw,zax,reduceCtorEq,t7,hw]))
 have c3:(Op.bytesLess p.2 last||p.2==last)=false:=by simpa using c3
 have hlast:last<p.2:=by
  rw[zK0,Bool.or_eq_false_iff] at c3
  have h1:¬p.2<last:=by simpa using c3.1
  have h2:p.2≠last:=by simpa using c3.2
  rcases Std.lt_trichotomy p.2 last with q|q|q
  ·exact absurd q h1
  ·exact absurd q h2
  ·exact q
 obtain⟨b,g4,e4,k4⟩:=zZE T.enc.st (h:=g2) (k:=p.2) (v:=q.2)
 cases b with
 | true =>
  obtain⟨x,n,h1,h2,lx,m1,m2,hI⟩:=tail g4 q.1 (r2.grow k4) (k12.trans k4.keeps (fun _ _ e=>False.elim e)) qs (fun z=>⟨tk1.trans tk2,fun _=>hlast⟩)
  (repeat (first|refine zP ?_|refine zL ?_|refine zO ?_|refine zC ?_|refine zB ?_|refine zJ ?_|refine zK ?_|refine zM ?_|refine zF ?_|refine zH ?_|refine zG ?_|refine zI (by decide) ?_|refine zN ?_|((first|refine zE ?_|refine zQ ?_|refine zS rfl rfl ?_|refine zR rfl ?_|refine zD ?_);simp only[yq92.down,zA,lemS.down,lemC.down,zap,zao,zam,reduceIte,zan,zaq,zar,zas,zat,zau,zav,zaw,zax,reduceCtorEq,lemH.down,t4,t5,t6,t7,d0,b1,er,e1,e2,er2,b2,zGs,c3,e4,zo,lx,zFc,m1,zFb,m2,hw,Bool.not_true])))
  exact hnext (m - 1) _ _ (by omega) (hI _ (by simp only[yq92.down,zA,lemS.down,lemC.down,zap,zao,zam,reduceIte,zan,zaq,zar,zas,zat,zau,zav,zaw,zax,reduceCtorEq,t4]) (by (simp only[yq92.down,zA,lemS.down,lemC.down,zap,zao,zam,reduceIte,zan,zaq,zar,zas,zat,zau,zav,zaw,zax,reduceCtorEq,t5])<;>rfl) (by simp only[yq92.down,zA,lemS.down,lemC.down,zap,zao,zam,reduceIte,zan,zaq,zar,zas,zat,zau,zav,zaw,zax,reduceCtorEq]) (by simp only[yq92.down,zA,lemS.down,lemC.down,zap,zao,zam,reduceIte,zan,zaq,zar,zas,zat,zau,zav,zaw,zax,reduceCtorEq,t7,hw]))
 | false =>
  obtain⟨g5,e5,r5,k5⟩:=zFE TW (r2.grow k4) 6
  have e5:cfi pr 151 [.pointer (some ⟨h.next,0,none⟩),.int .i64 6] g4=some (.tuple #[],g5):=e5
  rw[if_pos c2] at r5
  obtain⟨x,n,h1,h2,lx,m1,m2,hI⟩:=tail g5 _ r5 ((k12.trans k4.keeps (fun _ _ e=>False.elim e)).trans k5 (fun _ _ e=>e)) qs (fun z=>by cases z)
  (repeat (first|refine zP ?_|refine zL ?_|refine zO ?_|refine zC ?_|refine zB ?_|refine zJ ?_|refine zK ?_|refine zM ?_|refine zF ?_|refine zH ?_|refine zG ?_|refine zI (by decide) ?_|refine zN ?_|((first|refine zE ?_|refine zQ ?_|refine zS rfl rfl ?_|refine zR rfl ?_|refine zD ?_);simp only[yq92.down,zA,lemS.down,lemC.down,zap,zao,zam,reduceIte,zan,zaq,zar,zas,zat,zau,zav,zaw,zax,reduceCtorEq,lemH.down,t4,t5,t6,t7,d0,b1,er,e1,e2,er2,b2,zGs,c3,e4,e5,zo,lx,zFc,m1,zFb,m2,hw,Bool.not_false])))
  exact hnext (m - 1) _ _ (by omega) (hI _ (by simp only[yq92.down,zA,lemS.down,lemC.down,zap,zao,zam,reduceIte,zan,zaq,zar,zas,zat,zau,zav,zaw,zax,reduceCtorEq,t4]) (by (simp only[yq92.down,zA,lemS.down,lemC.down,zap,zao,zam,reduceIte,zan,zaq,zar,zas,zat,zau,zav,zaw,zax,reduceCtorEq,t5])<;>rfl) (by simp only[yq92.down,zA,lemS.down,lemC.down,zap,zao,zam,reduceIte,zan,zaq,zar,zas,zat,zau,zav,zaw,zax,reduceCtorEq]) (by simp only[yq92.down,zA,lemS.down,lemC.down,zap,zao,zam,reduceIte,zan,zaq,zar,zas,zat,zau,zav,zaw,zax,reduceCtorEq,t7,hw]))
end Go.X
end
