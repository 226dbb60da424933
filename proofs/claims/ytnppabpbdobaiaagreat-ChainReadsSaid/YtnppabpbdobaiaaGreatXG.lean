/- The functions of the library on maps, told; the contracts of the shelf laid at this program; the table of what is told. -/
import Derived.Laws.AppendOwn
import Derived.Sort.KeysCollected
import Derived.Shelf.Strings.Repeat
import Derived.Shelf.SlIter.Nil
import Derived.Shelf.SortM.Plain
import Derived.Shelf.SortM.SortNone
import Derived.Shelf.SlMaps.Clone
import Derived.Test.YtnppabpbdobaiaaGreatProg
import Derived.KernelRfl
import Derived.Shelf.Spec.SlicesInsertGrow
import Derived.Test.YtnppabpbdobaiaaGreatXC
import Derived.Test.YtnppabpbdobaiaaGreatXE
import Derived.Test.YtnppabpbdobaiaaGreatXF
set_option linter.unusedSimpArgs false
set_option linter.unusedVariables false
set_option maxHeartbeats 2000000
open Nat renaming reduceLeDiff → zam, reduceEqDiff → zan, reduceAdd → zao
open Int renaming reduceBEq → zap, reduceLT → zaq, reduceLE → zar, reduceGT → zas, reduceGE → zat, reduceEq → zau, reduceAdd → zav, reduceSub → zaw, reduceMul → zax
section
namespace Go.X
open Go.RowKit Go.Maps
open Go.Proofs (encStr)
set_option linter.unusedVariables false
section
variable {P:Program} {ρ:Ren} {base:Nat} {h:Heap} {w w':World}
theorem HRel.name (hr:HRel P base ρ h w) {id:Nat} {L:Loc} (hb:h.blks.get id=none) (hρ:ρ id=none) (hL:L.b<w.heap.size):HRel P base (upd ρ id L) h w:=by
 have hm:=zBc (l:=L) hρ
 have hback:∀A l bb,h.blks.get A=some bb→upd ρ id L A=some l→ρ A=some l:=fun A l bb hq hA=>by
  rwa [zr (fun e=>by rw[e,hb] at hq;cases hq)] at hA
 have hlt:∀A bb,h.blks.get A=some bb→A≠id:=fun A bb hq e=>by rw[e,hb] at hq;cases hq
 refine⟨hr.le,fun A l hA=>?_,fun A c hc hs=>?_,fun A c l hc hA=>?_,fun A B c d l m hAB hc hd hA hB=>hr.alias A B c d l m hAB hc hd (hback A l _ (okCells_iff.1 hc).1 hA) (hback B m _ (okCells_iff.1 hd).1 hB),
  fun A l es st hes hA=>?_,fun A B es st fs su l m hAB h1 h2 hA hB=>hr.malias A B es st fs su l m hAB h1 h2 (hback A l _ h1 hA) (hback B m _ h2 hB),zEC hr.fin,fun A c f l hc hf h0 hro hA=>hr.mark A c f l hc hf h0 hro (hback A l _ (okCells_iff.1 hc).1 hA),
  hr.loops.step hm (fun A r l h1 _ h2=>⟨h1,hback A l _ h1 h2⟩) (fun _ _ h _=>h) (fun A l h1 h2=>by obtain⟨c,k1,k2⟩:=h1;exact .inr ⟨⟨c,k1,k2⟩,hback A l _ k1 h2⟩) (fun A l es st es' cl h1 h2 h3=>.inr ⟨es,h1,hback A l _ h1 h2,h3⟩)⟩
 ·by_cases e:A=id
  ·subst e;rw[zAL] at hA;cases hA;exact hL
  ·rw[zr e] at hA;exact hr.bnd A l hA
 ·rw[zr (hlt A _ hc)] at hs
  obtain⟨l,hl⟩:=Option.isSome_iff_exists.1 (hr.found A c hc hs)
  rw[hm _ _ hl];rfl
 ·obtain⟨cs,T,fz,g1,g2,g3,g4,g5⟩:=hr.cells A c l hc (hback A l _ (okCells_iff.1 hc).1 hA)
  exact⟨cs,T,fz,g1,g2,g3,g4.mono hm,g5⟩
 ·obtain⟨es',cl,g1,g2,g3⟩:=hr.maps A l es st hes (hback A l _ hes hA)
  exact⟨es',cl,g1,g2,g3.mono fun a b hab=>⟨hab.1.mono hm,hab.2.mono hm⟩⟩
theorem zLc (hr:HRel P base ρ h w) (wf:HWF h) (hρ:ρ h.next=none) (hB:Below w.heap.size w w') {b:NBlk} {g:Nat} {obj:Obj} (hg:w.heap.size≤g) (ho:w'.heap[g]?=some obj) (hobj:ObjOK ρ b obj) :
  HRel P base (upd ρ h.next ⟨g,0,zAF obj⟩) (h.push b) w'∧HWF (h.push b)∧Ext base ρ h w (upd ρ h.next ⟨g,0,zAF obj⟩) (h.push b) w':=by
 have hm:=zBc (l:=(⟨g,0,zAF obj⟩:Loc)) hρ
 have hfr:=(wf.fresh h.next (Nat.le_refl _)).1
 have hlt:g<w'.heap.size:=(Array.getElem?_eq_some_iff.1 ho).1
 have h1:HRel P base (upd ρ h.next ⟨g,0,zAF obj⟩) h w':=(hr.below hB).name hfr hρ hlt
 have h2:Pend base (upd ρ h.next ⟨g,0,zAF obj⟩) w' h.next b:=⟨⟨g,0,zAF obj⟩,obj,zAL,rfl,ho,hobj.mono hm,rfl,by simp only;have:=hr.le;omega,fun A L' hA hne=>by
  rw[zr hne] at hA
  have:=hr.bnd A L' hA
  simp only;omega⟩
 have h3:=h1.adopt h2 hfr (fun A c hc e=>by have:=(wf.fam A c hc).1;omega)
 refine⟨h3.congr (fun A=>by rw[zBo]) (fun A=>by rw[zBo]),wf.push b,hm,fun A hA=>?_,by rw[zBE];omega,fun A hA hs=>?_,fun A hA _=>⟨by rw[zBn,if_neg (by omega)],zDS h b A (by omega)⟩,hB.mono hr.le,fun r hr' _=>hB.block r hr',fun A l hA hn=>?_⟩
 ·by_cases e:A=h.next
  ·subst e;rw[zBE];omega
  ·exact absurd (zr e) hA
 ·rw[zBn,if_neg (by omega)] at hs;exact hs
 ·by_cases e:A=h.next
  ·subst e;rw[zAL] at hA;cases hA;exact .inl hg
  ·rw[zr e,hn] at hA;cases hA
def zFY:Prim
 | [.map none],h=>some (.map none,h)
 | [.map (some r)],h=>match h.blks.get r with
  | some (.map es st)=>some (.map (some h.next),(h.push .map).setBlk h.next (.map es st))
  | _=>none
 | _,_=>none
theorem zXt {args:List Value} {h h':Heap} {v:Value} (hr:zFY args h=some (v,h')):(args=[.map none]∧v=.map none∧h'=h) ∨
  ∃r es st,args=[.map (some r)]∧h.blks.get r=some (.map es st)∧v=.map (some h.next)∧h'=(h.push .map).setBlk h.next (.map es st):=by
 unfold zFY at hr
 split at hr
 ·cases hr;exact .inl ⟨rfl,rfl,rfl⟩
 ·split at hr
  ·rename_i hes
   simp only[Option.some.injEq,Prod.mk.injEq] at hr
   exact .inr ⟨_,_,_,rfl,hes,hr.1.symm,hr.2.symm⟩
  ·cases hr
 ·cases hr
theorem Tab.clone {l:List (Nat×Prim)} (ok:XOK P (Tab P l)) {f:Nat} (hcl:zBf P f)
  (h1:∀ (b:Nat) (es:Array MapEntry) (clock:Nat) (w:World),w.heap[b]?=some (.map es clock)→Calls P f #[.map (some b)] w fun e w'=>e=.returned (.map (some w.heap.size))∧w'=w.alloc (.map es clock))
  (h2:∀w:World,Calls P f #[.map none] w fun e w'=>e=.returned (.map none)∧w'=w):XOK P (Tab P ((f,zFY)::l)):=by
 refine Tab.cons ok fun args h v h' hr=>?_
 rcases zXt hr with ⟨rfl,rfl,rfl⟩|⟨r,es,st,rfl,hes,rfl,rfl⟩
 ·refine⟨hcl,Nat.le_refl _,fun base ρ w args' hrel wf _ hargs=>?_⟩
  cases hargs with
  | cons a b =>
   cases a;cases b
   refine (h2 w).mono fun e w' hq=>?_
   obtain⟨rfl,rfl⟩:=hq
   exact⟨_,ρ,rfl,hrel,wf,Ext.refl _ _ _ _,.nilmap⟩
 ·refine⟨hcl,by show h.next≤h.next+1;omega,fun base ρ w args' hrel wf hpre hargs=>?_⟩
  cases hargs with
  | cons a b =>
   cases a;cases b
   rename_i L hL
   obtain⟨es',cl,g1,g2,g3⟩:=hrel.maps r L es st hes hL
   refine (h1 L.b es' cl w g1).mono fun e w' hq=>?_
   obtain⟨rfl,rfl⟩:=hq
   have hρ:ρ h.next=none:=hpre h.next (Nat.le_refl _) (by show h.next<h.next+1;omega)
   have hB:Below w.heap.size w (w.alloc (.map #[] 0)):=(Below.refl _ w).alloc (Nat.le_refl _) _
   obtain⟨s1,s2,s3⟩:=zLc (b:=.map) (g:=w.heap.size) (obj:=.map #[] 0) hrel wf hρ hB (Nat.le_refl _) (World.alloc_heap_new w _) rfl
   have hL1:upd ρ h.next ⟨w.heap.size,0,zAF (.map #[] 0)⟩ h.next=some ⟨w.heap.size,0,zAF (.map #[] 0)⟩:=zAL
   have hm:=zBc (l:=(⟨w.heap.size,0,zAF (.map #[] 0)⟩:Loc)) hρ
   obtain⟨z1,z2,z3⟩:=zDP (r:=h.next) (es:=[]) (fs:=es) (es':=#[]) (fs':=es') (cl:=0) (cl':=cl) s1 s2 (by rw[zBn,if_pos rfl];rfl) hL1 (World.alloc_heap_new w _) (by simp only;exact hrel.le) (g3.mono fun a b hab=>⟨hab.1.mono hm,hab.2.mono hm⟩) (hrel.loops.stamps r L es st es' cl hes hL g1)
   have hw:({ (w.alloc (.map #[] 0)) with heap:=(w.alloc (.map #[] 0)).heap.setIfInBounds w.heap.size (.map es' cl) }:World)=w.alloc (.map es' cl):=by
    have:(w.heap.push (Obj.map #[] 0)).setIfInBounds w.heap.size (.map es' cl)=w.heap.push (.map es' cl):=by
     apply Array.ext_getElem?
     intro i
     by_cases hi:i=w.heap.size
     ·subst hi;simp
     ·rw[Array.getElem?_setIfInBounds_ne (Ne.symm hi),Array.getElem?_push,Array.getElem?_push,if_neg hi,if_neg hi]
    show ({ w with heap:=(w.heap.push (Obj.map #[] 0)).setIfInBounds w.heap.size (.map es' cl) }:World)={ w with heap:=w.heap.push (.map es' cl) }
    rw[this]
   simp only at z1 z3
   rw[hw] at z1 z3
   exact⟨_,_,rfl,z1,z2,Ext.trans s2 (fun A k1 k2=>hpre A k1 k2) s3 z3,.map hL1⟩
def zDY:List (Value×Value)→Option (List (List UInt8))
 | []=>some []
 | (.string s,_)::r=>match zDY r with|some l=>some (s.data.toList::l)|none=>none
 | _::_=>none
def leS:List UInt8→List UInt8→Bool
 | [],_=>true
 | _::_,[]=>false
 | a::as',b::bs=>if a.toNat<b.toNat then true else if b.toNat<a.toNat then false else leS as' bs
def insS (x:List UInt8):List (List UInt8)→List (List UInt8)
 | []=>[x]
 | y::l=>if leS x y then x::y::l else y::insS x l
def zCK:List (List UInt8)→List (List UInt8)
 | []=>[]
 | x::l=>insS x (zCK l)
theorem zHn:∀a b:List UInt8,leS a b=decide (a≤b)
 | [],b=>by simp[leS]
 | a::as',[]=>by simp[leS]
 | a::as',b::bs=>by
  simp only[leS]
  have ih:=zHn as' bs
  by_cases h1:a.toNat<b.toNat
  ·rw[if_pos h1]
   have:a<b:=UInt8.lt_iff_toNat_lt.2 h1
   simp[List.cons_le_cons_iff,this]
  ·rw[if_neg h1]
   by_cases h2:b.toNat<a.toNat
   ·rw[if_pos h2]
    have h3:¬a<b:=fun h=>h1 (UInt8.lt_iff_toNat_lt.1 h)
    have h4:a≠b:=fun e=>by subst e;omega
    simp[List.cons_le_cons_iff,h3,h4]
   ·rw[if_neg h2]
    have h4:a=b:=UInt8.toNat_inj.1 (by omega)
    subst h4
    rw[ih]
    simp[List.cons_le_cons_iff]
theorem zHf (x:List UInt8):∀l,(insS x l).Perm (x::l)
 | []=>List.Perm.refl _
 | y::l=>by
  simp only[insS]
  split
  ·exact List.Perm.refl _
  ·exact ((zHf x l).cons y).trans (List.Perm.swap x y l)
theorem zFq:∀l,(zCK l).Perm l
 | []=>List.Perm.refl _
 | x::l=>(zHf x _).trans ((zFq l).cons x)
theorem zKm (x:List UInt8):∀l:List (List UInt8),l.Pairwise (·≤·)→(insS x l).Pairwise (·≤·)
 | [],_=>by simp[insS]
 | y::l,hl=>by
  simp only[insS]
  rw[List.pairwise_cons] at hl
  split
  ·rename_i hxy
   rw[zHn,decide_eq_true_eq] at hxy
   refine List.pairwise_cons.2 ⟨fun z hz=>?_,List.pairwise_cons.2 hl⟩
   rcases List.mem_cons.1 hz with rfl|hz
   ·exact hxy
   ·exact List.le_trans hxy (hl.1 z hz)
  ·rename_i hxy
   rw[zHn,decide_eq_true_eq] at hxy
   have hyx:y≤x:=(List.le_total x y).resolve_left hxy
   refine List.pairwise_cons.2 ⟨fun z hz=>?_,zKm x l hl.2⟩
   rcases List.mem_cons.1 ((zHf x l).mem_iff.1 hz) with rfl|hz
   ·exact hyx
   ·exact hl.1 z hz
theorem zHj:∀l,(zCK l).Pairwise (·≤·)
 | []=>List.Pairwise.nil
 | x::l=>zKm x _ (zHj l)
theorem isort_eq {l m:List (List UInt8)} (hp:m.Perm l):m.mergeSort (fun x y=>decide (x≤y))=zCK l:=by
 have htr:∀a b c:List UInt8,decide (a≤b)=true→decide (b≤c)=true→decide (a≤c)=true:=fun a b c h1 h2=>by simp only[decide_eq_true_eq] at *;exact List.le_trans h1 h2
 have hto:∀a b:List UInt8,(decide (a≤b)||decide (b≤a))=true:=fun a b=>by simp only[Bool.or_eq_true,decide_eq_true_eq];exact List.le_total a b
 refine List.Perm.eq_of_pairwise (le:=fun a b=>decide (a≤b)=true) (fun a b _ _ h1 h2=>?_) (List.pairwise_mergeSort htr hto m) ((zHj l).imp fun h=>by simpa using h) (((List.mergeSort_perm m _).trans hp).trans (zFq l).symm)
 simp only[decide_eq_true_eq] at h1 h2
 exact List.le_antisymm h1 h2
def zCN:List (List UInt8)→Bool
 | []=>true
 | x::l=>!(l.any fun y=>x==y)&&zCN l
theorem zLB:∀ {l:List (List UInt8)},zCN l=true→l.Nodup
 | [],_=>.nil
 | x::l,h=>by
  simp only[zCN,Bool.and_eq_true,Bool.not_eq_true',List.any_eq_false] at h
  exact List.nodup_cons.2 ⟨fun hin=>h.1 x hin (by simp),zLB h.2⟩
def zD8 (ks:List (List UInt8)) (h:Heap):Option (Value×Heap) :=
 match zCK ks with
 | []=>some (.slice none 0 0,h)
 | s=>some (.slice (some ⟨h.next,0,some 1⟩) s.length s.length,h.push (.cells (s.map fun l=>.string (strOf l))))
def zDv (a:Addr) (h:Heap):Option (List (List UInt8)) :=
 match h.okCells a.block with
 | some c=>cond (c.fam.beq a.block&&c.delta.beq 0&&!c.ro&&a.off.beq 0)
  (match c.cells with
   | [.map none]=>some []
   | [.map (some r)]=>match h.blks.get r with
    | some (.map es _)=>match zDY es with
     | some ks=>cond (zCN ks&&ks.length.ble 1000000000&&ks.all (fun k=>k.length.ble zU)) (some ks) none
     | none=>none
    | _=>none
   | _=>none) none
 | none=>none
def zC4 (ks:List Nat):Prim
 | [.func (.func g) first caps],h=>cond (ks.any (fun k=>g.beq k)&&first.isEmpty) (match caps.toList with
  | [.pointer (some a)]=>match zDv a h with
   | some l=>zD8 l h
   | none=>none
  | _=>none) none
 | _,_=>none
theorem zZj {es:List (Value×Value)} {es':List MapEntry} (hr:All2 (ERel ρ) es es'):∀ {ks},zDY es=some ks→es'.map (·.key)=ks.map encStr:=by
 induction hr with
 | nil=>intro ks hk;cases hk;rfl
 | @cons a b es es' hab _ ih =>
  intro ks hk
  obtain⟨k,v⟩:=a
  unfold zDY at hk
  split at hk
  ·rename_i heq;cases heq
  ·rename_i s v' r heq
   cases heq
   split at hk
   ·rename_i l hl
    cases hk
    obtain⟨h1,_⟩:=hab
    have h1':VRel ρ (.string s) b.key:=h1
    cases hb:b.key<;>rw[hb] at h1'<;>cases h1'
    rw[List.map_cons,List.map_cons,ih hl,hb]
   ·cases hk
  ·cases hk
end
end Go.X
end
section
namespace Go.X
open Go.RowKit Go.Maps
open Go.Proofs (encStr)
open Go.WideElems (Fit rd rg rg_of)
set_option linter.unusedVariables false
section
variable {P:Program} {ρ:Ren} {base:Nat} {h:Heap} {w w':World}
def zDB (K:TypeId) (S:List (List UInt8)→Prop) (w:World) (e:Ending) (w':World):Prop :=
 ∃(v:Value) (ss:List (List UInt8)),e=.returned v∧S ss∧w'.ownsRow w.heap.size K 1 v ss.length ((ss.mergeSort (fun x y=>decide (x≤y))).map encStr)∧(v=.slice none 0 0↔ss=[])∧Below w.heap.size w w'
theorem zYe {a:Addr} {ks:List (List UInt8)} (hk:zDv a h=some ks):∃c,h.okCells a.block=some c∧c.fam=a.block∧c.delta=0∧c.ro=false∧a.off=0 ∧
  ((c.cells=[.map none]∧ks=[])∨∃r es st,c.cells=[.map (some r)]∧h.blks.get r=some (.map es st)∧zDY es=some ks∧zCN ks=true∧ks.length≤1000000000∧∀k∈ks,k.length≤zU):=by
 unfold zDv at hk
 split at hk
 ·rename_i c hc
  cases hb:(c.fam.beq a.block&&c.delta.beq 0&&!c.ro&&a.off.beq 0) with
  | false=>rw[hb] at hk;cases hk
  | true =>
   rw[hb] at hk
   simp only[Bool.and_eq_true,Bool.not_eq_true'] at hb
   obtain⟨⟨⟨b1,b2⟩,b3⟩,b4⟩:=hb
   refine⟨c,hc,Nat.eq_of_beq_eq_true b1,Nat.eq_of_beq_eq_true b2,b3,Nat.eq_of_beq_eq_true b4,?_⟩
   simp only[cond_true] at hk
   split at hk
   ·rename_i hcc;cases hk;exact .inl ⟨hcc,rfl⟩
   ·rename_i r hcc
    split at hk
    ·rename_i es st hes
     split at hk
     ·rename_i l hl
      cases hq:(zCN l&&l.length.ble 1000000000&&l.all (fun k=>k.length.ble zU)) with
      | false=>rw[hq] at hk;cases hk
      | true =>
       rw[hq] at hk
       cases hk
       simp only[Bool.and_eq_true,List.all_eq_true] at hq
       exact .inr ⟨r,es,st,hcc,hes,hl,hq.1.1,Nat.le_of_ble_eq_true hq.1.2,fun k hk=>Nat.le_of_ble_eq_true (hq.2 k hk)⟩
     ·cases hk
    ·cases hk
   ·cases hk
 ·cases hk
theorem zZT {gs:List Nat} {args:List Value} {h':Heap} {v:Value} (hr:zC4 gs args h=some (v,h')) :
  ∃g first caps a ks,args=[.func (.func g) first caps]∧g∈gs∧first.size=0∧caps.toList=[.pointer (some a)]∧zDv a h=some ks∧zD8 ks h=some (v,h'):=by
 unfold zC4 at hr
 split at hr
 ·rename_i g first caps
  cases hb:(gs.any (fun k=>g.beq k)&&first.isEmpty) with
  | false=>rw[hb] at hr;cases hr
  | true =>
   rw[hb] at hr
   simp only[Bool.and_eq_true,List.any_eq_true] at hb
   obtain⟨⟨k,hk,hgk⟩,hf⟩:=hb
   obtain rfl:=Nat.eq_of_beq_eq_true hgk
   simp only[cond_true] at hr
   split at hr
   ·rename_i a hcap
    split at hr
    ·rename_i l hl
     exact⟨_,_,_,_,_,rfl,hk,by simpa using hf,hcap,hl,hr⟩
    ·cases hr
   ·cases hr
 ·cases hr
def bytesV:Value→List UInt8
 | .string s=>s.data.toList
 | _=>[]
theorem fit_of {K:TypeId} (hK:P.underlying K=some .string) {es':Array MapEntry} {cl:Nat} {ks:List (List UInt8)} (hk:es'.toList.map (·.key)=ks.map encStr) (hst:zBu es' cl) (hnd:zCN ks=true) (hl:ks.length≤1000000000) (hb:∀k∈ks,k.length≤zU) :
  Fit (H:=Unit) P K (fun _=>some (.nil,[])) es' cl∧es'.toList.map (fun x=>Go.strOf (rg (H:=Unit) P K (fun _=>some (.nil,[])) x).1)=ks:=by
 have hlen:es'.size=ks.length:=by
  have:=congrArg List.length hk
  simpa using this
 have hrd:∀x∈es'.toList,∃k∈ks,x.key=encStr k∧rd (H:=Unit) P K (fun _=>some (.nil,[])) x=some (.string k,.nil):=fun x hx=>by
  have hx':x.key∈ks.map encStr:=by rw[←hk];exact List.mem_map_of_mem hx
  obtain⟨k,hkk,hxk⟩:=List.mem_map.1 hx'
  refine⟨k,hkk,hxk.symm,?_⟩
  have hkl:k.length≤maxLen:=by have:=hb k hkk;unfold zU at this;unfold maxLen;omega
  have hkey:keyOf P K x.key=some (.string k):=by
   rw[←hxk]
   simp only[keyOf,hK,mapKey,encStr]
   rw[if_pos (by simpa [ByteArray.size] using hkl)]
  simp[rd,hkey]
 refine⟨⟨by rw[hlen];unfold maxLen;omega,⟨hst.1,hst.2,?_⟩,fun x hx=>by obtain⟨k,_,_,h⟩:=hrd x hx;exact⟨_,h⟩⟩,?_⟩
 ·rw[hk]
  exact List.pairwise_map.2 ((zLB hnd).imp fun hne e=>hne (encStr_inj e))
 ·have e1:es'.toList.map (fun x=>Go.strOf (rg (H:=Unit) P K (fun _=>some (.nil,[])) x).1)=(es'.toList.map (·.key)).map bytesV:=by
   rw[List.map_map]
   refine List.map_congr_left fun x hx=>?_
   obtain⟨k,_,h1,h2⟩:=hrd x hx
   simp only[Function.comp,rg_of h2,h1,encStr,bytesV,Go.strOf]
  rw[e1,hk,List.map_map]
  conv=>rhs;rw[←List.map_id ks]
  exact List.map_congr_left fun k _=>rfl
theorem Tab.sorted {l:List (Nat×Prim)} (ok:XOK P (Tab P l)) {f:Nat} {gs:List Nat} {K:TypeId} (hK:P.underlying K=some .string) (hcl:zBf P f)
  (h1:∀g∈gs,∀ (b nn Bm:Nat) (D0:DataW Unit) (R:Value→Option (DataW Unit×List MemPlace)) (w:World),w.ownsMap P K R b nn D0→Maps.size D0≤maxLen→Maps.size D0*16≤140737488355328→Bm<w.heap.size→w.cell? ⟨Bm,0,none⟩=some (.map (some b)) →
   Calls P f #[.func (.func g) #[] #[.pointer (some ⟨Bm,0,none⟩)]] w (zDB K (fun ss=>ss.Perm (strKeys D0)) w))
  (h2:∀g∈gs,∀ (Bm:Nat) (w:World),Bm<w.heap.size→w.cell? ⟨Bm,0,none⟩=some (.map none)→Calls P f #[.func (.func g) #[] #[.pointer (some ⟨Bm,0,none⟩)]] w (zDB K (fun ss=>ss=[]) w)):XOK P (Tab P ((f,zC4 gs)::l)):=by
 refine Tab.cons ok fun args h v h' hr=>?_
 obtain⟨g,first,caps,a,ks,rfl,hg,hf,hcap,hks,hout⟩:=zZT hr
 have hnext:h.next≤h'.next:=by
  unfold zD8 at hout
  split at hout
  ·cases hout;exact Nat.le_refl _
  ·cases hout;rw[zBE];exact Nat.le_succ _
 refine⟨hcl,hnext,fun base ρ w args' hrel wf hpre hargs=>?_⟩
 cases hargs with
 | cons ha hnil =>
  cases hnil
  cases ha
  rename_i first' caps' a1 b1 a2 b2
  have hfe:first'=#[]:=Array.eq_empty_of_size_eq_zero (by rw[←a1];exact hf)
  have hc2:=zB1 a2 b2
  rw[hcap] at hc2
  obtain⟨c,hok,hfam,hdel,hro,hoff,zBk⟩:=zYe hks
  obtain⟨L,hL,hcaps⟩:∃L,ρ a.block=some L∧caps'=#[.pointer (some ⟨L.b,L.o+a.off,none⟩)]:=by
   cases hq:caps'.toList with
   | nil=>rw[hq] at hc2;cases hc2
   | cons x xs =>
    rw[hq] at hc2
    cases hc2 with
    | cons k1 k2 =>
     cases k2
     cases k1
     rename_i L hL
     exact⟨L,hL,by apply Array.ext';rw[hq]⟩
  have hLo:L.o=0:=hrel.loops.root a.block L ⟨c,(okCells_iff.1 hok).1,hfam,hdel,hro⟩ hL
  rw[hLo,hoff] at hcaps
  have hlt:=hrel.bnd _ _ hL
  subst hfe hcaps
  have fin:∀ (S:List (List UInt8)→Prop),(∀ss,S ss→ss.Perm ks)→∀e w',zDB K S w e w'→∃v' ρ',e=.returned v'∧HRel P base ρ' h' w'∧HWF h'∧Ext base ρ h w ρ' h' w'∧VRel ρ' v v':=by
   rintro S hS e w' ⟨v0,ss,rfl,hss,hrow,hnil,hB⟩
   have hp:=hS ss hss
   have hms:=isort_eq hp
   rw[hms] at hrow
   have hlen:(zCK ks).length=ss.length:=(zFq ks).length_eq.trans hp.length_eq.symm
   unfold zD8 at hout
   split at hout
   ·rename_i he
    cases hout
    have hs0:ss=[]:=List.eq_nil_of_length_eq_zero (by rw[←hlen,he];rfl)
    have hv:=hnil.2 hs0
    subst hv
    exact⟨_,ρ,rfl,hrel.below hB,wf,⟨fun _ _ h=>h,fun _ h=>absurd rfl h,Nat.le_refl _,fun _ _ h=>h,fun _ _ _=>⟨rfl,rfl⟩,hB.mono hrel.le,fun r h1 _=>hB.block r h1,fun A l h1 h2=>by rw[h1] at h2;cases h2⟩,.nilslice⟩
   ·rename_i s hne
    simp only[Option.some.injEq,Prod.mk.injEq] at hout
    obtain⟨rfl,rfl⟩:=hout
    have hss0:ss≠[]:=fun e=>hne (List.eq_nil_of_length_eq_zero (by rw[hlen,e];rfl))
    rcases hrow.2 with ⟨hv,hz⟩|⟨gb,cap,cur,rfl,hbase,hgb,r1,r2,r3,r4⟩
    ·exact absurd (List.eq_nil_of_length_eq_zero hz) hss0
    ·have hρ:ρ h.next=none:=hpre h.next (Nat.le_refl _) (by rw[zBE];exact Nat.lt_succ_self _)
     have hcl':((zCK ks).map fun l=>Value.string (strOf l)).length=ss.length:=by simp[hlen]
     obtain⟨s1,s2,s3⟩:=zLc (b:=.cells ((zCK ks).map fun l=>.string (strOf l))) hrel wf hρ hB hbase hgb ⟨cur,K,(0,0),rfl,by rw[hcl',r3];omega,by
      rw[hcl']
      rw[Nat.mul_one] at r4
      rw[r4]
      refine All2.refl_of _ fun x hx=>?_
      obtain⟨y,_,rfl⟩:=List.mem_map.1 hx
      exact .string _,fun i _ hi=>by omega⟩
     refine⟨_,_,rfl,s1,s2,s3,?_⟩
     rw[hlen]
     refine VRel.slice (off:=0) zAL (Nat.le_refl _) r1 (fun _=>rfl) (fun hq=>by cases hq) (fun q hq=>?_)
     cases hq
     show 0+0+cap*1≤cur.size
     rw[r3];omega
  obtain⟨v1,hcell,hv1⟩:=hrel.cell (i:=0) (v:=c.cells.getD 0 .nilFunc) hok hL (by rcases zBk with ⟨e,_⟩|⟨r,es,st,e,_⟩<;>rw[e]<;>rfl)
  rw[hLo] at hcell
  rcases zBk with ⟨e,rfl⟩|⟨r,es,st,e,hes,hst,hnd,hl,hbd⟩
  ·rw[e] at hv1
   cases hv1
   exact (h2 g hg L.b w hlt hcell).mono (fin _ fun ss hs=>by rw[hs])
  ·rw[e] at hv1
   cases hv1
   rename_i M hM
   obtain⟨es',cl,m1,m2,m3⟩:=hrel.maps r M es st hes hM
   obtain⟨F,hkeys⟩:=fit_of hK (zZj m3 hst) (hrel.loops.stamps r M es st es' cl hes hM m1).1 hnd hl hbd
   have hperm:=Go.WideShapes.sorted_perm (es'.toList.map (rg (H:=Unit) P K (fun _=>some (.nil,[]))))
   have hsz:Maps.size (.map ((es'.toList.map (rg (H:=Unit) P K (fun _=>some (.nil,[])))).foldr DataW.insert []))=ks.length:=by
    rw[Maps.size_eq,hperm.length_eq,List.length_map,←hkeys,List.length_map]
   refine (h1 g hg M.b es'.size L.b _ _ w ⟨es',cl,m1,F,Nat.le_refl _,rfl⟩ (by rw[hsz];unfold maxLen;omega) (by rw[hsz];omega) hlt hcell).mono (fin _ fun ss hs=>?_)
   refine hs.trans ?_
   have:=hperm.map (fun p=>Go.strOf p.1)
   rw[List.map_map] at this
   rw[←hkeys]
   exact this
end
end Go.X
end
section
namespace Go.Proofs
open Go.Shelf
def Tryz.lays105_ren:Go.Shelf.Ren:=⟨fun|105=>248|212=>269|99=>270|165=>271|166=>272|170=>273|169=>274|263=>280|264=>281|206=>282|240=>283|241=>284|276=>287|277=>288|n=>n,fun|9=>9|3=>3|4=>4|20=>20|0=>0|46=>233|109=>342|5=>5|72=>346|76=>349|51=>292|146=>360|53=>32|148=>362|70=>344|37=>226|75=>348|127=>364|164=>367|80=>41|n=>n,fun|n=>n⟩
theorem Tryz.lays105:Go.Proofs.Lays.n105 Tryz.prog Tryz.lays105_ren:={
 mixed:=by kernel_rfl
 f99:=Tryz.func270.trans (congrArg some (by kernel_rfl))
 f105:=Tryz.func248.trans (congrArg some (by kernel_rfl))
 f165:=Tryz.func271.trans (congrArg some (by kernel_rfl))
 f166:=Tryz.func272.trans (congrArg some (by kernel_rfl))
 f169:=Tryz.func274.trans (congrArg some (by kernel_rfl))
 f170:=Tryz.func273.trans (congrArg some (by kernel_rfl))
 f206:=Tryz.func282.trans (congrArg some (by kernel_rfl))
 f212:=Tryz.func269.trans (congrArg some (by kernel_rfl))
 f240:=Tryz.func283.trans (congrArg some (by kernel_rfl))
 f241:=Tryz.func284.trans (congrArg some (by kernel_rfl))
 f263:=Tryz.func280.trans (congrArg some (by kernel_rfl))
 f264:=Tryz.func281.trans (congrArg some (by kernel_rfl))
 f276:=Tryz.func287.trans (congrArg some (by kernel_rfl))
 f277:=Tryz.func288.trans (congrArg some (by kernel_rfl))
 t0:=Tryz.underlying0
 a0:=Tryz.isAgg0
 z0:=Tryz.sizeOf0
 v0:=Tryz.zeroValue0
 t3:=Tryz.underlying3
 a3:=Tryz.isAgg3
 z3:=Tryz.sizeOf3
 v3:=Tryz.zeroValue3
 t4:=Tryz.underlying4
 a4:=Tryz.isAgg4
 z4:=Tryz.sizeOf4
 v4:=Tryz.zeroValue4
 t5:=Tryz.underlying5
 a5:=Tryz.isAgg5
 z5:=Tryz.sizeOf5
 v5:=Tryz.zeroValue5
 t9:=Tryz.underlying9
 a9:=Tryz.isAgg9
 z9:=Tryz.sizeOf9
 v9:=Tryz.zeroValue9
 t20:=Tryz.underlying20
 a20:=Tryz.isAgg20
 z20:=Tryz.sizeOf20
 v20:=Tryz.zeroValue20
 t37:=Tryz.underlying226
 a37:=Tryz.isAgg226
 z37:=Tryz.sizeOf226
 v37:=Tryz.zeroValue226
 t46:=Tryz.underlying233
 a46:=Tryz.isAgg233
 z46:=Tryz.sizeOf233
 v46:=Tryz.zeroValue233
 t51:=Tryz.underlying292
 a51:=Tryz.isAgg292
 z51:=Tryz.sizeOf292
 v51:=Tryz.zeroValue292
 t53:=Tryz.underlying32
 a53:=Tryz.isAgg32
 z53:=Tryz.sizeOf32
 v53:=Tryz.zeroValue32
 t70:=Tryz.underlying344
 a70:=Tryz.isAgg344
 z70:=Tryz.sizeOf344
 v70:=Tryz.zeroValue344
 t72:=Tryz.underlying346
 a72:=Tryz.isAgg346
 z72:=Tryz.sizeOf346
 v72:=Tryz.zeroValue346
 t75:=Tryz.underlying348
 a75:=Tryz.isAgg348
 z75:=Tryz.sizeOf348
 v75:=Tryz.zeroValue348
 t76:=Tryz.underlying349
 a76:=Tryz.isAgg349
 z76:=Tryz.sizeOf349
 v76:=Tryz.zeroValue349
 t109:=Tryz.underlying342
 a109:=Tryz.isAgg342
 z109:=Tryz.sizeOf342
 v109:=Tryz.zeroValue342
 t127:=Tryz.underlying364
 a127:=Tryz.isAgg364
 z127:=Tryz.sizeOf364
 v127:=Tryz.zeroValue364
 t146:=Tryz.underlying360
 a146:=Tryz.isAgg360
 z146:=Tryz.sizeOf360
 v146:=Tryz.zeroValue360
 t148:=Tryz.underlying362
 a148:=Tryz.isAgg362
 z148:=Tryz.sizeOf362
 v148:=Tryz.zeroValue362
 t164:=Tryz.underlying367
 a164:=Tryz.isAgg367
 z164:=Tryz.sizeOf367
 v164:=Tryz.zeroValue367 }
def Tryz.keys139_ren:Go.Shelf.Ren:=⟨fun|7=>139|10=>184|n=>n,fun|23=>216|26=>9|3=>4|28=>221|0=>0|27=>220|33=>77|4=>4|n=>n,fun|n=>n⟩
theorem Tryz.keys139:Go.Proofs.SlLaysZ.n7 Tryz.prog Tryz.keys139_ren:={
 mixed:=by kernel_rfl
 f7:=⟨Tryz.f139.name,by decide,Tryz.func139.trans (congrArg some (by kernel_rfl))⟩
 f10:=⟨Tryz.f184.name,by decide,Tryz.func184.trans (congrArg some (by kernel_rfl))⟩
 t0:=Tryz.underlying0
 a0:=Tryz.isAgg0
 z0:=Tryz.sizeOf0
 v0:=Tryz.zeroValue0
 t4:=Tryz.underlying4
 a4:=Tryz.isAgg4
 z4:=Tryz.sizeOf4
 v4:=Tryz.zeroValue4
 t23:=Tryz.underlying216
 a23:=Tryz.isAgg216
 z23:=Tryz.sizeOf216
 v23:=Tryz.zeroValue216
 t26:=Tryz.underlying9
 a26:=Tryz.isAgg9
 z26:=Tryz.sizeOf9
 v26:=Tryz.zeroValue9
 t27:=Tryz.underlying220
 a27:=Tryz.isAgg220
 z27:=Tryz.sizeOf220
 v27:=Tryz.zeroValue220
 t28:=Tryz.underlying221
 a28:=Tryz.isAgg221
 z28:=Tryz.sizeOf221
 v28:=Tryz.zeroValue221
 t33:=Tryz.underlying77
 a33:=Tryz.isAgg77
 z33:=Tryz.sizeOf77
 v33:=Tryz.zeroValue77 }
def Tryz.keys155_ren:Go.Shelf.Ren:=⟨fun|7=>155|10=>189|n=>n,fun|23=>126|26=>9|3=>9|28=>221|0=>0|27=>220|33=>77|4=>4|n=>n,fun|n=>n⟩
theorem Tryz.keys155:Go.Proofs.SlLaysZ.n7 Tryz.prog Tryz.keys155_ren:={
 mixed:=by kernel_rfl
 f7:=⟨Tryz.f155.name,by decide,Tryz.func155.trans (congrArg some (by kernel_rfl))⟩
 f10:=⟨Tryz.f189.name,by decide,Tryz.func189.trans (congrArg some (by kernel_rfl))⟩
 t0:=Tryz.underlying0
 a0:=Tryz.isAgg0
 z0:=Tryz.sizeOf0
 v0:=Tryz.zeroValue0
 t4:=Tryz.underlying4
 a4:=Tryz.isAgg4
 z4:=Tryz.sizeOf4
 v4:=Tryz.zeroValue4
 t23:=Tryz.underlying126
 a23:=Tryz.isAgg126
 z23:=Tryz.sizeOf126
 v23:=Tryz.zeroValue126
 t26:=Tryz.underlying9
 a26:=Tryz.isAgg9
 z26:=Tryz.sizeOf9
 v26:=Tryz.zeroValue9
 t27:=Tryz.underlying220
 a27:=Tryz.isAgg220
 z27:=Tryz.sizeOf220
 v27:=Tryz.zeroValue220
 t28:=Tryz.underlying221
 a28:=Tryz.isAgg221
 z28:=Tryz.sizeOf221
 v28:=Tryz.zeroValue221
 t33:=Tryz.underlying77
 a33:=Tryz.isAgg77
 z33:=Tryz.sizeOf77
 v33:=Tryz.zeroValue77 }
def Tryz.sorted138_ren:Go.Shelf.Ren:=⟨fun|6=>138|8=>182|9=>183|11=>217|13=>219|12=>218|23=>241|24=>242|14=>232|15=>233|16=>234|17=>235|18=>236|19=>237|20=>238|21=>239|22=>240|25=>262|26=>263|27=>264|28=>265|29=>266|30=>267|31=>279|n=>n,fun|26=>9|28=>221|24=>90|0=>0|3=>3|37=>233|48=>292|50=>32|4=>4|40=>310|39=>309|45=>241|5=>5|9=>9|51=>337|55=>340|57=>357|58=>358|33=>77|n=>n,fun|n=>n⟩
theorem Tryz.sorted138:Go.Proofs.SlLaysZ.n6 Tryz.prog Tryz.sorted138_ren:={
 mixed:=by kernel_rfl
 f6:=⟨Tryz.f138.name,by decide,Tryz.func138.trans (congrArg some (by kernel_rfl))⟩
 f8:=⟨Tryz.f182.name,by decide,Tryz.func182.trans (congrArg some (by kernel_rfl))⟩
 f11:=⟨Tryz.f217.name,by decide,Tryz.func217.trans (congrArg some (by kernel_rfl))⟩
 t0:=Tryz.underlying0
 a0:=Tryz.isAgg0
 z0:=Tryz.sizeOf0
 v0:=Tryz.zeroValue0
 t24:=Tryz.underlying90
 a24:=Tryz.isAgg90
 z24:=Tryz.sizeOf90
 v24:=Tryz.zeroValue90
 t26:=Tryz.underlying9
 a26:=Tryz.isAgg9
 z26:=Tryz.sizeOf9
 v26:=Tryz.zeroValue9
 t28:=Tryz.underlying221
 a28:=Tryz.isAgg221
 z28:=Tryz.sizeOf221
 v28:=Tryz.zeroValue221
 i26:=by kernel_rfl }
def Tryz.sort183_ren:Go.Shelf.Ren:=⟨fun|6=>183|8=>219|9=>218|19=>241|20=>242|21=>232|22=>233|23=>234|24=>235|25=>236|26=>237|27=>238|28=>239|29=>240|36=>262|31=>263|32=>264|37=>265|38=>266|39=>267|41=>279|n=>n,fun|27=>90|29=>9|3=>3|32=>233|26=>90|0=>0|44=>292|46=>32|4=>4|36=>310|35=>309|41=>241|5=>5|9=>9|53=>337|57=>340|63=>357|64=>358|n=>n,fun|n=>n⟩
theorem Tryz.sort183:Go.Proofs.SlLaysM.n6 Tryz.prog Tryz.sort183_ren:={
 mixed:=by kernel_rfl
 f6:=⟨Tryz.f183.name,by decide,Tryz.func183.trans (congrArg some (by kernel_rfl))⟩
 f8:=Tryz.func219.trans (congrArg some (by kernel_rfl))
 f9:=⟨Tryz.f218.name,by decide,Tryz.func218.trans (congrArg some (by kernel_rfl))⟩
 f19:=Tryz.func241.trans (congrArg some (by kernel_rfl))
 f20:=Tryz.func242.trans (congrArg some (by kernel_rfl))
 f21:=⟨Tryz.f232.name,by decide,Tryz.func232.trans (congrArg some (by kernel_rfl))⟩
 f22:=⟨Tryz.f233.name,by decide,Tryz.func233.trans (congrArg some (by kernel_rfl))⟩
 f23:=⟨Tryz.f234.name,by decide,Tryz.func234.trans (congrArg some (by kernel_rfl))⟩
 f24:=⟨Tryz.f235.name,by decide,Tryz.func235.trans (congrArg some (by kernel_rfl))⟩
 f25:=⟨Tryz.f236.name,by decide,Tryz.func236.trans (congrArg some (by kernel_rfl))⟩
 f26:=⟨Tryz.f237.name,by decide,Tryz.func237.trans (congrArg some (by kernel_rfl))⟩
 f27:=⟨Tryz.f238.name,by decide,Tryz.func238.trans (congrArg some (by kernel_rfl))⟩
 f28:=⟨Tryz.f239.name,by decide,Tryz.func239.trans (congrArg some (by kernel_rfl))⟩
 f29:=⟨Tryz.f240.name,by decide,Tryz.func240.trans (congrArg some (by kernel_rfl))⟩
 f31:=Tryz.func263.trans (congrArg some (by kernel_rfl))
 f32:=Tryz.func264.trans (congrArg some (by kernel_rfl))
 f36:=⟨Tryz.f262.name,by decide,Tryz.func262.trans (congrArg some (by kernel_rfl))⟩
 f37:=⟨Tryz.f265.name,by decide,Tryz.func265.trans (congrArg some (by kernel_rfl))⟩
 f38:=⟨Tryz.f266.name,by decide,Tryz.func266.trans (congrArg some (by kernel_rfl))⟩
 f39:=⟨Tryz.f267.name,by decide,Tryz.func267.trans (congrArg some (by kernel_rfl))⟩
 f41:=⟨Tryz.f279.name,by decide,Tryz.func279.trans (congrArg some (by kernel_rfl))⟩
 t0:=Tryz.underlying0
 a0:=Tryz.isAgg0
 z0:=Tryz.sizeOf0
 v0:=Tryz.zeroValue0
 t3:=Tryz.underlying3
 a3:=Tryz.isAgg3
 z3:=Tryz.sizeOf3
 v3:=Tryz.zeroValue3
 t4:=Tryz.underlying4
 a4:=Tryz.isAgg4
 z4:=Tryz.sizeOf4
 v4:=Tryz.zeroValue4
 t5:=Tryz.underlying5
 a5:=Tryz.isAgg5
 z5:=Tryz.sizeOf5
 v5:=Tryz.zeroValue5
 t9:=Tryz.underlying9
 a9:=Tryz.isAgg9
 z9:=Tryz.sizeOf9
 v9:=Tryz.zeroValue9
 t26:=Tryz.underlying90
 a26:=Tryz.isAgg90
 z26:=Tryz.sizeOf90
 v26:=Tryz.zeroValue90
 t27:=Tryz.underlying90
 a27:=Tryz.isAgg90
 z27:=Tryz.sizeOf90
 v27:=Tryz.zeroValue90
 t29:=Tryz.underlying9
 a29:=Tryz.isAgg9
 z29:=Tryz.sizeOf9
 v29:=Tryz.zeroValue9
 t32:=Tryz.underlying233
 a32:=Tryz.isAgg233
 z32:=Tryz.sizeOf233
 v32:=Tryz.zeroValue233
 t35:=Tryz.underlying309
 a35:=Tryz.isAgg309
 z35:=Tryz.sizeOf309
 v35:=Tryz.zeroValue309
 t36:=Tryz.underlying310
 a36:=Tryz.isAgg310
 z36:=Tryz.sizeOf310
 v36:=Tryz.zeroValue310
 t41:=Tryz.underlying241
 a41:=Tryz.isAgg241
 z41:=Tryz.sizeOf241
 v41:=Tryz.zeroValue241
 t44:=Tryz.underlying292
 a44:=Tryz.isAgg292
 z44:=Tryz.sizeOf292
 v44:=Tryz.zeroValue292
 t46:=Tryz.underlying32
 a46:=Tryz.isAgg32
 z46:=Tryz.sizeOf32
 v46:=Tryz.zeroValue32
 t53:=Tryz.underlying337
 a53:=Tryz.isAgg337
 z53:=Tryz.sizeOf337
 v53:=Tryz.zeroValue337
 t57:=Tryz.underlying340
 a57:=Tryz.isAgg340
 z57:=Tryz.sizeOf340
 v57:=Tryz.zeroValue340
 t63:=Tryz.underlying357
 a63:=Tryz.isAgg357
 z63:=Tryz.sizeOf357
 v63:=Tryz.zeroValue357
 t64:=Tryz.underlying358
 a64:=Tryz.isAgg358
 z64:=Tryz.sizeOf358
 v64:=Tryz.zeroValue358 }
def Tryz.clone143_ren:Go.Shelf.Ren:=⟨fun|5=>143|7=>186|n=>n,fun|23=>126|25=>9|3=>9|4=>4|20=>20|n=>n,fun|n=>n⟩
theorem Tryz.clone143:Go.Proofs.SlLaysW.n5 Tryz.prog Tryz.clone143_ren:={
 mixed:=by kernel_rfl
 f5:=⟨Tryz.f143.name,by decide,Tryz.func143.trans (congrArg some (by kernel_rfl))⟩
 f7:=Tryz.func186.trans (congrArg some (by kernel_rfl))
 t4:=Tryz.underlying4
 a4:=Tryz.isAgg4
 z4:=Tryz.sizeOf4
 v4:=Tryz.zeroValue4
 t20:=Tryz.underlying20
 a20:=Tryz.isAgg20
 z20:=Tryz.sizeOf20
 v20:=Tryz.zeroValue20
 t23:=Tryz.underlying126
 a23:=Tryz.isAgg126
 z23:=Tryz.sizeOf126
 v23:=Tryz.zeroValue126 }
theorem Tryz.Builder_Extra_105:Builder.Extra Tryz.prog Tryz.lays105_ren:={
 sizeBuilder:=by kernel_rfl
 liesBuilder:=by kernel_rfl
 t5:=Tryz.underlying5
 a5:=Tryz.isAgg5
 z5:=Tryz.sizeOf5
 v5:=Tryz.zeroValue5
 infoByte:=by kernel_rfl
 cellsByte:=by kernel_rfl
 sizeByte:=by kernel_rfl
 neB5:=by decide }
open Go.RowKit Go.Lib in
theorem Tryz.strings_Repeat (s:ByteArray) (c:Nat) (w:World) (hc:c≤9223372036854775807) (hlen:s.size*c≤140737488355328) :
 Calls Tryz.prog 248 #[.string s,.int .i64 c] w fun e w'=>e=.returned (.string ⟨(Lib.repeatL s.data.toList c).toArray⟩)∧Below w.heap.size w w':=Any.strings_Repeat Tryz.lays105 Tryz.Builder_Extra_105 s c w hc hlen
end Go.Proofs
namespace Go.X
open Go Go.Proofs Go.RowKit Go.Maps Go.Sort Go.Shelf
theorem zGK (m:Nat):AnyZ.SortsIn Tryz.prog Tryz.sorted138_ren Fence.wide m :=
 ⟨fun blk off cap ss W hH hblk hsz=>callsIn_wide.2 (AnyM.slices_Sort_string Tryz.sort183 blk off cap ss W hH hblk hsz),
  fun p cap W=>callsIn_wide.2 (AnyM.slices_Sort_string_none Tryz.sort183 p cap W)⟩
theorem sortK139 (b nn Bm:Nat) (D0:DataW Unit) (R:Value→Option (DataW Unit×List MemPlace)) (w:World) (hown:w.ownsMap Tryz.prog 9 R b nn D0) (hmax:Maps.size D0≤maxLen) (hbytes:Maps.size D0*16≤140737488355328) (hlt:Bm<w.heap.size) (hc:w.cell? ⟨Bm,0,none⟩=some (.map (some b))) :
  Calls Tryz.prog 138 #[.func (.func 184) #[] #[.pointer (some ⟨Bm,0,none⟩)]] w (zDB 9 (fun ss=>ss.Perm (strKeys D0)) w):=by
 have hseq:=AnyZ.keys_gives (ρ:=Tryz.keys139_ren) { Tryz.keys139 with } Fence.wide 2 trivial rfl (by omega) Bm b nn D0 w hlt hc hown
 exact (callsIn_wide (n:=5)).1 (AnyZ.sorted_in Tryz.sorted138 Fence.wide 5 trivial trivial trivial trivial rfl (by omega) (zGK _) (enters_of Tryz.func183 (by kernel_rfl) rfl) 184 _ trivial (enters_of Tryz.func184 (by kernel_rfl) rfl) _ _ hmax hbytes w hseq)
theorem sortN139 (Bm:Nat) (w:World) (hlt:Bm<w.heap.size) (hc:w.cell? ⟨Bm,0,none⟩=some (.map none)) :
  Calls Tryz.prog 138 #[.func (.func 184) #[] #[.pointer (some ⟨Bm,0,none⟩)]] w (zDB 9 (fun ss=>ss=[]) w):=by
 have hseq:=AnyZ.keys_gives_nil (ρ:=Tryz.keys139_ren) { Tryz.keys139 with } Fence.wide 2 trivial rfl Bm w hlt hc
 exact (callsIn_wide (n:=5)).1 (AnyZ.sorted_in Tryz.sorted138 Fence.wide 5 trivial trivial trivial trivial rfl (by omega) (zGK _) (enters_of Tryz.func183 (by kernel_rfl) rfl) 184 _ trivial (enters_of Tryz.func184 (by kernel_rfl) rfl) _ 0 (Nat.zero_le _) (by omega) w hseq)
theorem sortK155 (b nn Bm:Nat) (D0:DataW Unit) (R:Value→Option (DataW Unit×List MemPlace)) (w:World) (hown:w.ownsMap Tryz.prog 9 R b nn D0) (hmax:Maps.size D0≤maxLen) (hbytes:Maps.size D0*16≤140737488355328) (hlt:Bm<w.heap.size) (hc:w.cell? ⟨Bm,0,none⟩=some (.map (some b))) :
  Calls Tryz.prog 138 #[.func (.func 189) #[] #[.pointer (some ⟨Bm,0,none⟩)]] w (zDB 9 (fun ss=>ss.Perm (strKeys D0)) w):=by
 have hseq:=AnyZ.keys_gives (ρ:=Tryz.keys155_ren) { Tryz.keys155 with } Fence.wide 2 trivial rfl (by omega) Bm b nn D0 w hlt hc hown
 exact (callsIn_wide (n:=5)).1 (AnyZ.sorted_in Tryz.sorted138 Fence.wide 5 trivial trivial trivial trivial rfl (by omega) (zGK _) (enters_of Tryz.func183 (by kernel_rfl) rfl) 189 _ trivial (enters_of Tryz.func189 (by kernel_rfl) rfl) _ _ hmax hbytes w hseq)
theorem sortN155 (Bm:Nat) (w:World) (hlt:Bm<w.heap.size) (hc:w.cell? ⟨Bm,0,none⟩=some (.map none)) :
  Calls Tryz.prog 138 #[.func (.func 189) #[] #[.pointer (some ⟨Bm,0,none⟩)]] w (zDB 9 (fun ss=>ss=[]) w):=by
 have hseq:=AnyZ.keys_gives_nil (ρ:=Tryz.keys155_ren) { Tryz.keys155 with } Fence.wide 2 trivial rfl Bm w hlt hc
 exact (callsIn_wide (n:=5)).1 (AnyZ.sorted_in Tryz.sorted138 Fence.wide 5 trivial trivial trivial trivial rfl (by omega) (zGK _) (enters_of Tryz.func183 (by kernel_rfl) rfl) 189 _ trivial (enters_of Tryz.func189 (by kernel_rfl) rfl) _ 0 (Nat.zero_le _) (by omega) w hseq)
theorem zJ7 {P:Program} {f:Nat} {fn:Func} (hf:P.funcs[f]?=some fn) (hn:(fn.name=="runtime.NumGoroutine")=false) (hb:fn.body.isSome=true):zBf P f:=⟨fn,hf,by simpa using hn,hb⟩
def tabM (l:List (Nat×Prim)):List (Nat×Prim):=(138,zC4 [184,189])::(143,zFY)::l
theorem okM {l:List (Nat×Prim)} (ok:XOK Tryz.prog (Tab Tryz.prog l)):XOK Tryz.prog (Tab Tryz.prog (tabM l)):=by
 refine Tab.sorted (K:=9) (Tab.clone ok (zJ7 Tryz.func143 (by kernel_rfl) rfl) (fun b es cl w hb=>AnyW.maps_Clone Tryz.clone143 b es cl w hb) (fun w=>AnyW.maps_Clone_nil Tryz.clone143 w)) Tryz.underlying9 (zJ7 Tryz.func138 (by kernel_rfl) rfl) ?_ ?_
 ·intro g hg
  simp only[List.mem_cons,List.not_mem_nil,or_false] at hg
  rcases hg with rfl|rfl
  ·exact sortK139
  ·exact sortK155
 ·intro g hg
  simp only[List.mem_cons,List.not_mem_nil,or_false] at hg
  rcases hg with rfl|rfl
  ·exact sortN139
  ·exact sortN155
end Go.X
end
section
open Go Go.X Go.Proofs Go.RowKit
namespace Go.X
set_option linter.unusedVariables false
def trueS:List Value→Option Value
 | []=>some (.bool true)
 | _=>none
theorem mixed:Tryz.prog.follows .mixedOrders=true:=by kernel_rfl
theorem ze {P:Program} {l:List (Nat×Prim)} {f:Nat} {fn:Func} {F:XF} (hf:P.funcs[f]?=some fn) (hF:zX P fn=some F):(Tab P l).code f=some F:=by
 simp only[Tab,hf,Option.bind_some,hF]
theorem zYg {h:Heap} {a:Addr} {n:Nat} {l:List Value} (hl:h.loadN a n=some l):l.length=n:=by
 unfold Heap.loadN at hl
 split at hl
 ·rename_i c hc
  unfold zAg at hl
  cases hb:(a.off+n).ble c.cells.length with
  | false=>rw[hb] at hl;cases hl
  | true =>
   rw[hb] at hl
   cases hl
   have:=Nat.le_of_ble_eq_true hb
   simp;omega
 ·cases hl
theorem Tab.words {P:Program} {l:List (Nat×Prim)} (ok:XOK P (Tab P l)) {f:Nat} {fn:Func} (hf:P.funcs[f]?=some fn) (hF:zX P fn=some xq246) (hp:(Tab P l).prim 247=some (za zBG)):XOK P (Tab P ((f,zB9)::l)):=by
 refine Tab.cons ok fun args h v h' hr=>?_
 unfold zB9 at hr
 split at hr
 ·rename_i a cap
  split at hr
  ·rename_i cs hcs
   split at hr
   ·rename_i bs hbs
    cases hr
    refine⟨zG5 hf hF,Nat.le_refl _,zG6 ok hf hF rfl (fun _ _ _ _ _ _=>⟨_,zDI (v:=.agg _) ?_⟩) fun n hn wf=>?_⟩
    ·show ((List.map (uw IntKind.u32) _).toArray.toList.all zAE)=true
     rw[List.all_eq_true]
     intro x hx
     simp only[List.mem_map] at hx
     obtain⟨y,_,rfl⟩:=hx
     rfl
    ·have hld:∀j,j<64→(h.at n).load ⟨a.block,a.off+j,none⟩=some (uw .u8 (bs.getD j 0).toNat):=by
      intro j hj
      obtain rfl:=zJ2 hbs
      have hlen:(zV bs).length=64:=zYg hcs
      rw[zCE] at hlen
      exact zEf (show (h.at n).loadN a 64=some (zV bs) from hcs) (zG8 (by omega))
     exact words_ok (Tab P l) hp (h.at n) wf a cap _ (fun j=>(bs.getD j 0).toNat_lt) hld
   ·cases hr
  ·cases hr
 ·cases hr
end Go.X
namespace Go.X
set_option linter.unusedVariables false
theorem zIJ {args:List Value} {v:Value} (h:zDV args=some v):args.length=2∧zy v=true∧∀pr h,Comes pr xq268 args h v:=by
 unfold zDV at h
 split at h
 ·rename_i a n
  split at h
  ·rename_i hc
   cases h
   refine⟨rfl,rfl,fun pr h=>?_⟩
   have:=rotl_ok pr a.toNat (-n).toNat h (by omega) (by omega)
   rw[show -((-n).toNat:Int)=n by omega] at this
   have e:uw .u32 a.toNat=.int .u32 a:=by unfold uw;rw[zDb,Nat.mod_eq_of_lt (by omega)];congr 1;omega
   rw[e] at this
   exact this
  ·cases h
 ·cases h
theorem zIH {args:List Value} {v:Value} (h:zBG args=some v):args.length=2∧zy v=true∧∀pr h,pr.prim 268=some (za zDV)→Comes pr xq247 args h v:=by
 unfold zBG at h
 split at h
 ·rename_i a n
  split at h
  ·rename_i hc
   cases h
   refine⟨rfl,rfl,fun pr h hp=>?_⟩
   have:=right_ok pr hp a.toNat n.toNat h (by omega)
   rw[show (n.toNat:Int)=n by omega] at this
   have e:uw .u32 a.toNat=.int .u32 a:=by unfold uw;rw[zDb,Nat.mod_eq_of_lt (by omega)];congr 1;omega
   rw[e] at this
   exact this
  ·cases h
 ·cases h
theorem zCT (s:ByteArray):strOf s.data.toList=s:=zEB s
theorem zIR {args:List Value} {v:Value} (h:shaS args=some v):args.length=1∧zy v=true∧(∀pr h,zCA pr→Comes pr xq179 args h v):=by
 unfold shaS at h
 split at h
 ·rename_i s
  split at h
  ·rename_i hc
   cases h
   refine⟨rfl,rfl,fun pr h T=>?_⟩
   ·have:=zZQ pr T s.data.toList hc h
    rwa [zCT] at this
  ·cases h
 ·cases h
theorem zIC {args:List Value} {v:Value} (h:padS args=some v):args.length=2∧zy v=true∧∀pr h,pr.prim 179=some (za shaS)→pr.prim 248=some (za zDU)→Comes pr xq223 args h v:=by
 unfold padS at h
 split at h
 ·rename_i k b
  split at h
  ·rename_i hc
   cases h
   refine⟨rfl,rfl,fun pr h h1 h2=>?_⟩
   have:=pad_ok pr h1 h2 k.data.toList (UInt8.ofNat b.toNat) hc.1 h
   rw[zCT] at this
   have e:uw .u8 (UInt8.ofNat b.toNat).toNat=.int .u8 b:=by
    rw[zGX,UInt8.toNat_ofNat']
    congr 1;omega
   rw[e] at this
   exact this
  ·cases h
 ·cases h
theorem zIU {args:List Value} {v:Value} (h:tagS args=some v):args.length=2∧zy v=true∧(∀pr h,pr.prim 179=some (za shaS)→pr.prim 223=some (za padS)→Comes pr xq199 args h v):=by
 unfold tagS at h
 split at h
 ·rename_i k s
  split at h
  ·rename_i hc
   cases h
   refine⟨rfl,rfl,fun pr h h1 h2=>?_⟩
   have:=tag_ok pr h1 h2 k.data.toList s.data.toList hc.1 hc.2 h
   rwa [zCT,zCT] at this
  ·cases h
 ·cases h
theorem zIN {args:List Value} {v:Value} (h:zDW args=some v):args.length=2∧zy v=true∧∀pr h,Comes pr xq212 args h v:=by
 unfold zDW at h
 split at h
 ·rename_i a b
  split at h
  ·rename_i hc
   cases h
   refine⟨rfl,rfl,fun pr h=>?_⟩
   have:=zGH pr a.data.toList b.data.toList hc h
   rwa [zCT,zCT] at this
  ·cases h
 ·cases h
theorem zHE {args:List Value} {v:Value} (h:zER args=some v):args.length=3∧zy v=true∧∀pr h,pr.prim 212=some (za zDW)→pr.prim 199=some (za tagS)→Comes pr xq216 args h v:=by
 unfold zER at h
 split at h
 ·rename_i k s t
  split at h
  ·rename_i hc
   cases h
   refine⟨rfl,rfl,fun pr h h1 h2=>?_⟩
   have:=check_ok pr h1 h2 k.data.toList s.data.toList t.data.toList hc.1 hc.2 h
   rwa [zCT,zCT,zCT] at this
  ·cases h
 ·cases h
theorem nilary {args:List Value} {v w:Value} {s:List Value→Option Value} (hs:∀a l,s (a::l)=none) (hw:s []=some w) (h:s args=some v):args=[]∧v=w:=by
 cases args with
 | nil=>rw[hw] at h;exact⟨rfl,(Option.some.inj h).symm⟩
 | cons a l=>rw[hs] at h;cases h
theorem zXU {P:Program} {f:Nat} {args:List Value} {v:Value} (ha:args.all zy=true) (hv:zy v=true) (hc:∀w,Calls P f args.toArray w fun e w'=>e=.returned v∧Below w.heap.size w w') (h:Heap):zCV P f args h v h:=by
 intro base ρ w args' hr wf hpre hargs
 have e:args'=args:=by
  clear hr hpre hc
  induction hargs with
  | nil=>rfl
  | cons h1 _ ih =>
   simp only[List.all_cons,Bool.and_eq_true] at ha
   rw[zFk ha.1 h1,ih ha.2]
 subst e
 refine (hc w).mono fun e w' hq=>?_
 obtain⟨rfl,q3⟩:=hq
 exact⟨_,ρ,rfl,hr.below q3,wf,⟨fun _ _ h=>h,fun _ h=>absurd rfl h,Nat.le_refl _,fun _ _ h=>h,fun _ _ _=>⟨rfl,rfl⟩,q3.mono hr.le,fun r h1 _=>q3.block r h1,fun A l h1 h2=>by rw[h1] at h2;cases h2⟩,zDI hv⟩
theorem Tab.below {P:Program} {l:List (Nat×Prim)} (ok:XOK P (Tab P l)) {f:Nat} (hcall:zBf P f) {s:List Value→Option Value}
  (hs:∀args v,s args=some v→args.all zy=true∧zy v=true∧∀w,Calls P f args.toArray w fun e w'=>e=.returned v∧Below w.heap.size w w'):XOK P (Tab P ((f,za s)::l)):=by
 refine Tab.cons ok fun args h v h' hr=>?_
 unfold za at hr
 split at hr
 ·rename_i v1 hv
  cases hr
  obtain⟨h1,h2,h3⟩:=hs args v hv
  exact⟨hcall,Nat.le_refl _,zXU h1 h2 h3 h⟩
 ·cases hr
end Go.X
end
section
open Go Go.X Go.Proofs Go.RowKit
namespace Go.X
set_option linter.unusedVariables false
theorem zY9 {args:List Value} {v:Value} (h:zDU args=some v):args.all zy=true∧zy v=true∧∀w,Calls Tryz.prog 248 args.toArray w fun e w'=>e=.returned v∧Below w.heap.size w w':=by
 unfold zDU at h
 split at h
 ·rename_i s c
  split at h
  ·rename_i hc
   cases h
   refine⟨rfl,rfl,fun w=>?_⟩
   have hr64:zU=140737488355328:=rfl
   have:=Tryz.strings_Repeat s c.toNat w (by omega) (by rw[Lib.size_eq];omega)
   rw[show (c.toNat:Int)=c by omega] at this
   have e:Lib.repeatL s.data.toList c.toNat=(List.replicate c.toNat s.data.toList).flatten:=by
    generalize c.toNat=n
    induction n with
    | zero=>rfl
    | succ n ih=>simp only[Lib.repeatL,ih,List.replicate_succ,List.flatten_cons]
   rw[e] at this
   exact this
  ·cases h
 ·cases h
def T1:List (Nat×Prim):=[(268,za zDV)]
def T2:List (Nat×Prim):=(247,za zBG)::T1
def T3:List (Nat×Prim):=(246,zB9)::T2
def T4:List (Nat×Prim):=(245,za zCc)::T3
def T5:List (Nat×Prim):=(221,za zEP)::T4
def T6:List (Nat×Prim):=(179,za shaS)::T5
def T10:List (Nat×Prim):=(248,za zDU)::T6
def T11:List (Nat×Prim):=(223,za padS)::T10
def T12:List (Nat×Prim):=(199,za tagS)::T11
def T14:List (Nat×Prim):=(212,za zDW)::T12
def T15:List (Nat×Prim):=(216,za zER)::T14
theorem ok1:XOK Tryz.prog (Tab Tryz.prog T1):=Tab.pure (Tab.nil mixed) Tryz.func268 cq268 fun args v h=>⟨(zIJ h).1,(zIJ h).2.1,fun g=>(zIJ h).2.2 _ g⟩
theorem ok2:XOK Tryz.prog (Tab Tryz.prog T2):=Tab.pure ok1 Tryz.func247 cq247 fun args v h=>⟨(zIH h).1,(zIH h).2.1,fun g=>(zIH h).2.2 _ g rfl⟩
theorem ok3:XOK Tryz.prog (Tab Tryz.prog T3):=Tab.words ok2 Tryz.func246 cq246 rfl
theorem ok4:XOK Tryz.prog (Tab Tryz.prog T4):=Tab.pure ok3 Tryz.func245 cq245 fun args v h=>by
 obtain⟨rfl,rfl⟩:=nilary (s:=zCc) (fun _ _=>rfl) rfl h
 exact⟨rfl,by kernel_rfl,fun g=>zXu _ g⟩
theorem ok5:XOK Tryz.prog (Tab Tryz.prog T5):=Tab.pure ok4 Tryz.func221 cq221 fun args v h=>by
 obtain⟨rfl,rfl⟩:=nilary (s:=zEP) (fun _ _=>rfl) rfl h
 exact⟨rfl,by kernel_rfl,fun g=>begin_ok _ g⟩
theorem sha5:zCA (Tab Tryz.prog T5):=⟨rfl,rfl,rfl,rfl,rfl,ze Tryz.func222 cq222,rfl,ze Tryz.func194 cq194,rfl,ze Tryz.func195 cq195,rfl,ze Tryz.func197 cq197⟩
theorem ok6:XOK Tryz.prog (Tab Tryz.prog T6):=Tab.pure ok5 Tryz.func179 cq179 fun args v h=>⟨(zIR h).1,(zIR h).2.1,fun g=>(zIR h).2.2 _ g sha5⟩
theorem ok10:XOK Tryz.prog (Tab Tryz.prog T10):=Tab.below ok6 ⟨_,Tryz.func248,by decide +kernel,by kernel_rfl⟩ fun args v h=>zY9 h
theorem ok11:XOK Tryz.prog (Tab Tryz.prog T11):=Tab.pure ok10 Tryz.func223 cq223 fun args v h=>⟨(zIC h).1,(zIC h).2.1,fun g=>(zIC h).2.2 _ g rfl rfl⟩
theorem ok12:XOK Tryz.prog (Tab Tryz.prog T12):=Tab.pure ok11 Tryz.func199 cq199 fun args v h=>⟨(zIU h).1,(zIU h).2.1,fun g=>(zIU h).2.2 _ g rfl rfl⟩
theorem ok14:XOK Tryz.prog (Tab Tryz.prog T14):=Tab.pure ok12 Tryz.func212 cq212 fun args v h=>⟨(zIN h).1,(zIN h).2.1,fun g=>(zIN h).2.2 _ g⟩
theorem ok15:XOK Tryz.prog (Tab Tryz.prog T15):=Tab.pure ok14 Tryz.func216 cq216 fun args v h=>⟨(zHE h).1,(zHE h).2.1,fun g=>(zHE h).2.2 _ g rfl rfl⟩
end Go.X
end
section
open Go Go.X Go.Proofs Go.RowKit
namespace Go.X
set_option linter.unusedVariables false
theorem Tab.read {P:Program} {l:List (Nat×Prim)} (ok:XOK P (Tab P l)) {f:Nat} {fn:Func} {F:XF} (hf:P.funcs[f]?=some fn) (hF:zX P fn=some F) {g:Prim}
  (hg:∀args h v h',g args h=some (v,h')→h'=h∧args.length=F.nargs∧zy v=true∧∀n,HWF (h.at n)→Comes (Tab P l) F args (h.at n) v):XOK P (Tab P ((f,g)::l)):=by
 refine Tab.cons ok fun args h v h' hr=>?_
 obtain⟨rfl,h2,h3,h4⟩:=hg args h v h' hr
 exact⟨zG5 hf hF,Nat.le_refl _,zG6 ok hf hF h2 (fun _ _ _ _ _ _=>⟨v,zDI h3⟩) fun n _ wf=>h4 n wf⟩
theorem zHY {args:List Value} {v:Value} (h:zCh args=some v):args.length=1∧zy v=true∧∀pr h,Comes pr xq196 args h v:=by
 unfold zCh at h
 split at h
 ·rename_i n
  split at h
  ·rename_i hc
   cases h
   refine⟨rfl,rfl,fun pr h=>?_⟩
   have:=four_ok pr n.toNat (by omega) h
   rw[show (n.toNat:Int)=n by omega] at this
   exact this
  ·cases h
 ·cases h
theorem zGO {args:List Value} {h:Heap} {v:Value} {h':Heap} (hr:zB7 args h=some (v,h')):h'=h∧args.length=2∧zy v=true∧(∀pr n,zCA pr→pr.prim 196=some (za zCh)→HWF (h.at n)→Comes pr xq160 args (h.at n) v):=by
 unfold zB7 at hr
 split at hr
 ·rename_i p w
  split at hr
  ·rename_i l hl
   split at hr
   ·rename_i hc
    cases hr
    obtain⟨q,rfl⟩:∃q:Nat,p=(q:Int):=⟨p.toNat,by omega⟩
    have e:Value.int .u8 (q:Int)=uw .u8 q:=nat_u8 (by omega)
    rw[Int.toNat_natCast,e]
    refine⟨rfl,rfl,rfl,fun pr n T h4 wf=>?_⟩
    ·exact zZk pr T h4 q (by omega) _ wf w l hl hc.2.2
   ·cases hr
  ·cases hr
 ·cases hr
def R1:List (Nat×Prim):=(196,za zCh)::T15
def R2:List (Nat×Prim):=(160,zB7)::R1
theorem rk1:XOK Tryz.prog (Tab Tryz.prog R1):=Tab.pure ok15 Tryz.func196 cq196 fun args v h=>⟨(zHY h).1,(zHY h).2.1,fun g=>(zHY h).2.2 _ g⟩
theorem shaR1:zCA (Tab Tryz.prog R1):=⟨rfl,rfl,rfl,rfl,rfl,ze Tryz.func222 cq222,rfl,ze Tryz.func194 cq194,rfl,ze Tryz.func195 cq195,rfl,ze Tryz.func197 cq197⟩
theorem rk2:XOK Tryz.prog (Tab Tryz.prog R2):=Tab.read rk1 Tryz.func160 cq160 fun args h v h' hr=>⟨(zGO hr).1,(zGO hr).2.1,(zGO hr).2.2.1,fun n wf=>(zGO hr).2.2.2 _ n shaR1 rfl wf⟩
end Go.X
end
section
open Go Go.Proofs Go.RowKit Go.Lib
namespace Go.X
set_option linter.unusedVariables false
theorem zGE {P:Program} (w:World) (dT sT ty elem:TypeId) (e b o dLen dCap:Nat) (a:Addr) (sLen sCap:Nat) (cs:List Value)
  (hu:P.underlying dT=some (.slice elem)) (hs:(P.info? elem).map (·.size)=some e) (hn:cs.length=Nat.min sLen dLen*e)
  (hsrc:∀j v,cs[j]?=some v→w.cell? (a.add j)=some v) (hc:∀j,j<cs.length→(w.cell? ⟨b,o+j,none⟩).isSome=true) (hf:∀j,j<cs.length→w.frozen? ⟨b,o+j,none⟩=false) (h1:∀v∈cs,v.oneCell'=true) :
  (Builtin.copy_ #[dT,sT] ty #[.slice (some ⟨b,o,none⟩) dLen dCap,.slice (some a) sLen sCap]).run P w=.ok (goInt (Nat.min sLen dLen)) (w.setCells b o cs):=by
 have hl:=run_loadCells_list (P:=P) w a cs hsrc
 have hst:=run_storeCells_cells (P:=P) b o cs 0 w (by simpa using hc) (by simpa using hf) h1
 cases hq:P.info? elem with
 | none=>simp[hq] at hs
 | some i =>
  have hi:i.size=e:=by simpa [hq] using hs
  simp[Builtin.copy_,run_underlying hu,Builtin.lenOf,Builtin.firstCells,sizeOf,typeInfo,hq,hi,←hn,hl,hst]
theorem zHe:(Tryz.prog.info? 179).map (fun i=>(i.zero,i.size,i.bytes))=some (some (.agg #[.int .i64 0,.string ⟨#[]⟩]),2,24):=by kernel_rfl
theorem sizeTag (w:World):(Go.sizeOf 179).run Tryz.prog w=.ok 2 w:=by
 obtain⟨i,hi,_,h2,_⟩:=info_parts zHe
 simp[Go.sizeOf,typeInfo,hi,h2]
set_option maxHeartbeats 4000000 in
set_option maxRecDepth 100000 in
theorem zYY (b off n c i vb voff m vc:Nat) (cs vs:List Value) (w:World) (hi:i<n) (hm:0<m) (hroom:n+m≤c) (hc63:n+m≤9223372036854775807) (hvb:vb≠b)
  (hcl:cs.length=n*2) (hvl:vs.length=m*2)
  (hcs:∀j v,cs[j]?=some v→w.cell? ⟨b,off+j,none⟩=some v) (hsp:∀j,j<(n+m)*2→(w.cell? ⟨b,off+j,none⟩).isSome=true) (hfz:∀j,j<(n+m)*2→w.frozen? ⟨b,off+j,none⟩=false)
  (hvs:∀j v,vs[j]?=some v→w.cell? ⟨vb,voff+j,none⟩=some v) (h1c:∀v∈cs.drop (i*2),v.oneCell'=true) (h1v:∀v∈vs,v.oneCell'=true)
  (tA tB:TypeId) (kA kB:Nat) (hsa:w.shape? vb=some (tA,kA)) (hsb:w.shape? b=some (tB,kB)) (hkB:kB≠0) (hfa:w.frozen? ⟨vb,voff,none⟩=false) (hfe:w.frozen? ⟨vb,kA,none⟩=false) :
  Calls Tryz.prog 164 #[.slice (some ⟨b,off,none⟩) n c,.int .i64 i,.slice (some ⟨vb,voff,none⟩) m vc] w fun e w' =>
   e=.returned (.slice (some ⟨b,off,none⟩) (n+m) c)∧w'=(w.drew.setCells b (off+(i+m)*2) (cs.drop (i*2))).setCells b (off+i*2) vs:=by
 have hz1:¬((m:Int)=0):=by omega
 have hz2:¬((i:Int)=(n:Int)):=by omega
 have hsz:(Tryz.prog.info? 179).map (·.size)=some 2:=by kernel_rfl
 have hz2s:∀w:World,(Go.sizeOf 179).run Tryz.prog w=.ok 2 w:=sizeTag
 have hov:∀lb cb,(callFunc 203 #[.slice (some ⟨vb,voff,none⟩) m vc,.slice (some ⟨b,off+(i+m)*2,none⟩) lb cb]).run Tryz.prog w=.ok (.value (.bool false)) w:=fun lb cb=>by
  rw[run_callFunc_extern Tryz.func203 (by kernel_rfl) (by kernel_rfl) (by kernel_rfl) (e:=Extern.SlicesOverlaps.overlaps #[85,85] #[4]) (by kernel_rfl),
   Lib.run_overlaps_apart w 85 4 179 Tryz.underlying85 2 hz2s ⟨vb,voff,none⟩ ⟨b,off+(i+m)*2,none⟩ m vc lb cb hvb tA tB kA kB hsa hsb hkB hfa hfe]
  rfl
 have hdl:(cs.drop (i*2)).length=(n - i)*2:=by rw[List.length_drop,hcl];omega
 have mixed:Tryz.prog.follows .mixedOrders=true:=by kernel_rfl
 have hw1:IntKind.i64.wrap ((i:Int)+(m:Int))=(i:Int)+(m:Int):=by rw[IntKind.wrap_i64];omega
 have hb1:(0:Int)≤(i:Int)+(m:Int):=by omega
 have hin:i≤n:=by omega
 have htn:((i:Int)+(m:Int)).toNat=i+m:=by omega
 have hb2:¬(c=i+m):=by omega
 have hb3:(i:Int)≤(n:Int)+(m:Int):=by omega
 have hb4:¬(c=i):=by omega
 have hcp1:∀ty dc sc,(Builtin.copy_ #[85,85] ty #[.slice (some ⟨b,off+(i+m)*2,none⟩) (n+m - (i+m)) dc,.slice (some ⟨b,off+i*2,none⟩) (n+m - i) sc]).run Tryz.prog w.drew=.ok (goInt (Nat.min (n+m - i) (n+m - (i+m)))) (w.drew.setCells b (off+(i+m)*2) (cs.drop (i*2))):=fun ty dc sc =>
  zGE w.drew _ _ ty 179 2 b (off+(i+m)*2) (n+m - (i+m)) dc ⟨b,off+i*2,none⟩ (n+m - i) sc (cs.drop (i*2)) Tryz.underlying85 hsz (by rw[hdl];simp only[Nat.min_def];split<;>omega)
   (fun j v hj=>by rw[Addr.add_lit,Nat.add_assoc];exact hcs (i*2+j) v (by rwa [List.getElem?_drop] at hj))
   (fun j hj=>by rw[Nat.add_assoc];exact hsp _ (by omega)) (fun j hj=>by rw[Nat.add_assoc];exact hfz _ (by omega)) h1c
 obtain⟨W1,hW1⟩:∃W1,W1=w.drew.setCells b (off+(i+m)*2) (cs.drop (i*2)):=⟨_,rfl⟩
 have hsp1:∀k,k<(n+m)*2→(W1.cell? ⟨b,off+k,none⟩).isSome=true:=fun k hk=>by
  rw[hW1]
  exact isSome_setCells b _ _ _ (fun j hj=>by rw[Nat.add_assoc];exact hsp _ (by omega)) _ (hsp k hk)
 have hcp2:∀ (W:World),(∀x,W.cell? x=W1.cell? x)→(∀x,W.frozen? x=W1.frozen? x)→∀ty dc,(Builtin.copy_ #[85,85] ty #[.slice (some ⟨b,off+i*2,none⟩) (n+m - i) dc,.slice (some ⟨vb,voff,none⟩) m vc]).run Tryz.prog W=.ok (goInt (Nat.min m (n+m - i))) (W.setCells b (off+i*2) vs):=fun W hWc hWf ty dc =>
  zGE W _ _ ty 179 2 b (off+i*2) (n+m - i) dc ⟨vb,voff,none⟩ m vc vs Tryz.underlying85 hsz (by rw[hvl];simp only[Nat.min_def];split<;>omega)
   (fun j v hj=>by
    rw[Addr.add_lit,hWc,hW1,World.cell?_setCells_out b _ _ _ _ (fun h _=>absurd h hvb)]
    exact hvs j v hj)
   (fun j hj=>by rw[hWc,Nat.add_assoc];exact hsp1 _ (by omega)) (fun j hj=>by rw[hWf,hW1,World.frozen?_setCells,Nat.add_assoc];exact hfz _ (by omega)) h1v
 rw[←hW1] at hcp1
 have u77:=run_underlying Tryz.underlying85
 go_enter Tryz.func164,Tryz.ntmps164
 go_wp2_with (simp only[hov])
 go_region_law_o (refine step_copy_runI rfl _ _ 85 85 rfl _ _ (by simp[Act.eval,Act.put]) (by simp[Act.eval,Act.put]) (hcp1 _ _ _) ?_)
 go_wp2_with (at_builtin;refine wpList_copy_runI _ rfl _ _ 85 85 rfl _ _ rfl rfl (hcp2 _ (fun _=>rfl) (fun _=>rfl) _ _) ?_)
 go_ret
 first|exact⟨rfl,rfl⟩|exact⟨rfl,by rw[hW1]⟩
set_option maxHeartbeats 4000000 in
set_option maxRecDepth 100000 in
theorem zYX (b off n c i vb voff m vc:Nat) (cs vs:List Value) (w:World) (hi:i<n) (hm:0<m) (hnc:n≤c) (hroom:c<n+m) (hbig:(n+m)*24≤140737488355328)
  (hcl:cs.length=n*2) (hvl:vs.length=m*2)
  (hcs:∀j v,cs[j]?=some v→w.cell? ⟨b,off+j,none⟩=some v)
  (hvs:∀j v,vs[j]?=some v→w.cell? ⟨vb,voff+j,none⟩=some v) (h1c:∀v∈cs.drop (i*2),v.oneCell'=true) (h1v:∀v∈vs,v.oneCell'=true) :
  Calls Tryz.prog 164 #[.slice (some ⟨b,off,none⟩) n c,.int .i64 i,.slice (some ⟨vb,voff,none⟩) m vc] w fun e w' =>
   e=.returned (.slice (some ⟨w.heap.size,0,none⟩) (n+m) (grownCap w (n+m) c 179)) ∧
   w'=(((w.alloc (.cells ((cs.take (i*2)).toArray++Builtin.zeroCells (Value.agg #[.int .i64 0,.string ⟨#[]⟩]).cells (n+m - i)++Builtin.zeroCells (Value.agg #[.int .i64 0,.string ⟨#[]⟩]).cells (grownCap w (n+m) c 179 - (n+m))) 179)).drew.setCells w.heap.size (i*2) vs).drew).setCells w.heap.size ((i+m)*2) (cs.drop (i*2)):=by
 have mixed:Tryz.prog.follows .mixedOrders=true:=by kernel_rfl
 obtain⟨i0,hi0,hz0,hzs,hzb⟩:=info_parts zHe
 have hz1:¬((m:Int)=0):=by omega
 have hz2:¬((i:Int)=(n:Int)):=by omega
 have hz3:(c:Int)<(n:Int)+(m:Int):=by omega
 have hsz:(Tryz.prog.info? 179).map (·.size)=some 2:=by rw[hi0];simp[hzs]
 have u77:=run_underlying Tryz.underlying85
 have hbw:b<w.heap.size:=block_lt_of_cell (hcs 0 _ (List.getElem?_eq_getElem (by omega)))
 have hvw:vb<w.heap.size:=block_lt_of_cell (hvs 0 _ (List.getElem?_eq_getElem (by omega)))
 have hkk:(n:Int)+(m:Int) - (i:Int)=((n+m - i:Nat):Int):=by omega
 have hik:i+(n+m - i)=n+m:=by omega
 have hold:(Builtin.firstCells i0.size i (.slice (some ⟨b,off,none⟩) i c)).run Tryz.prog w.drew=.ok (cs.take (i*2)).toArray w.drew:=by
  rw[hzs]
  exact run_firstCells_some w.drew 2 i ⟨b,off,none⟩ i c (cs.take (i*2)) (by rw[List.length_take];omega) (fun j v hj=>by
   rw[Addr.add_lit]
   rw[List.getElem?_take] at hj
   split at hj
   ·exact hcs j v hj
   ·cases hj)
 have hrz:∀ty,(Builtin.append_ #[85,3] ty #[.slice (some ⟨b,off,none⟩) i c,.int .i64 ((n:Int)+(m:Int) - (i:Int))]).run Tryz.prog w =
   .ok (.slice (some ⟨w.heap.size,0,none⟩) (n+m) (grownCap w (n+m) c 179)) (w.drew.alloc (.cells ((cs.take (i*2)).toArray++Builtin.zeroCells (Value.agg #[.int .i64 0,.string ⟨#[]⟩]).cells (n+m - i)++Builtin.zeroCells (Value.agg #[.int .i64 0,.string ⟨#[]⟩]).cells (grownCap w (n+m) c 179 - (n+m))) 179)):=fun ty=>by
  have h:=Lib.run_append_grow_zeros w 85 3 ty 179 i0 _ .i64 .i64 Tryz.underlying85 Tryz.underlying3 hi0 hz0 (some ⟨b,off,none⟩) i c (cs.take (i*2)) hold (n+m - i) (by omega) (by omega) (by omega) (by omega) (by rw[hzb];omega) (by rw[hzb,hik];exact growslice_fits hroom hbig)
  rw[hik] at h
  rw[hkk]
  exact h
 obtain⟨G,hG⟩:∃G,G=grownCap w (n+m) c 179:=⟨_,rfl⟩
 obtain⟨ROW,hROW⟩:∃ROW:Array Value,ROW=(cs.take (i*2)).toArray++Builtin.zeroCells (Value.agg #[.int .i64 0,.string ⟨#[]⟩]).cells (n+m - i)++Builtin.zeroCells (Value.agg #[.int .i64 0,.string ⟨#[]⟩]).cells (G - (n+m)):=⟨_,rfl⟩
 rw[←hG] at hrz ⊢
 rw[←hROW] at hrz ⊢
 have hRl:(n+m)*2≤ROW.size:=by
  rw[hROW]
  simp[Builtin.zeroCells,Value.cells]
  omega
 obtain⟨W1,hW1⟩:∃W1,W1=w.drew.alloc (.cells ROW 179):=⟨_,rfl⟩
 rw[←hW1] at hrz
 have hN:∀j,j<(n+m)*2→(W1.cell? ⟨w.heap.size,j,none⟩).isSome=true:=fun j hj=>by
  rw[hW1,World.cell?_alloc_at (w:=w.drew) ROW _ w.heap.size j rfl,Array.getElem?_eq_getElem (by omega)];rfl
 have hNf:∀j,W1.frozen? ⟨w.heap.size,j,none⟩=false:=fun j=>by rw[hW1];exact World.frozen?_alloc_at (w:=w.drew) ROW _ w.heap.size j rfl
 have hOb:∀j v,w.cell? ⟨b,j,none⟩=some v→W1.cell? ⟨b,j,none⟩=some v:=fun j v h=>by rw[hW1,World.cell?_alloc_past (w:=w.drew) _ b j hbw];exact h
 have hOv:∀j v,w.cell? ⟨vb,j,none⟩=some v→W1.cell? ⟨vb,j,none⟩=some v:=fun j v h=>by rw[hW1,World.cell?_alloc_past (w:=w.drew) _ vb j hvw];exact h
 have hcpA:∀ (W:World),(∀x,W.cell? x=W1.cell? x)→(∀x,W.frozen? x=W1.frozen? x)→∀ty dc,(Builtin.copy_ #[85,85] ty #[.slice (some ⟨w.heap.size,i*2,none⟩) (n+m - i) dc,.slice (some ⟨vb,voff,none⟩) m vc]).run Tryz.prog W=.ok (goInt (Nat.min m (n+m - i))) (W.setCells w.heap.size (i*2) vs):=fun W hWc hWf ty dc =>
  zGE W _ _ ty 179 2 w.heap.size (i*2) (n+m - i) dc ⟨vb,voff,none⟩ m vc vs Tryz.underlying85 hsz (by rw[hvl];simp only[Nat.min_def];split<;>omega)
   (fun j v hj=>by rw[Addr.add_lit,hWc];exact hOv _ v (hvs j v hj))
   (fun j hj=>by rw[hWc];exact hN _ (by omega)) (fun j hj=>by rw[hWf];exact hNf _) h1v
 have hGn:n+m≤G:=by rw[hG];exact grownCap_ge w _ _ _
 have hG63:G≤9223372036854775807:=by
  have:=grownCap_le_maxLen w (n+m) c 179 (by unfold maxLen;omega)
  rw[←hG] at this
  unfold maxLen at this
  omega
 have hGi:¬(G=i):=by omega
 have hGim:¬(G=i+m):=by omega
 have hci:¬(c=i):=by omega
 have hbN:b≠w.heap.size:=by omega
 have hdl:(cs.drop (i*2)).length=(n - i)*2:=by rw[List.length_drop,hcl];omega
 have hcpB:∀ (W:World),(∀x,W.cell? x=(W1.setCells w.heap.size (i*2) vs).cell? x)→(∀x,W.frozen? x=(W1.setCells w.heap.size (i*2) vs).frozen? x)→∀ty dc sc,(Builtin.copy_ #[85,85] ty #[.slice (some ⟨w.heap.size,(i+m)*2,none⟩) (n+m - (i+m)) dc,.slice (some ⟨b,off+i*2,none⟩) (n - i) sc]).run Tryz.prog W=.ok (goInt (Nat.min (n - i) (n+m - (i+m)))) (W.setCells w.heap.size ((i+m)*2) (cs.drop (i*2))):=fun W hWc hWf ty dc sc =>
  zGE W _ _ ty 179 2 w.heap.size ((i+m)*2) (n+m - (i+m)) dc ⟨b,off+i*2,none⟩ (n - i) sc (cs.drop (i*2)) Tryz.underlying85 hsz (by rw[hdl];simp only[Nat.min_def];split<;>omega)
   (fun j v hj=>by
    rw[Addr.add_lit,hWc,World.cell?_setCells_out _ _ _ _ _ (fun h _=>absurd h hbN),Nat.add_assoc]
    exact hOb _ v (hcs (i*2+j) v (by rwa [List.getElem?_drop] at hj)))
   (fun j hj=>by rw[hWc];exact isSome_setCells _ _ _ _ (fun t ht=>hN _ (by omega)) _ (hN _ (by omega)))
   (fun j hj=>by rw[hWf,World.frozen?_setCells];exact hNf _) h1c
 subst hW1
 have hE1:∀x,((w.alloc (.cells ROW 179)).drew).cell? x=(w.drew.alloc (.cells ROW 179)).cell? x:=fun x=>rfl
 have hE2:∀x,((w.alloc (.cells ROW 179)).drew).frozen? x=(w.drew.alloc (.cells ROW 179)).frozen? x:=fun x=>rfl
 have hF1:∀x,(((w.alloc (.cells ROW 179)).drew.setCells w.heap.size (i*2) vs).drew).cell? x=((w.drew.alloc (.cells ROW 179)).setCells w.heap.size (i*2) vs).cell? x:=fun x=>rfl
 have hF2:∀x,(((w.alloc (.cells ROW 179)).drew.setCells w.heap.size (i*2) vs).drew).frozen? x=((w.drew.alloc (.cells ROW 179)).setCells w.heap.size (i*2) vs).frozen? x:=fun x=>rfl
 have hw1:IntKind.i64.wrap ((i:Int)+(m:Int))=(i:Int)+(m:Int):=by rw[IntKind.wrap_i64];omega
 have hb1:(0:Int)≤(i:Int)+(m:Int):=by omega
 have hin:i≤n:=by omega
 have htn:((i:Int)+(m:Int)).toNat=i+m:=by omega
 have hb3:(i:Int)≤(n:Int):=by omega
 clear hkk hik hold hROW hG hRl
 go_enter Tryz.func164,Tryz.ntmps164
 go_wp2_with (first
  | (at_builtin;refine Lib.wpList_append_run _ rfl _ _ _ _ rfl _ _ rfl rfl _ _ (hrz _) ?_)
  | (at_builtin;refine wpList_copy_runI _ rfl _ _ 85 85 rfl _ _ rfl rfl (hcpA _ hE1 hE2 _ _) ?_)
  | (at_builtin;refine wpList_copy_runI _ rfl _ _ 85 85 rfl _ _ rfl rfl (hcpB _ (fun _=>rfl) (fun _=>rfl) _ _ _) ?_))
 go_region_law_o (refine step_copy_runI rfl _ _ 85 85 rfl (.slice (some ⟨w.heap.size,(i+m)*2,none⟩) (n+m - (i+m)) (G - (i+m))) (.slice (some ⟨b,off+i*2,none⟩) (n - i) (c - i)) (by simp[Act.eval,Act.put]) (by simp[Act.eval,Act.put]) (hcpB _ hF1 hF2 3 (G - (i+m)) (c - i)) ?_)
 go_wp2
 go_ret
 exact⟨rfl,rfl⟩
set_option maxHeartbeats 4000000 in
set_option maxRecDepth 100000 in
theorem zYW (base:Option Addr) (n c m vc:Nat) (va:Option Addr) (v:Value) (w w':World) (hm:0<m) (hnc:n≤c) (hnil:base=none→n=0)
  (hrun:(Builtin.append_ #[85,85] 85 #[.slice base n c,.slice va m vc]).run Tryz.prog w=.ok v w') :
  Calls Tryz.prog 164 #[.slice base n c,.int .i64 n,.slice va m vc] w fun e w1=>e=.returned v∧w1=w':=by
 have hz1:¬((m:Int)=0):=by omega
 have u77:=run_underlying Tryz.underlying85
 go_enter Tryz.func164,Tryz.ntmps164
 cases base with
 | none =>
  have h0:=hnil rfl
  subst h0
  go_wp2_with (at_builtin;refine Lib.wpList_append_run _ rfl _ _ _ _ rfl _ _ rfl rfl _ _ hrun ?_)
  go_ret
  exact⟨rfl,rfl⟩
 | some a =>
  obtain⟨ab,ao,asp⟩:=a
  go_wp2_with (at_builtin;refine Lib.wpList_append_run _ rfl _ _ _ _ rfl _ _ rfl rfl _ _ hrun ?_)
  all_goals (go_ret;exact⟨rfl,rfl⟩)
end Go.X
end
section
open Go Go.X Go.Proofs Go.RowKit
namespace Go.X
theorem insTagFn:InsFn Tryz.prog 164 85 179 2 24 (.agg #[.int .i64 0,.string ⟨#[]⟩]) where
 call:=⟨_,Tryz.func164,by decide +kernel,by kernel_rfl⟩
 und:=Tryz.underlying85
 info:=zHe
 zero:=by kernel_rfl
 size:=by kernel_rfl
 bytes:=by kernel_rfl
 zlen:=rfl
 by0:=by decide
 sz0:=by decide
 end_:=zYW
 shift:=zYY
 grow:=zYX
end Go.X
end
section
open Go Go.X Go.Proofs Go.RowKit
namespace Go.X
set_option linter.unusedVariables false
def Z1:List (Nat×Prim):=(164,zCk 2 24)::R2
theorem zk1:XOK Tryz.prog (Tab Tryz.prog Z1):=Tab.cons rk2 fun args h v h' hr=>⟨insTagFn.call,zKn hr,zYZ insTagFn hr⟩
def Z2:List (Nat×Prim):=tabM Z1
theorem zk2:XOK Tryz.prog (Tab Tryz.prog Z2):=okM zk1
end Go.X
end
