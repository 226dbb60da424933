/- The interpreter is sound: operations, regions, code, calls and rounds. -/
import Derived.LoopNIn
import Derived.Scope
import Derived.OrdersIn
import Derived.RangeFuncRecord
import Derived.Test.YtjlhabhibmgbdaaGreatDoorXA
set_option linter.unusedSimpArgs false
set_option linter.unusedVariables false
set_option maxHeartbeats 2000000
open Nat renaming reduceLeDiff → zPT, reduceEqDiff → zPU, reduceAdd → zPV
open Int renaming reduceBEq → zPW, reduceLT → zPX, reduceLE → zPY, reduceGT → zPZ, reduceGE → zPa, reduceEq → zPb, reduceAdd → zPc, reduceSub → zPd, reduceMul → zPe
section
namespace Go.X
open Go.RowKit
theorem zAW {w w':World} {obj:Obj} (hw:w'.heap=w.heap.push obj) {r:Nat} (h:r<w.heap.size):w'.heap[r]?=w.heap[r]?:=by
 rw[hw,Array.getElem?_push_lt h,Array.getElem?_eq_getElem h]
theorem zFA {w w':World} {obj:Obj} (hw:w'.heap=w.heap.push obj):w'.heap[w.heap.size]?=some obj:=by
 rw[hw];simp
def blkOf (id:Nat):NBlk→Blk
 | .cells l=>.cells ⟨l,id,0,false⟩
 | .bytes l=>.cells ⟨l,id,0,false⟩
 | .map=>.map [] (some ([],0))
def zCL (h:Heap) (id:Nat) (b:NBlk):Prop :=
 h.blks.get id=some (blkOf id b)∧(∀l,b=.cells l→h.fams.get id=some ⟨0,id,l.length⟩)∧∀l,b=.bytes l→h.fams.get id=some ⟨id+1,id,l.length⟩
theorem zBR (h:Heap) (b:NBlk):h.push b={ h.pushAt h.next b with next:=h.next+1 }:=by cases b<;>rfl
theorem zCj (h:Heap) (id:Nat) (b:NBlk) (A:Nat):(h.pushAt id b).blks.get A=if A=id then some (blkOf id b) else h.blks.get A:=by
 cases b<;>simp only[Heap.pushAt,PT.get_set,blkOf]
theorem zDR (h:Heap) (id:Nat) (b:NBlk) (A:Nat) (hne:A≠id):(h.pushAt id b).fams.get A=h.fams.get A:=by
 cases b<;>simp only[Heap.pushAt,PT.get_set,if_neg hne]
theorem zIA (h:Heap) (id:Nat) (b:NBlk):zCL (h.pushAt id b) id b:=by
 refine⟨by rw[zCj,if_pos rfl],fun l hl=>?_,fun l hl=>?_⟩
 ·subst hl
  simp only[Heap.pushAt,PT.get_set_eq]
 ·subst hl
  simp only[Heap.pushAt,PT.get_set_eq]
theorem zBq (h:Heap) (b:NBlk) (A:Nat):(h.push b).blks.get A=if A=h.next then some (blkOf h.next b) else h.blks.get A:=by
 rw[zBR];exact zCj h h.next b A
theorem zCk (h:Heap) (b:NBlk) (A:Nat) (hne:A≠h.next):(h.push b).fams.get A=h.fams.get A:=by
 rw[zBR];exact zDR h h.next b A hne
theorem zCC (h:Heap) (b:NBlk):zCL (h.push b) h.next b:=by
 rw[zBR];exact zIA h h.next b
theorem zA5 (h:Heap) (b:NBlk):(h.push b).next=h.next+1:=by cases b<;>rfl
theorem zD7 {h h':Heap} {A:Nat} (hb:h'.blks.get A=h.blks.get A) (hf:∀c,h.blks.get A=some (.cells c)→h'.fams.get c.fam=h.fams.get c.fam):h'.okCells A=h.okCells A:=by
 unfold Heap.okCells
 rw[hb]
 split
 ·rename_i c hc;rw[hf c hc]
 ·rfl
section
variable {P:Program} {ρ:Ren} {t:Fr} {e:Operand→Value} {o:Oper} {w w':World} {v:Value} {base:Nat} {h:Heap}
theorem HRel.phantom (hr:HRel P base ρ h w) {id:Nat} (b:NBlk) (hρ:ρ id=none):HRel P base ρ (h.pushAt id b) w:=by
 have hne:∀A l,ρ A=some l→A≠id:=fun A l hA e=>by subst e;rw[hρ] at hA;cases hA
 have hblk:∀A l,ρ A=some l→(h.pushAt id b).blks.get A=h.blks.get A:=fun A l hA=>by rw[zCj,if_neg (hne A l hA)]
 have hok:∀A l,ρ A=some l→(h.pushAt id b).okCells A=h.okCells A:=fun A l hA=>zD7 (hblk A l hA) fun c hc=>by
  have:=hr.found A c hc (by rw[hA];rfl)
  refine zDR h id b c.fam fun e=>?_
  rw[e,hρ] at this;cases this
 refine⟨hr.le,hr.bnd,?_,?_,?_,?_,?_,hr.fin,fun A c f l hc hf h0 hro hl=>?_,hr.loops.step (fun _ _ h=>h) (fun A r l h1 _ h2=>⟨by rwa [hblk A l h2] at h1,h2⟩) (fun _ _ h _=>h) (fun A l h1 h2=>.inr ⟨by obtain⟨c,k1,k2⟩:=h1;exact⟨c,by rwa [hblk A l h2] at k1,k2⟩,h2⟩) (fun A l es st es' cl h1 h2 h3=>.inr ⟨es,by rwa [hblk A l h2] at h1,h2,h3⟩)⟩
 rotate_left 5
 ·have hc':h.okCells A=some c:=by rwa [hok A l hl] at hc
  refine hr.mark A c f l hc' ?_ h0 hro hl
  have:=hr.found A c (okCells_iff.1 hc').1 (by rw[hl];rfl)
  rwa [zDR h id b c.fam (fun e=>by rw[e,hρ] at this;cases this)] at hf
 ·intro A c hc hs
  obtain⟨l,hl⟩:=Option.isSome_iff_exists.1 hs
  exact hr.found A c (by rwa [hblk A l hl] at hc) hs
 ·intro A c l hc hl;exact hr.cells A c l (by rwa [hok A l hl] at hc) hl
 ·intro A B c d l m hAB hc hd hl hm;exact hr.alias A B c d l m hAB (by rwa [hok A l hl] at hc) (by rwa [hok B m hm] at hd) hl hm
 ·intro A l es st hb hl;exact hr.maps A l es st (by rwa [hblk A l hl] at hb) hl
 ·intro A B es st fs su l m hAB hb hf hl hm;exact hr.malias A B es st fs su l m hAB (by rwa [hblk A l hl] at hb) (by rwa [hblk B m hm] at hf) hl hm
theorem HRel.real (hr:HRel P base ρ h w) {id:Nat} {b:NBlk} {obj:Obj} (hw:w'.heap=w.heap.push obj) (hf:zCL h id b) (hρ:ρ id=none) (hobj:ObjOK ρ b obj) :
  HRel P base (upd ρ id ⟨w.heap.size,0,zAC obj⟩) h w':=by
 have hm:=zBU (l:=⟨w.heap.size,0,zAC obj⟩) hρ
 have hsz:w'.heap.size=w.heap.size+1:=by rw[hw];simp
 have hold:∀A l,ρ A=some l→w'.heap[l.b]?=w.heap[l.b]?:=fun A l hA=>zAW hw (hr.bnd A l hA)
 have hcase:∀A l,upd ρ id ⟨w.heap.size,0,zAC obj⟩ A=some l→(A=id∧l=⟨w.heap.size,0,zAC obj⟩)∨(A≠id∧ρ A=some l):=fun A l hA=>by
  by_cases e:A=id
  ·subst e;rw[z8] at hA;exact .inl ⟨rfl,(Option.some.inj hA).symm⟩
  ·rw[zl e] at hA;exact .inr ⟨e,hA⟩
 have hnew:w'.heap[w.heap.size]?=some obj:=zFA hw
 refine⟨by have:=hr.le;omega,?_,?_,?_,?_,?_,?_,zDb hr.fin,fun A c f l hc hff h0 hro hA=>?_,hr.loops.step hm (fun A r l h1 hsp h2=>?_) (fun k q hq _=>(zAW hw (Array.getElem?_eq_some_iff.1 hq).1).trans hq) (fun A l h1 h2=>?_) (fun A l es st es' cl h1 h2 h3=>?_)⟩
 rotate_left 7
 ·rcases hcase A l h2 with ⟨rfl,rfl⟩|⟨_,hA⟩
  ·rw[hf.1] at h1;cases b<;>cases h1<;>exact False.elim hsp
  ·exact⟨h1,hA⟩
 ·rcases hcase A l h2 with ⟨rfl,rfl⟩|⟨_,hA⟩
  ·exact .inl rfl
  ·exact .inr ⟨h1,hA⟩
 ·rcases hcase A l h2 with ⟨rfl,rfl⟩|⟨_,hA⟩
  ·rw[hf.1] at h1
   cases b with
   | map =>
    simp only at h3
    rw[hnew] at h3;cases h3
    cases hobj
    cases h1
    exact .inl ⟨⟨by simp,by simp⟩,by simp[StOK]⟩
   | cells l=>cases h1
   | bytes l=>cases h1
  ·exact .inr ⟨es,h1,hA,by rw[←hold A l hA];exact h3⟩
 rotate_left 6
 ·rcases hcase A l hA with ⟨rfl,rfl⟩|⟨_,hA⟩
  ·have hb:=(okCells_iff.1 hc).1
   rw[hf.1] at hb
   cases b with
   | map=>cases hb
   | bytes vs =>
    cases hb
    have:=hf.2.2 vs rfl
    rw[this] at hff
    cases hff
    simp at h0
   | cells vs =>
    obtain⟨cs,T,fz,rfl,h1,h2,h3⟩:=hobj
    intro cs2 T2 fz2 hh
    rw[hnew] at hh
    cases hh
    exact h3 _ (Nat.le_refl _)
  ·exact (hr.mark A c f l hc hff h0 hro hA).same (hold A l hA)
 ·intro A l hA
  rcases hcase A l hA with ⟨_,rfl⟩|⟨_,hA⟩
  ·simp[hsz]
  ·have:=hr.bnd A l hA;omega
 ·intro A c hc hs
  by_cases e:A=id
  ·subst e
   rw[hf.1] at hc
   cases b with
   | cells l=>cases hc;exact hs
   | bytes l=>cases hc;exact hs
   | map=>cases hc
  ·rw[zl e] at hs
   have:=hr.found A c hc hs
   obtain⟨l,hl⟩:=Option.isSome_iff_exists.1 this
   rw[hm _ _ hl];rfl
 ·intro A c l hc hA
  rcases hcase A l hA with ⟨rfl,rfl⟩|⟨_,hA⟩
  ·have hb:=(okCells_iff.1 hc).1
   rw[hf.1] at hb
   cases b with
   | map=>cases hb
   | cells vs =>
    cases hb
    obtain⟨cs,T,fz,rfl,h1,h2,h3⟩:=hobj
    refine⟨cs,T,fz,hnew,rfl,by simpa using h1,by simpa using h2.mono hm,fun _=>⟨hr.le,fun i hi=>h3 i (by omega)⟩⟩
   | bytes vs =>
    cases hb
    obtain⟨cs,T,fz,rfl,h1,h2,h3⟩:=hobj
    refine⟨cs,T,fz,hnew,rfl,by simpa using h1,by simpa using h2.mono hm,fun _=>⟨hr.le,fun i hi=>h3 i (by omega)⟩⟩
  ·obtain⟨cs,T,fz,h1,h2,h3,h4,h5⟩:=hr.cells A c l hc hA
   exact⟨cs,T,fz,by rw[hold A l hA];exact h1,h2,h3,h4.mono hm,h5⟩
 ·intro A B c d l m hAB hc hd hA hB hlm
  rcases hcase A l hA with ⟨rfl,rfl⟩|⟨_,hA2⟩
  ·rcases hcase B m hB with ⟨rfl,_⟩|⟨_,hB2⟩
   ·exact absurd rfl hAB
   ·have:=hr.bnd B m hB2
    simp only at hlm;omega
  ·rcases hcase B m hB with ⟨rfl,rfl⟩|⟨_,hB2⟩
   ·have:=hr.bnd A l hA2
    simp only at hlm;omega
   ·exact hr.alias A B c d l m hAB hc hd hA2 hB2 hlm
 ·intro A l es st hes hA
  rcases hcase A l hA with ⟨rfl,rfl⟩|⟨_,hA⟩
  ·rw[hf.1] at hes
   cases b with
   | cells vs=>cases hes
   | bytes vs=>cases hes
   | map =>
    cases hes
    have hobj':obj=.map #[] 0:=hobj
    subst hobj'
    exact⟨#[],0,hnew,hr.le,.nil⟩
  ·obtain⟨es',cl,h1,h2,h3⟩:=hr.maps A l es st hes hA
   exact⟨es',cl,by rw[hold A l hA];exact h1,h2,h3.mono fun a b hab=>⟨hab.1.mono hm,hab.2.mono hm⟩⟩
 ·intro A B es st fs su l m hAB h1 h2 hA hB
  rcases hcase A l hA with ⟨rfl,rfl⟩|⟨_,hA2⟩
  ·rcases hcase B m hB with ⟨rfl,_⟩|⟨_,hB2⟩
   ·exact absurd rfl hAB
   ·have:=hr.bnd B m hB2
    simp only;omega
  ·rcases hcase B m hB with ⟨rfl,rfl⟩|⟨_,hB2⟩
   ·have:=hr.bnd A l hA2
    simp only;omega
   ·exact hr.malias A B es st fs su l m hAB h1 h2 hA2 hB2
theorem HWF.push (hw:HWF h) (b:NBlk):HWF (h.push b):=by
 refine⟨?_,?_,?_⟩
 ·intro A hA
  rw[zA5] at hA
  exact⟨by rw[zBq,if_neg (by omega)];exact (hw.fresh A (by omega)).1,by rw[zCk h b A (by omega)];exact (hw.fresh A (by omega)).2⟩
 ·intro A c hc
  rw[zBq] at hc
  rw[zA5]
  split at hc
  ·rename_i e
   cases b with
   | map=>cases hc
   | cells l =>
    cases hc
    exact⟨by simp,_,(zCC h (.cells l)).2.1 l rfl⟩
   | bytes l =>
    cases hc
    exact⟨by simp,_,(zCC h (.bytes l)).2.2 l rfl⟩
  ·have:=hw.fam A c hc
   obtain⟨h1,f,hf⟩:=this
   exact⟨by omega,f,by rw[zCk h b c.fam (by omega)];exact hf⟩
 ·intro A c f hc hf
  obtain⟨hb,f',hf',hor⟩:=okCells_iff.1 hc
  rw[zBq] at hb
  split at hb
  ·rename_i e
   cases b with
   | map=>cases hb
   | cells l =>
    cases hb
    have:=(zCC h (.cells l)).2.1 l rfl
    simp only at hf
    rw[this] at hf
    cases hf
    simp
   | bytes l =>
    cases hb
    have:=(zCC h (.bytes l)).2.2 l rfl
    simp only at hf
    rw[this] at hf
    cases hf
    simp
  ·have h1:=hw.fam A c hb
   rw[zCk h b c.fam (by omega)] at hf hf'
   exact hw.top A c f (okCells_iff.2 ⟨hb,f',hf',hor⟩) hf
theorem zDj {base:Nat} (hb:base≤w.heap.size) {obj:Obj} (hw:w'.heap=w.heap.push obj) (h1:w'.os=w.os) (h2:w'.tape=w.tape) (h3:w'.output=w.output):Below base w w' :=
 ⟨h1,h2,h3,by rw[hw];simp,fun k hk=>zAW hw (by omega)⟩
theorem Pushed.step (hr:HRel P base ρ h w) (wf:HWF h) (hρ:ρ h.next=none) {b:NBlk} {mk:Mk} (hp:Pushed P ρ e o w b mk) :
  ∃v' w' ρ',(execOp e o).run P w=.ok (.value v') w'∧HRel P base ρ' (h.push b) w'∧HWF (h.push b)∧Ext base ρ h w ρ' (h.push b) w'∧VRel ρ' (mk.val h.next) v':=by
 obtain⟨obj,v',w',h1,h2,h3,h4,h5,h6,h7⟩:=hp
 have hf:=zCC h b
 have hph:HRel P base ρ (h.push b) w:=by
  refine (hr.phantom b hρ).congr (fun A=>?_) (fun A=>?_)<;>rw[zBR]
 refine⟨v',w',upd ρ h.next ⟨w.heap.size,0,zAC obj⟩,h1,hph.real h2 hf hρ h6,wf.push b,?_,h7 _ _ z8⟩
 refine⟨zBU hρ,?_,by rw[zA5];omega,?_,?_,zDj hr.le h2 h3 h4 h5,fun r hr' _=>zAW h2 hr',?_⟩
 ·intro A hA
  by_cases e:A=h.next
  ·subst e;rw[zA5];omega
  ·exact absurd (zl e) hA
 ·intro A hA hs
  rw[zBq,if_neg (by omega)] at hs;exact hs
 ·intro A hA _
  exact⟨by rw[zBq,if_neg (by omega)],zCk h b A (by omega)⟩
 ·intro A l hA hn
  by_cases e:A=h.next
  ·subst e;rw[z8] at hA;cases hA;exact .inl (Nat.le_refl _)
  ·rw[zl e,hn] at hA;cases hA
end
end Go.X
end
section
namespace Go.X
open Go.RowKit
theorem zFW (v:Value):v.oneCell'=oneC v:=by cases v<;>rfl
theorem zAm (b:Nat):∀ (vs:List Value) (o:Nat) (w:World) (cs:Array Value) (T:TypeId) (fz:Nat×Nat),w.heap[b]?=some (.cells cs T fz)→o+vs.length≤cs.size →
  ∃cs',(w.setCells b o vs).heap[b]?=some (.cells cs' T fz)∧cs'.toList=putN cs.toList o vs∧(∀r,r≠b→(w.setCells b o vs).heap[r]?=w.heap[r]?)∧(w.setCells b o vs).heap.size=w.heap.size ∧
   (w.setCells b o vs).os=w.os∧(w.setCells b o vs).tape=w.tape∧(w.setCells b o vs).output=w.output
 | [],o,w,cs,T,fz,h,_=>⟨cs,h,by simp[putN],fun _ _=>rfl,rfl,rfl,rfl,rfl⟩
 | v::vs,o,w,cs,T,fz,h,hl=>by
  simp only[List.length_cons] at hl
  have h1:(w.setCell ⟨b,o,none⟩ v).heap[b]?=some (.cells (cs.setIfInBounds o v) T fz):=by
   simp only[World.setCell,Array.getElem?_modify,if_true,h]
   simp
  obtain⟨cs',q1,q2,q3,q4,q5,q6,q7⟩:=zAm b vs (o+1) (w.setCell ⟨b,o,none⟩ v) _ T fz h1 (by simp;omega)
  refine⟨cs',q1,?_,?_,?_,q5,q6,q7⟩
  ·rw[q2,Array.toList_setIfInBounds,zIB (by simp;omega)]
  ·intro r hr
   show ((w.setCell ⟨b,o,none⟩ v).setCells b (o+1) vs).heap[r]?=_
   rw[q3 r hr]
   exact Below.heap_setCell w ⟨b,o,none⟩ v r hr
  ·show ((w.setCell ⟨b,o,none⟩ v).setCells b (o+1) vs).heap.size=_
   rw[q4];simp[World.setCell]
theorem zEw {cs vs:List Value} {o off len:Nat} (h1:off+vs.length≤len) (h2:o+len≤cs.length):((putN cs (o+off) vs).drop o).take len=putN ((cs.drop o).take len) off vs:=by
 apply List.ext_getElem?
 intro i
 unfold putN
 rw[List.getElem?_take]
 have a1:(cs.take (o+off)).length=o+off:=by rw[List.length_take];omega
 have a2:(((cs.drop o).take len).take off).length=off:=by simp;omega
 by_cases hi:i<len
 ·rw[if_pos hi,List.getElem?_drop]
  rcases Nat.lt_or_ge i off with h|h
  ·rw[List.append_assoc,List.getElem?_append_left (by omega),List.append_assoc,List.getElem?_append_left (by omega),List.getElem?_take,if_pos (by omega),List.getElem?_take,if_pos h,List.getElem?_take,if_pos hi,List.getElem?_drop]
  ·rcases Nat.lt_or_ge i (off+vs.length) with h'|h'
   ·rw[List.append_assoc,List.getElem?_append_right (by omega),List.getElem?_append_left (by omega),a1,List.append_assoc,List.getElem?_append_right (by omega),List.getElem?_append_left (by omega),a2]
    congr 1;omega
   ·rw[List.getElem?_append_right (by simp;omega),List.getElem?_append_right (by simp;omega),List.getElem?_drop,List.getElem?_drop,List.getElem?_take,if_pos (by simp;omega),List.getElem?_drop]
    simp only[List.length_append,a1,a2]
    congr 1;omega
 ·rw[if_neg hi]
  symm
  rw[List.getElem?_eq_none]
  simp;omega
section
variable {P:Program} {ρ:Ren} {t:Fr} {e:Operand→Value} {o:Oper} {w w':World} {v:Value} {base:Nat} {h h':Heap}
theorem zEP {a:Addr} {vs:List Value} (hs:h.store a vs=some h'):∃c f,h.okCells a.block=some c∧c.ro=false∧a.off+vs.length≤c.cells.length∧vs.all oneC=true∧h.fams.get c.fam=some f ∧
  h'={ h with blks:=h.blks.set a.block (.cells { c with cells:=putN c.cells a.off vs }),fams:=h.fams.set c.fam { f with since:=h.next,who:=a.block } }:=by
 unfold Heap.store at hs
 split at hs
 ·rename_i c hc
  cases hcond:(!c.ro&&(a.off+vs.length).ble c.cells.length&&vs.all oneC) with
  | false=>rw[hcond] at hs;cases hs
  | true =>
   rw[hcond] at hs
   simp only[cond_true] at hs
   split at hs
   ·rename_i f hf
    cases hs
    simp only[Bool.and_eq_true,Bool.not_eq_true'] at hcond
    exact⟨c,f,hc,hcond.1.1,Nat.le_of_ble_eq_true hcond.1.2,hcond.2,hf,rfl⟩
   ·cases hs
 ·cases hs
theorem zIi {A0:Nat} {c0 c0':zAT} {f0:Fam} (wf:HWF h)
  (hh:h'={ h with blks:=h.blks.set A0 (.cells c0'),fams:=h.fams.set c0.fam { f0 with since:=h.next,who:=A0 } }) :
  ∀A c,h'.okCells A=some c→(A=A0∧c=c0')∨(A≠A0∧h.okCells A=some c∧c.fam≠c0.fam):=by
 intro A c hc
 subst hh
 obtain⟨hb,f,hf,hor⟩:=okCells_iff.1 hc
 simp only[PT.get_set] at hb hf
 by_cases e:A=A0
 ·rw[if_pos e] at hb;cases hb;exact .inl ⟨e,rfl⟩
 ·rw[if_neg e] at hb
  right
  by_cases e2:c.fam=c0.fam
  ·rw[if_pos e2] at hf
   cases hf
   simp only at hor
   have:=wf.lt hb
   rcases hor with h1|h1
   ·exact absurd h1 e
   ·omega
  ·rw[if_neg e2] at hf
   exact⟨e,okCells_iff.2 ⟨hb,f,hf,hor⟩,e2⟩
theorem store_wf {A0:Nat} {c0 c0':zAT} {f0:Fam} (wf:HWF h) (hc0:h.okCells A0=some c0) (hf0:h.fams.get c0.fam=some f0) (hfam:c0'.fam=c0.fam) (hd:c0'.delta=c0.delta) (hl:c0'.cells.length=c0.cells.length)
  (hh:h'={ h with blks:=h.blks.set A0 (.cells c0'),fams:=h.fams.set c0.fam { f0 with since:=h.next,who:=A0 } }):HWF h':=by
 have hok:=zIi wf hh
 have hlt:=wf.lt (okCells_iff.1 hc0).1
 have hfl:=wf.fam A0 c0 (okCells_iff.1 hc0).1
 subst hh
 refine⟨?_,?_,?_⟩
 ·intro A hA
  simp only at hA
  simp only[PT.get_set]
  rw[if_neg (by omega),if_neg (by omega)]
  exact wf.fresh A hA
 ·intro A c hc
  simp only[PT.get_set] at hc ⊢
  split at hc
  ·cases hc;rw[hfam];exact⟨hfl.1,_,if_pos rfl⟩
  ·obtain⟨h1,f,hf⟩:=wf.fam A c hc
   refine⟨h1,?_⟩
   split
   ·exact⟨_,rfl⟩
   ·exact⟨f,hf⟩
 ·intro A c f hc hf
  rcases hok A c hc with ⟨rfl,rfl⟩|⟨hne,hc',hnf⟩
  ·simp only[PT.get_set,hfam,if_true] at hf
   cases hf
   have:=wf.top A c0 f0 hc0 hf0
   simp only;rw[hd,hl];exact this
  ·simp only[PT.get_set,if_neg hnf] at hf
   exact wf.top A c f hc' hf
theorem zIj (P:Program) (hr:HRel P base ρ h w) (wf:HWF h) {a:Addr} {L:Loc} {vs vs':List Value} (hL:ρ a.block=some L) (hs:h.store a vs=some h') (hv:LRel ρ vs vs') :
  (storeCells ⟨L.b,L.o+a.off,none⟩ vs').run P w=.ok () (w.setCells L.b (L.o+a.off+0) vs')∧HRel P base ρ h' (w.setCells L.b (L.o+a.off+0) vs')∧HWF h'∧Ext base ρ h w ρ h' (w.setCells L.b (L.o+a.off+0) vs'):=by
 obtain⟨c,f,hc,hro,hlen,hone,hf,rfl⟩:=zEP hs
 obtain⟨cs,T,fz,hh,hsz,hbd,hrel,hw⟩:=hr.cells a.block c L hc hL
 obtain⟨hbase,hfz⟩:=hw hro
 have hvl:=hv.length
 obtain⟨cs',q1,q2,q3,q4,q5,q6,q7⟩:=zAm L.b vs' (L.o+a.off) w cs T fz hh (by omega)
 have hone':∀u∈vs',u.oneCell'=true:=by
  intro u hu
  rw[zFW]
  obtain⟨i,hi,rfl⟩:=List.getElem_of_mem hu
  have hi':i<vs.length:=by omega
  rw[←zFX (hv.get i hi' hi)]
  exact List.all_eq_true.1 hone _ (by simp)
 have hrun:=run_storeCells_cells (P:=P) L.b (L.o+a.off) vs' 0 w (fun j hj=>by
   simp only[World.cell?,hh]
   rw[Array.getElem?_eq_getElem (by omega)];rfl) (fun j hj=>by
   simp only[World.frozen?,hh]
   have:=hfz (L.o+a.off+0+j) (by omega)
   simp only[Bool.and_eq_false_iff,decide_eq_false_iff_not]
   omega) hone'
 have hok:=zIi (h':={ h with blks:=h.blks.set a.block (.cells { c with cells:=putN c.cells a.off vs }),fams:=h.fams.set c.fam { f with since:=h.next,who:=a.block } }) (c0':={ c with cells:=putN c.cells a.off vs }) wf rfl
 have hcs':cs'.size=cs.size:=by
  have:cs'.toList.length=cs.toList.length:=by rw[q2,zBs (by simp;omega)]
  simpa using this
 have hother:∀A d m,A≠a.block→h.okCells A=some d→d.fam≠c.fam→ρ A=some m→m.b≠L.b:=fun A d m hne hd hnf hm hb =>
  hnf (hr.alias A a.block d c m L hne hd hc hm hL hb).1
 refine⟨hrun,?_,store_wf (c0':={ c with cells:=putN c.cells a.off vs }) wf hc hf rfl rfl (zBs hlen) rfl,?_⟩
 ·rw[Nat.add_zero]
  refine⟨by rw[q4];exact hr.le,fun A l hA=>by rw[q4];exact hr.bnd A l hA,?_,?_,?_,?_,?_,hr.fin,fun A d g l hd hg h0 hrd hl=>?_,
   hr.loops.step (fun _ _ h=>h) (fun A r l h1 hsp h2=>by
    simp only[PT.get_set] at h1
    split at h1
    ·cases h1;exact False.elim hsp
    ·exact⟨h1,h2⟩) (fun k q hq hsp=>(q3 k (fun e=>by rw[e,hh] at hq;cases hq;exact False.elim hsp)).trans hq)
    (fun A l h1 h2=>by
     obtain⟨d,k1,k2⟩:=h1
     simp only[PT.get_set] at k1
     split at k1
     ·rename_i e
      subst e;cases k1
      exact .inr ⟨⟨c,(okCells_iff.1 hc).1,k2⟩,h2⟩
     ·exact .inr ⟨⟨d,k1,k2⟩,h2⟩)
    (fun A l es st es' cl h1 h2 h3=>by
     simp only[PT.get_set] at h1
     split at h1
     ·cases h1
     ·exact .inr ⟨es,h1,h2,by rw[←q3 l.b (fun e=>by rw[e,q1] at h3;cases h3)];exact h3⟩)⟩
  rotate_left 5
  ·rcases hok A d hd with ⟨rfl,rfl⟩|⟨hne,hd',hnf⟩
   ·simp only[PT.get_set_eq] at hg
    cases hg
    have:=wf.lt (okCells_iff.1 hc).1
    simp only at h0
    omega
   ·simp only[PT.get_set_ne _ _ hnf] at hg
    exact (hr.mark A d g l hd' hg h0 hrd hl).same (q3 l.b (hother A d l hne hd' hnf hl))
  ·intro A d hd hsm
   simp only[PT.get_set] at hd
   split at hd
   ·rename_i e
    cases hd
    subst e
    exact hr.found a.block c (okCells_iff.1 hc).1 hsm
   ·exact hr.found A d hd hsm
  ·intro A d l hd hl
   rcases hok A d hd with ⟨rfl,rfl⟩|⟨hne,hd',hnf⟩
   ·rw[hL] at hl;cases hl
    refine⟨cs',T,fz,q1,by rw[hcs',hsz],?_,?_,fun _=>⟨hbase,fun i hi=>hfz i (by omega)⟩⟩
    ·simp only[zBs hlen];omega
    ·simp only[zBs hlen]
     rw[q2,zEw (by omega) (by simpa using hbd)]
     exact hrel.putN hv _
   ·obtain⟨ds,T2,fz2,r1,r2,r3,r4,r5⟩:=hr.cells A d l hd' hl
    exact⟨ds,T2,fz2,by rw[q3 l.b (hother A d l hne hd' hnf hl)];exact r1,r2,r3,r4,r5⟩
  ·intro A B d g l m hAB hd hg hl hm hb
   rcases hok A d hd with ⟨rfl,rfl⟩|⟨hne,hd',hnf⟩
   ·rcases hok B g hg with ⟨rfl,rfl⟩|⟨hne2,hg',hnf2⟩
    ·exact absurd rfl hAB
    ·rw[hL] at hl;cases hl
     exact absurd hb.symm (hother B g m hne2 hg' hnf2 hm)
   ·rcases hok B g hg with ⟨rfl,rfl⟩|⟨hne2,hg',hnf2⟩
    ·rw[hL] at hm;cases hm
     exact absurd hb (hother A d l hne hd' hnf hl)
    ·exact hr.alias A B d g l m hAB hd' hg' hl hm hb
  ·intro A l es st hes hl
   simp only[PT.get_set] at hes
   split at hes
   ·cases hes
   ·obtain⟨es',cl,r1,r2,r3⟩:=hr.maps A l es st hes hl
    have hne:l.b≠L.b:=fun eb=>by rw[eb,hh] at r1;cases r1
    exact⟨es',cl,by rw[q3 l.b hne];exact r1,r2,r3⟩
  ·intro A B es st fs su l m hAB h1 h2 hl hm
   simp only[PT.get_set] at h1 h2
   split at h1
   ·cases h1
   ·split at h2
    ·cases h2
    ·exact hr.malias A B es st fs su l m hAB h1 h2 hl hm
 ·rw[Nat.add_zero]
  have hlt:=wf.lt (okCells_iff.1 hc).1
  have hfl:=wf.fam a.block c (okCells_iff.1 hc).1
  refine⟨fun _ _ h=>h,fun A h=>absurd rfl h,Nat.le_refl _,?_,?_,⟨q5,q6,q7,by rw[q4];exact Nat.le_refl _,fun k hk=>q3 k (by omega)⟩,?_,fun A l h1 h2=>by rw[h2] at h1;cases h1⟩
  ·intro A hA hsm
   simp only[PT.get_set] at hsm
   split at hsm
   ·rename_i e;subst e;rw[(okCells_iff.1 hc).1];rfl
   ·exact hsm
  ·intro A hA hn
   have e1:A≠a.block:=fun e=>by subst e;rw[hL] at hn;cases hn
   have e2:A≠c.fam:=fun e=>by
    have:=hr.found a.block c (okCells_iff.1 hc).1 (by rw[hL];rfl)
    rw[←e,hn] at this;cases this
   simp only[PT.get_set,if_neg e1,if_neg e2,and_self]
  ·intro r hr' hno
   refine q3 r fun e=>?_
   exact hno a.block L hL (by rw[(okCells_iff.1 hc).1];rfl) e.symm
theorem zEQ (hr:HRel P base ρ h w) (wf:HWF h) {a:Addr} {L:Loc} {vs vs':List Value} (hL:ρ a.block=some L) (hs:h.store a vs=some h') (hv:LRel ρ vs vs') :
 ∃w',(storeCells ⟨L.b,L.o+a.off,none⟩ vs').run P w=.ok () w'∧HRel P base ρ h' w'∧HWF h'∧Ext base ρ h w ρ h' w':=⟨_,zIj P hr wf hL hs hv⟩
def zAP (P:Program) (base:Nat) (ρ:Ren) (h:Heap) (w:World) (e:Operand→Value) (o:Oper) (v:Value) (h':Heap):Prop :=
 ∃v' w' ρ',((execOp e o).run P w=.ok (.value v') w'∨((execOp e o).run P w=.ok .skip w'∧v'=undef))∧HRel P base ρ' h' w'∧HWF h'∧Ext base ρ h w ρ' h' w'∧VRel ρ' v v'
theorem e_store {tt:TypeId} {n:Nat} {x y:Operand} (hr:HRel P base ρ h w) (wf:HWF h) (ho:o.op=.store tt x y) (hn:zZ P tt=some n) (hx:VRel ρ (t.eval x) (e x)) (hy:VRel ρ (t.eval y) (e y)) (hh:effX t h (.store n x y)=some (v,h')) :
  zAP P base ρ h w e o v h':=by
 simp only[effX] at hh
 split at hh
 ·rename_i a hs
  rw[hs] at hx
  split at hh
  ·rename_i hln
   split at hh
   ·cases hh
   ·split at hh
    ·rename_i h2 hst
     cases hh
     obtain⟨hsp,L,hL,hv⟩:=hx.ptr_inv
     obtain⟨w',q1,q2,q3,q4⟩:=zEQ (P:=P) hr wf hL hst hy.cells
     refine⟨undef,w',ρ,.inr ⟨?_,rfl⟩,q2,q3,q4,VRel.undef⟩
     have hsz:(e y).cells.size=n:=by
      have:=hy.cells.length
      rw[hln,zB4] at this
      simpa using this.symm
     rw[zB4] at q1
     simp[execOp,ho,hv,Instr.storeAt,Instr.sureAddr,storeVar,zAJ hn,hsz,q1]
    ·cases hh
  ·cases hh
 ·cases hh
end
end Go.X
end
section
namespace Go.X
open Go.RowKit
theorem HRel.heap_eq {P:Program} {base:Nat} {ρ:Ren} {h:Heap} {w w':World} (hr:HRel P base ρ h w) (he:w'.heap=w.heap):HRel P base ρ h w' :=
 ⟨by rw[he];exact hr.le,fun A l hA=>by rw[he];exact hr.bnd A l hA,hr.found,fun A c l h1 h2=>by rw[he];exact hr.cells A c l h1 h2,hr.alias,
  fun A l es h1 h2=>by rw[he];exact hr.maps A l es h1 h2,hr.malias,hr.fin,fun A c f l h1 h2 h3 h4 h5=>(hr.mark A c f l h1 h2 h3 h4 h5).same (by rw[he]),hr.loops.sameW (fun _ _ _ _=>by rw[he])⟩
section
variable {P:Program} {ρ:Ren} {t:Fr} {e:Operand→Value} {o:Oper} {w w':World} {v:Value} {base:Nat} {h h':Heap}
def Src (P:Program) (size:Nat) (x:Value) (n:Nat) (news:List Value) (w:World):Prop :=
 ∀w1:World,w1.heap=w.heap→(Builtin.lenOf x).run P w1=.ok n w1∧(Builtin.firstCells size n x).run P w1=.ok news.toArray w1
theorem zNe {el:TypeId} {n:Nat} (hn:zZ P el=some n):∃i,P.info? el=some i∧i.size=n:=by
 unfold zZ at hn
 split at hn
 ·rename_i i hi;exact⟨i,hi,Option.some.inj hn⟩
 ·cases hn
theorem zNd {el:TypeId} {n:Nat} {i:TypeInfo} (hi:P.info? el=some i) (hn:zBD P el=some n):i.bytes=n:=by
 unfold zBD at hn
 rw[hi] at hn
 exact Option.some.inj hn
theorem zDW {st xt ty el:TypeId} {i:TypeInfo} (h1:P.underlying st=some (.slice el)) (h2:(∃el',P.underlying xt=some (.slice el'))∨P.underlying xt=some .string) (hi:P.info? el=some i) {b:Option Addr} {len cap n:Nat} {x:Value} {news:List Value}
  (hs:Src P i.size x n news w) (hf:len+n≤cap) :
  (Builtin.append_ #[st,xt] ty #[.slice b len cap,x]).run P w=(match b with|some a=>(storeCells (a.add (len*i.size)) news).run P w|none=>.ok () w).andThen fun _ w1=>.ok (.slice b (len+n) cap) w1:=by
 obtain⟨hs1,hs2⟩:=hs w rfl
 rcases h2 with ⟨el',h2⟩|h2<;>simp[Builtin.append_,run_underlying h1,run_underlying h2,sizeOf,typeInfo,hi,hs1,hs2,hf]<;>cases b<;>simp
theorem zIN {st xt ty el:TypeId} {i:TypeInfo} {z:List Value} (h1:P.underlying st=some (.slice el)) (h2:(∃el',P.underlying xt=some (.slice el'))∨P.underlying xt=some .string) (hi:P.info? el=some i) (hz:z9 P el=some z) (hzl:z.length=i.size) {b:Option Addr} {len cap n:Nat} {x:Value} {olds news:List Value}
  (hs:Src P i.size x n news w) (ho:∀w1:World,w1.heap=w.heap→(Builtin.firstCells i.size len (.slice b len cap)).run P w1=.ok olds.toArray w1)
  (hf:cap<len+n) (hby:(len+n)*i.bytes≤zj) (hb0:i.bytes≠0) :
  ∃(newCap:Nat) (rest:List Value) (w':World),len+n≤newCap∧rest.length=(newCap - (len+n))*i.size ∧
   (Builtin.append_ #[st,xt] ty #[.slice b len cap,x]).run P w=.ok (.slice (some ⟨w.heap.size,0,none⟩) (len+n) newCap) w'∧w'.heap=w.heap.push (.cells (olds++news++rest).toArray el)∧w'.os=w.os∧w'.tape=w.tape∧w'.output=w.output:=by
 obtain⟨i0,hi0,zv,hzi,hzv⟩:∃i0,P.info? el=some i0∧∃zv,i0.zero=some zv∧zv.cells.toList=z:=by
  unfold z9 at hz
  split at hz
  ·rename_i i0 hi0
   split at hz
   ·rename_i zv hzv
    split at hz
    ·cases hz;exact⟨i0,hi0,zv,hzv,(zB4 zv).symm⟩
    ·cases hz
   ·cases hz
  ·cases hz
 rw[hi] at hi0;cases hi0
 obtain⟨hs1,hs2⟩:=hs w rfl
 obtain⟨hs3,hs4⟩:=hs w.drew rfl
 have ho':=ho w.drew rfl
 have hlt:(len+n)*1≤(len+n)*i.bytes:=Nat.mul_le_mul_left _ (by omega)
 have hcapn:¬(len+n≤cap):=by omega
 have hnext:=growslice_fits (need:=len+n) (old:=cap) (bytes:=i.bytes) hf (by unfold zj at hby;exact hby)
 have h63':¬(9223372036854775807<((len:Int)+(n:Int))):=by unfold zj at hby;omega
 have h48':¬(281474976710656<Builtin.nextslicecap (len+n) cap*i.bytes):=by omega
 refine⟨grownCap w (len+n) cap el,(Builtin.zeroCells zv.cells (grownCap w (len+n) cap el - (len+n))).toList,w.drew.alloc (.cells (olds.toArray++news.toArray++Builtin.zeroCells zv.cells (grownCap w (len+n) cap el - (len+n))) el),?_,?_,?_,?_,rfl,rfl,rfl⟩
 ·simp only[grownCap,Question.cut];omega
 ·simp only[Builtin.zeroCells,Array.length_toList,Array.size_map,Array.size_range]
  congr 1
  have:zv.cells.toList.length=i.size:=by rw[hzv,hzl]
  simpa using this
 ·rcases h2 with ⟨el',h2⟩|h2 <;>
   simp[Builtin.append_,run_underlying h1,run_underlying h2,sizeOf,typeInfo,zeroValue,hi,hzi,hs1,hcapn,h63',h48',Question.forced,hs4,ho',newRow,grownCap]
  all_goals (congr 2;apply Array.ext';simp[List.append_assoc])
 ·show w.heap.push (Obj.cells _ el)=_
  congr 2;apply Array.ext';simp
theorem HRel.addBlk (hr:HRel P base ρ h w) (hρ:ρ h.next=none) {cB:zAT} {fB:Fam} {L:Loc}
  (hh:h'={ next:=h.next+1,blks:=h.blks.set h.next (.cells cB),fams:=h.fams.set cB.fam fB })
  (hfound:cB.fam=h.next∨(ρ cB.fam).isSome)
  (hok:∀A c,h'.okCells A=some c→(A=h.next∧c=cB)∨(A≠h.next∧h.okCells A=some c))
  (hle:w.heap.size≤w'.heap.size) (hLb:L.b<w'.heap.size)
  (hrow:∃cs T fz,w'.heap[L.b]?=some (.cells cs T fz)∧cs.size=L.size∧L.o+cB.cells.length≤cs.size∧LRel ρ cB.cells ((cs.toList.drop L.o).take cB.cells.length)∧base≤L.b∧∀i,i<cs.size→¬(fz.1≤i∧i<fz.2))
  (hold:∀A c l,h'.okCells A=some c→A≠h.next→ρ A=some l→∃cs T fz,w'.heap[l.b]?=some (.cells cs T fz)∧cs.size=l.size∧l.o+c.cells.length≤cs.size∧LRel ρ c.cells ((cs.toList.drop l.o).take c.cells.length)∧(c.ro=false→base≤l.b∧∀i,i<cs.size→¬(fz.1≤i∧i<fz.2)))
  (hal:∀A c l,h'.okCells A=some c→A≠h.next→ρ A=some l→l.b=L.b→c.fam=cB.fam∧l.o+cB.delta=L.o+c.delta)
  (hmaps:∀A l es st,h.blks.get A=some (.map es st)→ρ A=some l→w'.heap[l.b]?=w.heap[l.b]?)
  (hloop:∀ (k:Nat) (q:Obj),w.heap[k]?=some q→zBz q→w'.heap[k]?=some q) (hroot:cB.fam=h.next→L.o=0)
  (hmark:∀A c f l,h'.okCells A=some c→h'.fams.get c.fam=some f→f.since=0→c.ro=false→upd ρ h.next L A=some l→Unmarked w' l.b) :
  HRel P base (upd ρ h.next L) h' w':=by
 have hm:=zBU (l:=L) hρ
 have hcase:∀A l,upd ρ h.next L A=some l→(A=h.next∧l=L)∨(A≠h.next∧ρ A=some l):=fun A l hA=>by
  by_cases e:A=h.next
  ·subst e;rw[z8] at hA;exact .inl ⟨rfl,(Option.some.inj hA).symm⟩
  ·rw[zl e] at hA;exact .inr ⟨e,hA⟩
 have hb:∀A,h'.blks.get A=if A=h.next then some (.cells cB) else h.blks.get A:=fun A=>by subst hh;simp only[PT.get_set]
 have hbase:=hr.le
 refine⟨by omega,?_,?_,?_,?_,?_,?_,zDb hr.fin,hmark,hr.loops.step hm (fun A r l h1 hsp h2=>?_) hloop (fun A l h1 h2=>?_) (fun A l es st es' cl h1 h2 h3=>?_)⟩
 rotate_left 6
 ·rcases hcase A l h2 with ⟨rfl,rfl⟩|⟨hne,hA⟩
  ·rw[hb,if_pos rfl] at h1;cases h1;exact False.elim hsp
  ·rw[hb,if_neg hne] at h1;exact⟨h1,hA⟩
 ·obtain⟨c,k1,k2,k3⟩:=h1
  rcases hcase A l h2 with ⟨rfl,rfl⟩|⟨hne,hA⟩
  ·rw[hb,if_pos rfl] at k1;cases k1;exact .inl (hroot k2)
  ·rw[hb,if_neg hne] at k1;exact .inr ⟨⟨c,k1,k2,k3⟩,hA⟩
 ·rcases hcase A l h2 with ⟨rfl,rfl⟩|⟨hne,hA⟩
  ·rw[hb,if_pos rfl] at h1;cases h1
  ·rw[hb,if_neg hne] at h1;exact .inr ⟨es,h1,hA,by rw[←hmaps A l es st h1 hA];exact h3⟩
 ·intro A l hA
  rcases hcase A l hA with ⟨_,rfl⟩|⟨_,hA2⟩
  ·exact hLb
  ·have:=hr.bnd A l hA2;omega
 ·intro A c hc hs
  rw[hb] at hc
  split at hc
  ·cases hc
   rcases hfound with e|e
   ·rw[e,z8];rfl
   ·obtain⟨l,hl⟩:=Option.isSome_iff_exists.1 e
    rw[hm _ _ hl];rfl
  ·rename_i hne
   rw[zl hne] at hs
   obtain⟨l,hl⟩:=Option.isSome_iff_exists.1 (hr.found A c hc hs)
   rw[hm _ _ hl];rfl
 ·intro A c l hc hA
  rcases hcase A l hA with ⟨rfl,rfl⟩|⟨hne,hA2⟩
  ·rcases hok _ c hc with ⟨_,rfl⟩|⟨h1,_⟩
   ·obtain⟨cs,T,fz,q1,q2,q3,q4,q5,q6⟩:=hrow
    exact⟨cs,T,fz,q1,q2,q3,q4.mono hm,fun _=>⟨q5,q6⟩⟩
   ·exact absurd rfl h1
  ·obtain⟨cs,T,fz,q1,q2,q3,q4,q5⟩:=hold A c l hc hne hA2
   exact⟨cs,T,fz,q1,q2,q3,q4.mono hm,q5⟩
 ·intro A B c d l m hAB hc hd hA hB hlm
  rcases hcase A l hA with ⟨rfl,rfl⟩|⟨hne,hA2⟩
  ·rcases hcase B m hB with ⟨rfl,_⟩|⟨hne2,hB2⟩
   ·exact absurd rfl hAB
   ·rcases hok _ c hc with ⟨_,rfl⟩|⟨h1,_⟩
    ·have:=hal B d m hd hne2 hB2 hlm.symm
     exact⟨this.1.symm,this.2.symm⟩
    ·exact absurd rfl h1
  ·rcases hcase B m hB with ⟨rfl,rfl⟩|⟨hne2,hB2⟩
   ·rcases hok _ d hd with ⟨_,rfl⟩|⟨h1,_⟩
    ·exact hal A c l hc hne hA2 hlm
    ·exact absurd rfl h1
   ·rcases hok A c hc with ⟨h1,_⟩|⟨_,hc'⟩
    ·exact absurd h1 hne
    ·rcases hok B d hd with ⟨h1,_⟩|⟨_,hd'⟩
     ·exact absurd h1 hne2
     ·exact hr.alias A B c d l m hAB hc' hd' hA2 hB2 hlm
 ·intro A l es st hes hA
  rw[hb] at hes
  split at hes
  ·cases hes
  ·rename_i hne
   rw[zl hne] at hA
   obtain⟨es',cl,q1,q2,q3⟩:=hr.maps A l es st hes hA
   exact⟨es',cl,by rw[hmaps A l es st hes hA];exact q1,q2,q3.mono fun a b hab=>⟨hab.1.mono hm,hab.2.mono hm⟩⟩
 ·intro A B es st fs su l m hAB h1 h2 hA hB
  rw[hb] at h1 h2
  split at h1
  ·cases h1
  ·split at h2
   ·cases h2
   ·rename_i n1 n2
    rw[zl n1] at hA;rw[zl n2] at hB
    exact hr.malias A B es st fs su l m hAB h1 h2 hA hB
theorem zOK (hr:HRel P base ρ h w) {x':Value} {a:Addr} {n c esz:Nat} {l:List Value} (hx:VRel ρ (.slice (some a) n c) x') (h0:n≠0) (hl:h.loadN a (n*esz)=some l):∃l',LRel ρ l l'∧Src P esz x' n l' w∧l.length=n*esz:=by
 obtain⟨L,a',c',hL,rfl,hle,hcc,haddr,_⟩:=hx.slice_inv
 have:=haddr (by omega)
 subst this
 obtain⟨r,h1,h2,h3,h4,h5⟩:=hr.loadCells (P:=P) hL hl
 refine⟨r,h1,fun w1 hw=>⟨rfl,?_⟩,h2⟩
 have h4':∀j v,r[j]?=some v→w1.cell? (Addr.add ⟨L.b,L.o+a.off,none⟩ j)=some v:=fun j v hj=>by
  have:=h4 j v hj
  simpa [World.cell?,hw] using this
 exact run_firstCells_some (P:=P) w1 esz n ⟨L.b,L.o+a.off,none⟩ n c' r h3 h4'
theorem zOM {s:ByteArray} {esz:Nat}:Src P esz (.string s) s.data.toList.length (zV s.data.toList) w:=fun w1 _=>by
 refine⟨rfl,?_⟩
 have hs:s.data.toList.length=s.size:=rfl
 simp only[Builtin.firstCells,Sem.run_pure,hs]
 congr 1
 apply Array.ext'
 simp[zV]
theorem zIc {x':Value} {a:Option Addr} {c esz:Nat} (hx:VRel ρ (.slice a 0 c) x'):Src P esz x' 0 [] w:=fun w1 _=>by
 obtain⟨a',c',rfl,_⟩:=zCH hx
 refine⟨rfl,?_⟩
 cases a' with
 | none=>rfl
 | some a'=>simp[Builtin.firstCells,loadCells,loadCellsFrom]
theorem zEe {off:Nat} {c:zAT} {f:Fam} {es:List Value} (wf:HWF h) (hf:h.fams.get c.fam=some f) {e1 T:Nat}
  (hh:h'={ next:=h.next+1,blks:=h.blks.set h.next (.cells ⟨es,c.fam,c.delta+off,false⟩),fams:=h.fams.set c.fam (if f.top≤c.delta+e1 then { f with top:=T } else ⟨h.next,h.next,T⟩) }) :
  ∀A c2,h'.okCells A=some c2→(A=h.next∧c2=⟨es,c.fam,c.delta+off,false⟩)∨(A≠h.next∧h.okCells A=some c2∧(c2.fam=c.fam→f.top≤c.delta+e1)):=by
 intro A c2 hc2
 subst hh
 obtain⟨hb,f2,hf2,hor⟩:=okCells_iff.1 hc2
 simp only[PT.get_set] at hb hf2
 by_cases ea:A=h.next
 ·rw[if_pos ea] at hb;cases hb;exact .inl ⟨ea,rfl⟩
 ·rw[if_neg ea] at hb
  right
  have hlt:=wf.lt hb
  by_cases ef:c2.fam=c.fam
  ·rw[if_pos ef] at hf2
   cases hf2
   split at hor
   ·rename_i ht
    exact⟨ea,okCells_iff.2 ⟨hb,f,by rw[ef];exact hf,hor⟩,fun _=>ht⟩
   ·simp only at hor;omega
  ·rw[if_neg ef] at hf2
   exact⟨ea,okCells_iff.2 ⟨hb,f2,hf2,hor⟩,fun e=>absurd e ef⟩
theorem zGf {A0 off:Nat} {c:zAT} {f:Fam} {es:List Value} (wf:HWF h) (hc:h.okCells A0=some c) (hf:h.fams.get c.fam=some f) {e1 T:Nat}
  (hh:h'={ next:=h.next+1,blks:=h.blks.set h.next (.cells ⟨es,c.fam,c.delta+off,false⟩),fams:=h.fams.set c.fam (if f.top≤c.delta+e1 then { f with top:=T } else ⟨h.next,h.next,T⟩) }) :
  ∀A c2 f2,h'.okCells A=some c2→h'.fams.get c2.fam=some f2→f2.since=0→(A=h.next∧f.since=0)∨(A≠h.next∧h.okCells A=some c2∧∃f3,h.fams.get c2.fam=some f3∧f3.since=0):=by
 intro A c2 f2 hc2 hf2 h0
 have hlt:=wf.lt (okCells_iff.1 hc).1
 have key:c2.fam=c.fam→f.since=0:=fun e=>by
  subst hh
  simp only[PT.get_set,if_pos e] at hf2
  cases hf2
  split at h0
  ·exact h0
  ·simp only at h0;omega
 rcases zEe wf hf hh A c2 hc2 with ⟨rfl,rfl⟩|⟨h1,h2,_⟩
 ·exact .inl ⟨rfl,key rfl⟩
 ·refine .inr ⟨h1,h2,?_⟩
  by_cases e:c2.fam=c.fam
  ·exact⟨f,by rw[e];exact hf,key e⟩
  ·subst hh
   simp only[PT.get_set,if_neg e] at hf2
   exact⟨f2,hf2,h0⟩
theorem zMc {A0 off len1:Nat} {c:zAT} {f:Fam} {es:List Value} (wf:HWF h) (hc:h.okCells A0=some c) (hf:h.fams.get c.fam=some f) {n1:Nat} (hes:es.length=len1+n1)
  (hh:h'={ next:=h.next+1,blks:=h.blks.set h.next (.cells ⟨es,c.fam,c.delta+off,false⟩),fams:=h.fams.set c.fam (if f.top≤c.delta+(off+len1) then { f with top:=c.delta+(off+len1)+n1 } else ⟨h.next,h.next,c.delta+(off+len1)+n1⟩) }):HWF h':=by
 have hok:=zEe wf hf hh
 have hlt:=wf.lt (okCells_iff.1 hc).1
 have hfl:=wf.fam A0 c (okCells_iff.1 hc).1
 subst hh
 refine⟨?_,?_,?_⟩
 ·intro A hA
  simp only at hA
  simp only[PT.get_set]
  rw[if_neg (by omega),if_neg (by omega)]
  exact wf.fresh A (by omega)
 ·intro A c2 hc2
  simp only[PT.get_set] at hc2 ⊢
  split at hc2
  ·cases hc2;exact⟨by simp only;omega,_,if_pos rfl⟩
  ·obtain⟨h1,f2,hf2⟩:=wf.fam A c2 hc2
   refine⟨by omega,?_⟩
   split
   ·exact⟨_,rfl⟩
   ·exact⟨f2,hf2⟩
 ·intro A c2 f2 hc2 hf2
  rcases hok A c2 hc2 with ⟨rfl,rfl⟩|⟨hne,hc',himp⟩
  ·simp only[PT.get_set,if_true] at hf2
   cases hf2
   split<;>simp only<;>omega
  ·simp only[PT.get_set] at hf2
   split at hf2
   ·rename_i ef
    cases hf2
    have ht:=himp ef
    rw[if_pos ht]
    have:=wf.top A c2 f hc' (by rw[ef];exact hf)
    simp only;omega
   ·exact wf.top A c2 f2 hc' hf2
end
end Go.X
end
section
namespace Go.X
open Go.RowKit
section
variable {P:Program} {ρ:Ren} {t:Fr} {e:Operand→Value} {o:Oper} {w w':World} {v:Value} {base:Nat} {h h':Heap}
theorem zN3 {cs:List Value} {o k:Nat} {vs:List Value} (hb:o+k+vs.length≤cs.length):((putN cs (o+k) vs).drop o).take (k+vs.length)=((cs.drop o).take k)++vs:=by
 rw[zEw (len:=k+vs.length) (by omega) (by omega)]
 have hl:((cs.drop o).take (k+vs.length)).length=k+vs.length:=by simp;omega
 unfold putN
 have h2:((cs.drop o).take (k+vs.length)).drop (k+vs.length)=[]:=List.drop_of_length_le (by omega)
 rw[h2,List.take_take,Nat.min_eq_left (by omega),List.append_nil]
theorem zHV (hr:HRel P base ρ h w) (wf:HWF h) (hρ:ρ h.next=none) {st xt ty el:TypeId} {i:TypeInfo} {z:List Value} (h1:P.underlying st=some (.slice el)) (h2:(∃el',P.underlying xt=some (.slice el'))∨P.underlying xt=some .string) (hi:P.info? el=some i) (hz:z9 P el=some z) (hzl:z.length=i.size)
  {b:Option Addr} {len cap n:Nat} {x:Value} {olds olds' news news':List Value} (hs:Src P i.size x n news' w) (ho:∀w1:World,w1.heap=w.heap→(Builtin.firstCells i.size len (.slice b len cap)).run P w1=.ok olds'.toArray w1)
  (hol:olds'.length=len*i.size) (hnl:news'.length=n*i.size) (hro:LRel ρ olds olds') (hrn:LRel ρ news news')
  (hf:cap<len+n) (hby:(len+n)*i.bytes≤zj) (hb0:i.bytes≠0) :
  ∃v' w' ρ',(Builtin.append_ #[st,xt] ty #[.slice b len cap,x]).run P w=.ok v' w'∧HRel P base ρ' (h.new (olds++news)) w'∧HWF (h.new (olds++news))∧Ext base ρ h w ρ' (h.new (olds++news)) w' ∧
   VRel ρ' (.slice (some ⟨h.next,0,some i.size⟩) (len+n) (len+n)) v':=by
 obtain⟨newCap,rest,w',q1,q2,q3,q4,q5,q6,q7⟩:=zIN (ty:=ty) h1 h2 hi hz hzl hs ho hf hby hb0
 have hobj:ObjOK ρ (.cells (olds++news)) (.cells (olds'++news'++rest).toArray el):=by
  have hl:=(hro.append hrn).length
  refine⟨_,el,(0,0),rfl,?_,?_,fun i _ hh=>by omega⟩
  ·rw[hl];simp
  ·have:((olds'++news'++rest).toArray).toList.take (olds++news).length=olds'++news':=by
    rw[hl];exact List.take_left' rfl
   rw[this];exact hro.append hrn
 have hph:HRel P base ρ (h.push (.cells (olds++news))) w:=by
  refine (hr.phantom (.cells (olds++news)) hρ).congr (fun A=>?_) (fun A=>?_)<;>rw[zBR]
 have hf':=zCC h (.cells (olds++news))
 have hsize:zAC (.cells (olds'++news'++rest).toArray el)=newCap*i.size:=by
  simp only[zAC,List.size_toArray,List.length_append,hol,hnl,q2]
  rw[←Nat.add_mul,←Nat.add_mul];congr 1;omega
 refine⟨_,w',upd ρ h.next ⟨w.heap.size,0,zAC (.cells (olds'++news'++rest).toArray el)⟩,q3,hph.real q4 hf' hρ hobj,wf.push (.cells (olds++news)),?_,?_⟩
 ·refine⟨zBU hρ,?_,by show h.next≤h.next+1;omega,?_,?_,zDj hr.le q4 q5 q6 q7,fun r hr' _=>zAW q4 hr',?_⟩
  ·intro A hA
   by_cases ee:A=h.next
   ·subst ee;exact⟨Nat.le_refl _,Nat.lt_succ_self _⟩
   ·exact absurd (zl ee) hA
  ·intro A hA hsm
   have:=zBq h (.cells (olds++news)) A
   rw[if_neg (by omega)] at this
   rwa [←this]
  ·intro A hA _
   have:=zBq h (.cells (olds++news)) A
   rw[if_neg (by omega)] at this
   exact⟨this,zCk h (.cells (olds++news)) A (by omega)⟩
  ·intro A l hA hn
   by_cases ee:A=h.next
   ·subst ee;rw[z8] at hA;cases hA;exact .inl (Nat.le_refl _)
   ·rw[zl ee,hn] at hA;cases hA
 ·refine .slice z8 (Nat.le_refl _) q1 (fun _=>rfl) (fun hq=>by cases hq) (fun q hq=>?_)
  cases hq
  rw[hsize];simp
set_option maxHeartbeats 1000000 in
theorem zEx {args:Array Operand} {ats:Array TypeId} {sx x:Operand} {st xt el:TypeId} {n b:Nat} {z:List Value} (hr:HRel P base ρ h w) (wf:HWF h) (hpre:∀A,h.next≤A→A<h'.next→ρ A=none)
  (ho:o.op=.call { callee:=.builtin .append,args:=args,argTypes:=ats }) (ha:args.toList=[sx,x]) (ht0:ats[0]?=some st) (ht1:ats[1]?=some xt) (h1:P.underlying st=some (.slice el)) (h2:(∃el',P.underlying xt=some (.slice el'))∨P.underlying xt=some .string)
  (hz:z9 P el=some z) (hn:zZ P el=some n) (hby:zBD P el=some b) (hzn:z.length=n) (hs:VRel ρ (t.eval sx) (e sx)) (hx:VRel ρ (t.eval x) (e x)) (hh:effX t h (.append n b sx x)=some (v,h')) :
  zAP P base ρ h w e o v h':=by
 obtain⟨i,hi,hin⟩:=zNe hn
 have hib:=zNd hi hby
 subst hin
 obtain⟨cs0,hrun⟩:=zA7 (P:=P) (e:=e) w ho
 obtain⟨k,news,news',hsrc,hrn,hk0,happ⟩:∃k news news',Src P i.size (e x) k news' w∧LRel ρ news news'∧(k=0→news'=[])∧h.append i.size b (t.eval sx) k news=some (v,h'):=by
  simp only[effX] at hh
  split at hh
  ·rename_i str hq
   rw[hq] at hx
   rw[hx.string_inv]
   exact⟨_,_,_,zOM,zEk _,fun h0=>by rw[List.length_eq_zero_iff.1 h0];rfl,hh⟩
  ·rename_i k c hq
   split at hh
   ·rename_i h0;subst h0
    rw[hq] at hx
    exact⟨0,[],[],zIc hx,.nil,fun _=>rfl,hh⟩
   ·cases hh
  ·rename_i a k c hq
   rw[hq] at hx
   split at hh
   ·rename_i h0;subst h0
    exact⟨0,[],[],zIc hx,.nil,fun _=>rfl,hh⟩
   ·rename_i h0
    split at hh
    ·rename_i l hl
     obtain⟨l',q1,q2,q3⟩:=zOK (P:=P) hr hx h0 hl
     exact⟨k,l,l',q2,q1,fun hk=>absurd hk h0,hh⟩
    ·cases hh
  ·cases hh
 have hats:∀y,(Builtin.append_ ats o.type #[y,e x]).run P w=(Builtin.append_ #[st,xt] o.type #[y,e x]).run P w:=fun y=>by
  unfold Builtin.append_
  rw[ht0,ht1]
  rfl
 have hfin:∀ {v':Value} {w':World} {y:Value},e sx=y→(Builtin.append_ #[st,xt] o.type #[y,e x]).run P w=.ok v' w'→(execOp e o).run P w=.ok (.value v') w':=fun {v' w' y} hy hq=>by
  rw[hrun,zA3 ha]
  simp only[List.map_cons,List.map_nil,builtin,Sem.run_bind]
  rw[hy,hats,hq]
  rfl
 unfold Heap.append at happ
 split at happ
 ·rename_i bs len cap hq
  rw[hq] at hs
  split at happ
  ·
   rename_i h0
   subst h0
   cases happ
   rw[hk0 rfl] at hsrc
   cases bs with
   | none =>
    obtain⟨rfl,rfl,hv⟩:=hs.nilslice_inv
    have hq2:=zDW (ty:=o.type) (b:=none) (len:=0) (cap:=0) h1 h2 hi hsrc (Nat.le_refl 0)
    exact⟨.slice none 0 0,w,ρ,.inl (hfin hv hq2),hr,wf,Ext.refl _ _ _ _,by rw[hq];exact .nilslice⟩
   | some a =>
    obtain⟨L,a',c',hL,hv,hle,hcc,haddr,hex,hqq⟩:=hs.slice_inv
    have hq2:=zDW (ty:=o.type) (b:=some a') (len:=len) (cap:=c') h1 h2 hi hsrc (by omega)
    refine⟨.slice (some a') len c',w,ρ,.inl (hfin hv hq2),hr,wf,Ext.refl _ _ _ _,?_⟩
    rw[←hv,hq];exact hs
  ·rename_i h0
   split at happ
   ·cases happ
   ·rename_i hbad
    simp only[not_or] at hbad
    obtain⟨g1,g2,g3,g4,g5⟩:=hbad
    have g3':(len+k)*i.bytes≤zj:=by rw[hib];omega
    have g4':news.length=k*i.size:=by omega
    have gnl:news'.length=k*i.size:=by rw[←hrn.length];exact g4'
    cases bs with
    | none =>
     obtain⟨rfl,rfl,hv⟩:=hs.nilslice_inv
     simp only[Option.some.injEq,Prod.mk.injEq] at happ
     obtain⟨rfl,rfl⟩:=happ
     obtain⟨v',w',ρ',q1,q2,q3,q4,q5⟩:=zHV (ty:=o.type) (b:=none) (cap:=0) (olds:=[]) (olds':=[]) (news:=news) hr wf (hpre h.next (Nat.le_refl _) (Nat.lt_succ_self _)) h1 h2 hi hz hzn hsrc (fun w1 _=>rfl) (by simp) gnl .nil hrn (by omega) g3' (by omega)
     exact⟨v',w',ρ',.inl (hfin hv q1),q2,q3,q4,q5⟩
    | some a =>
     obtain⟨L,a',c',hL,hv,hle,hcc,haddr,hex,hqq⟩:=hs.slice_inv
     simp only at happ
     split at happ
     ·rename_i c hc
      split at happ
      ·
       rename_i hroom
       split at happ
       ·rename_i h2' hst
        cases happ
        have:=haddr (by omega)
        subst this
        obtain⟨w',q1,q2,q3,q4⟩:=zEQ (P:=P) (a:=⟨a.block,a.off+len*i.size,none⟩) hr wf hL hst hrn
        have hq2:=zDW (ty:=o.type) (b:=some ⟨L.b,L.o+a.off,none⟩) (len:=len) (cap:=c') h1 h2 hi hsrc (by omega)
        simp only[zAZ] at hq2
        rw[Nat.add_assoc,q1] at hq2
        refine⟨_,w',ρ,.inl (hfin hv hq2),q2,q3,q4,?_⟩
        exact .slice hL hroom hcc (fun _=>rfl) hex hqq
       ·cases happ
      ·rename_i hnoroom
       split at happ
       ·cases happ
       ·rename_i hlen
        have hrow:∃r,r.length=len*i.size∧LRel ρ ((c.cells.drop a.off).take (len*i.size)) r∧∀w1:World,w1.heap=w.heap→(Builtin.firstCells i.size len (.slice (some a') len c')).run P w1=.ok r.toArray w1:=by
         by_cases hl0:len=0
         ·subst hl0
          refine⟨[],by simp,by simp;exact .nil,fun w1 _=>?_⟩
          simp[Builtin.firstCells,loadCells,loadCellsFrom]
         ·have:=haddr (by omega)
          subst this
          obtain⟨r,r1,r2,r3,_⟩:=hr.row hc hL (off:=a.off) (n:=len*i.size) (by omega)
          refine⟨r,r1,r2,fun w1 hw=>run_firstCells_some (P:=P) w1 i.size len _ len c' r r1 fun j u hj=>?_⟩
          rw[zAZ]
          have:=r3 j u hj
          simpa [World.cell?,hw] using this
        obtain⟨olds',r1,r2,r3⟩:=hrow
        have hol:((c.cells.drop a.off).take (len*i.size)).length=len*i.size:=by rw[r2.length,r1]
        split at happ
        ·
         rename_i hsp
         cases happ
         have hcx:=hex hsp
         obtain⟨v',w',ρ',q1,q2,q3,q4,q5⟩:=zHV (ty:=o.type) (b:=some a') (cap:=c') hr wf (hpre h.next (Nat.le_refl _) (Nat.lt_succ_self _)) h1 h2 hi hz hzn hsrc r3 r1 gnl r2 hrn (by omega) g3' (by omega)
         exact⟨v',w',ρ',.inl (hfin hv q1),q2,q3,q4,q5⟩
        ·
         rename_i q hsp
         split at happ
         ·cases happ
         ·rename_i hqro
          simp only[not_or] at hqro
          obtain⟨hq1,hro⟩:=hqro
          have hq1':q=i.size:=by omega
          subst hq1'
          have hro':c.ro=false:=by simpa using hro
          have hcapL:=hqq i.size hsp
          split at happ
          ·rename_i f hf
           simp only[Option.some.injEq,Prod.mk.injEq] at happ
           obtain⟨rfl,hh'⟩:=happ
           have hok:=zEe (off:=a.off) (e1:=a.off+len*i.size) wf hf hh'.symm
           have hwf:=zMc (off:=a.off) (len1:=len*i.size) (n1:=news.length) wf hc hf (by simp only[List.length_append,hol]) hh'.symm
           have hlt:=wf.lt (okCells_iff.1 hc).1
           have hρ:=hpre h.next (Nat.le_refl _) (by rw[←hh'];exact Nat.lt_succ_self _)
           have hfam:(ρ c.fam).isSome:=hr.found a.block c (okCells_iff.1 hc).1 (by rw[hL];rfl)
           obtain⟨cs,T,fz,hheap,hsz,hbd,hrel,hw0⟩:=hr.cells a.block c L hc hL
           obtain⟨hbase,hfz⟩:=hw0 hro'
           have hclen:c.cells.length+0=c.cells.length:=rfl
           by_cases hin:len+k≤c'
           ·
            have:=haddr (by omega)
            subst this
            have hspace:L.o+a.off+(len+k)*i.size≤L.size:=by
             have:(len+k)*i.size≤c'*i.size:=Nat.mul_le_mul_right _ hin
             omega
            have hmul:(len+k)*i.size=len*i.size+k*i.size:=Nat.add_mul _ _ _
            obtain⟨cs',s1,s2,s3,s4,s5,s6,s7⟩:=zAm L.b news' (L.o+a.off+len*i.size) w cs T fz hheap (by omega)
            have hcs':cs'.size=cs.size:=by
             have:cs'.toList.length=cs.toList.length:=by rw[s2,zBs (by simp;omega)]
             simpa using this
            have hone':∀u∈news',u.oneCell'=true:=by
             intro u hu
             rw[zFW]
             obtain⟨j,hj,rfl⟩:=List.getElem_of_mem hu
             have hj':j<news.length:=by omega
             rw[←zFX (hrn.get j hj' hj)]
             exact List.all_eq_true.1 (by simpa using g5) _ (by simp)
            have hst:=run_storeCells_cells (P:=P) L.b (L.o+a.off+len*i.size) news' 0 w (fun j hj=>by
              simp only[World.cell?,hheap]
              rw[Array.getElem?_eq_getElem (by omega)];rfl) (fun j hj=>by
              simp only[World.frozen?,hheap]
              have:=hfz (L.o+a.off+len*i.size+0+j) (by omega)
              simp only[Bool.and_eq_false_iff,decide_eq_false_iff_not]
              omega) hone'
            rw[Nat.add_zero] at hst
            have hq2:=zDW (ty:=o.type) (b:=some ⟨L.b,L.o+a.off,none⟩) (len:=len) (cap:=c') h1 h2 hi hsrc hin
            simp only[zAZ] at hq2
            rw[hst] at hq2
            have hL2:∀A c2 l,h'.okCells A=some c2→A≠h.next→ρ A=some l→l.b=L.b→c2.fam=c.fam∧l.o+c.delta=L.o+c2.delta∧l.o+c2.cells.length≤L.o+a.off+len*i.size:=by
             intro A c2 l hA hne hl hb
             rcases hok A c2 hA with ⟨h1,_⟩|⟨_,hA',himp⟩
             ·exact absurd h1 hne
             ·by_cases eA:A=a.block
              ·subst eA
               rw[hc] at hA';cases hA'
               rw[hL] at hl;cases hl
               have ht:=himp rfl
               have:=wf.top _ c f hc hf
               exact⟨rfl,rfl,by omega⟩
              ·obtain⟨e1,e2⟩:=hr.alias A a.block c2 c l L eA hA' hc hl hL hb
               have ht:=himp e1
               have:=wf.top A c2 f hA' (by rw[e1];exact hf)
               exact⟨e1,e2,by omega⟩
            refine⟨_,_,upd ρ h.next ⟨L.b,L.o+a.off,L.size⟩,.inl (hfin hv hq2),?_,hwf,?_,?_⟩
            ·have hmk:=zGf (off:=a.off) (e1:=a.off+len*i.size) wf hc hf hh'.symm
             have hpl:Unmarked w L.b→Unmarked (w.setCells L.b (L.o+a.off+len*i.size) news') L.b:=fun hp cs2 T2 fz2 hh2=>by
              rw[s1] at hh2
              cases hh2
              rw[hcs']
              exact hp _ _ _ hheap
             have hpl2:∀b,Unmarked w b→Unmarked (w.setCells L.b (L.o+a.off+len*i.size) news') b:=fun b hp=>by
              by_cases eb:b=L.b
              ·rw[eb] at hp ⊢;exact hpl hp
              ·exact hp.same (s3 b eb)
             refine hr.addBlk hρ hh'.symm (.inr hfam) (fun A c2 hA=>(hok A c2 hA).imp id fun q=>⟨q.1,q.2.1⟩) (by rw[s4];exact Nat.le_refl _) (by rw[s4];have hb5:=hr.bnd _ _ hL;exact hb5) ?_ ?_ ?_ ?_ (fun k q hq hsp=>(s3 k (fun e=>by rw[e,hheap] at hq;cases hq;exact False.elim hsp)).trans hq) (fun e=>absurd (show c.fam=h.next from e) (by have:=(wf.fam _ _ (okCells_iff.1 hc).1).1;omega)) (fun A c2 f2 l g1 g2 g3 g4 g5=>?_)
             rotate_left 4
             ·rcases hmk A c2 f2 g1 g2 g3 with ⟨rfl,g6⟩|⟨g6,g7,f3,g8,g9⟩
              ·rw[z8] at g5;cases g5
               exact hpl (hr.mark a.block c f L hc hf g6 hro' hL)
              ·rw[zl g6] at g5
               exact hpl2 _ (hr.mark A c2 f3 l g7 g8 g9 g4 g5)
             ·refine⟨cs',T,fz,s1,by rw[hcs',hsz],?_,?_,hbase,fun j hj=>hfz j (by omega)⟩
              ·simp only[List.length_append,hol];omega
              ·have e1:((c.cells.drop a.off).take (len*i.size)++news).length=len*i.size+news'.length:=by
                rw[List.length_append,hol,hrn.length]
               simp only[e1]
               rw[s2,zN3 (by simp;omega)]
               refine All2.append ?_ hrn
               have:=(hrel.drop a.off).take (len*i.size)
               rw[List.drop_take,List.drop_drop,List.take_take,Nat.min_eq_left (by omega)] at this
               exact this
             ·intro A c2 l hA hne hl
              rcases hok A c2 hA with ⟨h1,_⟩|⟨_,hA',_⟩
              ·exact absurd h1 hne
              ·obtain⟨ds,T2,fz2,t1,t2,t3,t4,t5⟩:=hr.cells A c2 l hA' hl
               by_cases eb:l.b=L.b
               ·obtain⟨_,_,e3⟩:=hL2 A c2 l hA hne hl eb
                rw[eb,hheap] at t1
                cases t1
                refine⟨cs',T,fz,by rw[eb];exact s1,by rw[hcs'];exact t2,by rw[hcs'];exact t3,?_,fun hro2=>⟨(t5 hro2).1,fun j hj=>hfz j (by omega)⟩⟩
                have e4:(cs'.toList.drop l.o).take c2.cells.length=(cs.toList.drop l.o).take c2.cells.length:=by
                 rw[s2]
                 apply List.ext_getElem?
                 intro j
                 rw[List.getElem?_take,List.getElem?_take]
                 split
                 ·rw[List.getElem?_drop,List.getElem?_drop]
                  unfold putN
                  rw[List.append_assoc,List.getElem?_append_left (by simp;omega),List.getElem?_take,if_pos (by omega)]
                 ·rfl
                rw[e4];exact t4
               ·exact⟨ds,T2,fz2,by rw[s3 l.b eb];exact t1,t2,t3,t4,t5⟩
             ·intro A c2 l hA hne hl eb
              obtain⟨e1,e2,_⟩:=hL2 A c2 l hA hne hl eb
              exact⟨e1,by simp only;omega⟩
             ·intro A l es st hes hl
              refine s3 l.b fun eb=>?_
              obtain⟨es',cl,u1,_⟩:=hr.maps A l es st hes hl
              rw[eb,hheap] at u1;cases u1
            ·rw[←hh']
             refine⟨zBU hρ,?_,Nat.le_succ _,?_,?_,⟨s5,s6,s7,by rw[s4];exact Nat.le_refl _,fun j hj=>s3 j (by omega)⟩,?_,?_⟩
             ·intro A hA
              by_cases ee:A=h.next
              ·subst ee;exact⟨Nat.le_refl _,Nat.lt_succ_self _⟩
              ·exact absurd (zl ee) hA
             ·intro A hA hsm
              simp only[PT.get_set] at hsm
              rwa [if_neg (by omega)] at hsm
             ·intro A hA hn0
              simp only[PT.get_set]
              rw[if_neg (by omega),if_neg (fun ee=>by rw[ee] at hn0;rw[hn0] at hfam;cases hfam)]
              exact⟨rfl,rfl⟩
             ·intro r hr0 hno
              exact s3 r fun ee=>hno a.block L hL (by rw[(okCells_iff.1 hc).1];rfl) ee.symm
             ·intro A l hA hn0
              by_cases ee:A=h.next
              ·subst ee;rw[z8] at hA;cases hA
               exact .inr ⟨a.block,L,hL,by rw[(okCells_iff.1 hc).1];rfl,rfl⟩
              ·rw[zl ee,hn0] at hA;cases hA
            ·refine .slice z8 (Nat.le_refl _) hin (fun _=>rfl) (fun hq=>by cases hq) (fun q hq=>?_)
             cases hq
             simp only;omega
           ·
            obtain⟨newCap,rest,w',m1,m2,m3,m4,m5,m6,m7⟩:=zIN (ty:=o.type) (b:=some a') (cap:=c') h1 h2 hi hz hzn hsrc r3 (by omega) g3' (by omega)
            have hsize:(olds'++news'++rest).toArray.size=newCap*i.size:=by
             simp only[List.size_toArray,List.length_append,r1,gnl,m2]
             rw[←Nat.add_mul,←Nat.add_mul];congr 1;omega
            have hnewh:=zFA m4
            have hsz':w'.heap.size=w.heap.size+1:=by rw[m4];simp
            refine⟨_,w',upd ρ h.next ⟨w.heap.size,0,newCap*i.size⟩,.inl (hfin hv m3),?_,hwf,?_,?_⟩
            ·have hmk:=zGf (off:=a.off) (e1:=a.off+len*i.size) wf hc hf hh'.symm
             refine hr.addBlk hρ hh'.symm (.inr hfam) (fun A c2 hA=>(hok A c2 hA).imp id fun q=>⟨q.1,q.2.1⟩) (by omega) (by simp only;omega) ?_ ?_ ?_ ?_ (fun k q hq _=>(zAW m4 (Array.getElem?_eq_some_iff.1 hq).1).trans hq) (fun e=>absurd (show c.fam=h.next from e) (by have:=(wf.fam _ _ (okCells_iff.1 hc).1).1;omega)) (fun A c2 f2 l g1 g2 g3 g4 g5=>?_)
             rotate_left 4
             ·rcases hmk A c2 f2 g1 g2 g3 with ⟨rfl,g6⟩|⟨g6,g7,f3,g8,g9⟩
              ·rw[z8] at g5;cases g5
               intro cs2 T2 fz2 hh2
               simp only at hh2
               rw[hnewh] at hh2
               cases hh2
               intro hq
               simp only at hq
               omega
              ·rw[zl g6] at g5
               exact (hr.mark A c2 f3 l g7 g8 g9 g4 g5).same (zAW m4 (hr.bnd A l g5))
             ·refine⟨_,el,(0,0),hnewh,hsize,?_,?_,hr.le,fun j _ hj=>by omega⟩
              ·simp only[List.length_append,hol,List.size_toArray,r1];have:=hrn.length;omega
              ·have e1:((c.cells.drop a.off).take (len*i.size)++news).length=(olds'++news').length:=(r2.append hrn).length
               simp only[e1,List.drop_zero]
               rw[List.take_left' rfl]
               exact r2.append hrn
             ·intro A c2 l hA hne hl
              rcases hok A c2 hA with ⟨h1,_⟩|⟨_,hA',_⟩
              ·exact absurd h1 hne
              ·obtain⟨ds,T2,fz2,t1,t2,t3,t4,t5⟩:=hr.cells A c2 l hA' hl
               exact⟨ds,T2,fz2,by rw[zAW m4 (hr.bnd A l hl)];exact t1,t2,t3,t4,t5⟩
             ·intro A c2 l hA hne hl eb
              have:=hr.bnd A l hl
              simp only at eb;omega
             ·intro A l es st hes hl
              exact zAW m4 (hr.bnd A l hl)
            ·rw[←hh']
             refine⟨zBU hρ,?_,Nat.le_succ _,?_,?_,zDj hr.le m4 m5 m6 m7,fun r hr0 _=>zAW m4 hr0,?_⟩
             ·intro A hA
              by_cases ee:A=h.next
              ·subst ee;exact⟨Nat.le_refl _,Nat.lt_succ_self _⟩
              ·exact absurd (zl ee) hA
             ·intro A hA hsm
              simp only[PT.get_set] at hsm
              rwa [if_neg (by omega)] at hsm
             ·intro A hA hn0
              simp only[PT.get_set]
              rw[if_neg (by omega),if_neg (fun ee=>by rw[ee] at hn0;rw[hn0] at hfam;cases hfam)]
              exact⟨rfl,rfl⟩
             ·intro A l hA hn0
              by_cases ee:A=h.next
              ·subst ee;rw[z8] at hA;cases hA;exact .inl (Nat.le_refl _)
              ·rw[zl ee,hn0] at hA;cases hA
            ·refine .slice z8 (Nat.le_refl _) m1 (fun _=>rfl) (fun hq=>by cases hq) (fun q hq=>?_)
             cases hq
             simp
          ·cases happ
     ·cases happ
 ·cases happ
end
end Go.X
end
section
namespace Go.X
open Go.RowKit
section
variable {P:Program} {ρ:Ren} {t:Fr} {e:Operand→Value} {o:Oper} {w w':World} {v:Value} {base:Nat} {h h':Heap}
theorem zCd (hr:HRel P base ρ h w) (wf:HWF h) {r:Nat} {L:Loc} {es fs:List (Value×Value)} {es':Array MapEntry} {fs':Array MapEntry} {cl cl':Nat} {st st':Option (List Nat×Nat)} (hb:h.blks.get r=some (.map es st)) (hL:ρ r=some L) (hh:w.heap[L.b]?=some (.map es' cl)) (hbase:base≤L.b)
  (hrel:All2 (ERel ρ) fs fs'.toList) (hst:zBC fs' cl'∧StOK st' fs' cl') :
  HRel P base ρ (h.setBlk r (.map fs st')) { w with heap:=w.heap.setIfInBounds L.b (.map fs' cl') }∧HWF (h.setBlk r (.map fs st'))∧Ext base ρ h w ρ (h.setBlk r (.map fs st')) { w with heap:=w.heap.setIfInBounds L.b (.map fs' cl') }:=by
 have hlt:L.b<w.heap.size:=(Array.getElem?_eq_some_iff.1 hh).1
 have hsame:∀q,q≠L.b→(w.heap.setIfInBounds L.b (.map fs' cl'))[q]?=w.heap[q]?:=fun q hq=>by rw[Array.getElem?_setIfInBounds_ne (Ne.symm hq)]
 have hself:(w.heap.setIfInBounds L.b (.map fs' cl'))[L.b]?=some (.map fs' cl'):=by simp[hlt]
 have hblk:∀A,(h.setBlk r (.map fs st')).blks.get A=if A=r then some (.map fs st') else h.blks.get A:=fun A=>by simp only[Heap.setBlk,PT.get_set]
 have hcell:∀A c,(h.setBlk r (.map fs st')).blks.get A=some (.cells c)→A≠r∧h.blks.get A=some (.cells c):=fun A c hc=>by
  rw[hblk] at hc
  split at hc
  ·cases hc
  ·exact⟨‹_›,hc⟩
 have hok:∀A c,(h.setBlk r (.map fs st')).okCells A=some c→h.okCells A=some c:=fun A c hc=>by
  obtain⟨h1,f,h2,h3⟩:=okCells_iff.1 hc
  exact okCells_iff.2 ⟨(hcell A c h1).2,f,h2,h3⟩
 have hnocell:∀A c l,h.okCells A=some c→ρ A=some l→l.b≠L.b:=fun A c l hc hl eb=>by
  obtain⟨cs,T,fz,q1,_⟩:=hr.cells A c l hc hl
  rw[eb,hh] at q1;cases q1
 refine⟨⟨by simpa using hr.le,fun A l hA=>by simpa using hr.bnd A l hA,fun A c hc hs=>hr.found A c (hcell A c hc).2 hs,?_,?_,?_,?_,hr.fin,fun A c f l hc hf h0 hro hl=>(hr.mark A c f l (hok A c hc) hf h0 hro hl).same (hsame l.b (hnocell A c l (hok A c hc) hl)),
  hr.loops.step (fun _ _ h=>h) (fun A q l h1 hsp h2=>by
   rw[hblk] at h1
   split at h1
   ·cases h1;exact False.elim hsp
   ·exact⟨h1,h2⟩) (fun k q hq hsp=>(hsame k (fun e=>by rw[e,hh] at hq;cases hq;exact False.elim hsp)).trans hq)
   (fun A l h1 h2=>by obtain⟨c,k1,k2⟩:=h1;exact .inr ⟨⟨c,(hcell A c k1).2,k2⟩,h2⟩) (fun A l gs st2 gs' c2 h1 h2 h3=>by
    rw[hblk] at h1
    split at h1
    ·rename_i ee
     subst ee
     rw[hL] at h2;cases h2
     rw[hself] at h3;cases h3;cases h1
     exact .inl hst
    ·rename_i ne
     exact .inr ⟨gs,h1,h2,by rw[←hsame l.b (hr.malias A r gs st2 es st l L ne h1 hb h2 hL)];exact h3⟩)⟩,⟨?_,?_,?_⟩,?_⟩
 ·intro A c l hc hl
  obtain⟨cs,T,fz,q1,q2⟩:=hr.cells A c l (hok A c hc) hl
  exact⟨cs,T,fz,by rw[hsame l.b (hnocell A c l (hok A c hc) hl)];exact q1,q2⟩
 ·intro A B c d l m hAB hc hd;exact hr.alias A B c d l m hAB (hok A c hc) (hok B d hd)
 ·intro A l gs st2 hg hl
  rw[hblk] at hg
  split at hg
  ·rename_i ee
   subst ee
   cases hg
   rw[hL] at hl;cases hl
   exact⟨fs',cl',hself,hbase,hrel⟩
  ·rename_i ne
   obtain⟨gs',c2,q1,q2,q3⟩:=hr.maps A l gs st2 hg hl
   exact⟨gs',c2,by rw[hsame l.b (hr.malias A r gs st2 es st l L ne hg hb hl hL)];exact q1,q2,q3⟩
 ·intro A B gs st2 ks su l m hAB h1 h2 hl hm
  have key:∀A gs st2,(h.setBlk r (.map fs st')).blks.get A=some (.map gs st2)→∃gs0 st0,h.blks.get A=some (.map gs0 st0):=fun A gs st2 hg=>by
   rw[hblk] at hg
   split at hg
   ·rename_i ee;subst ee;exact⟨es,st,hb⟩
   ·exact⟨gs,st2,hg⟩
  obtain⟨g1,t1,h1'⟩:=key A gs st2 h1
  obtain⟨g2,t2,h2'⟩:=key B ks su h2
  exact hr.malias A B g1 t1 g2 t2 l m hAB h1' h2' hl hm
 ·intro A hA
  have hr':=wf.lt hb
  exact⟨by rw[hblk,if_neg (by have:h.next≤A:=hA;omega)];exact (wf.fresh A hA).1,(wf.fresh A hA).2⟩
 ·intro A c hc;exact wf.fam A c (hcell A c hc).2
 ·intro A c f hc hf;exact wf.top A c f (hok A c hc) hf
 ·refine⟨fun _ _ h=>h,fun A h=>absurd rfl h,Nat.le_refl _,?_,?_,⟨rfl,rfl,rfl,by simp,fun k hk=>hsame k (by omega)⟩,?_,fun A l h1 h2=>by rw[h2] at h1;cases h1⟩
  ·intro A hA hs
   rw[hblk] at hs
   split at hs
   ·rename_i ee;subst ee;rw[hb];rfl
   ·exact hs
  ·intro A hA hn
   exact⟨by rw[hblk,if_neg (fun ee=>by subst ee;rw[hL] at hn;cases hn)],rfl⟩
  ·intro q hq hno
   exact hsame q fun ee=>hno r L hL (by rw[hb];rfl) ee.symm
theorem zHa {k:EqK} {kt:TypeId} (hk:keyK P kt=some k) {x y x' y':Value} (hx:VRel ρ x x') (hy:VRel ρ y y') (h:eqX k x y=some true):Instr.sameBits 10000 y' x'=true:=by
 rcases zCa hk with ⟨rfl,q,hu⟩|⟨rfl,hu⟩|⟨rfl,hu⟩
 ·obtain⟨k,m,n,rfl,rfl,hb⟩:=zE0 h
  rw[hx.int_inv,hy.int_inv]
  have:m=n:=by simpa using hb.symm
  subst this
  unfold Instr.sameBits;simp
 ·obtain⟨m,n,rfl,rfl,hb⟩:=zE1 h
  rw[hx.string_inv,hy.string_inv]
  unfold Instr.sameBits
  rw[zIl]
  have:m.data.toList=n.data.toList:=by simpa using hb.symm
  rw[this];simp
 ·obtain⟨m,n,rfl,rfl,hb⟩:=zEz h
  rw[hx.bool_inv,hy.bool_inv]
  have:m=n:=by simpa using hb.symm
  subst this
  unfold Instr.sameBits;simp
theorem zEv {kt:TypeId} {k:EqK} (hk:keyK P kt=some k):∃d,P.underlying kt=some d:=by
 rcases zCa hk with ⟨_,q,hu⟩|⟨_,hu⟩|⟨_,hu⟩<;>exact⟨_,hu⟩
theorem zBM (es:Array MapEntry) (j:Nat) (f:MapEntry→MapEntry) {en:MapEntry} (he:es.toList[j]?=some en):(es.modify j f).toList=es.toList.set j (f en):=by
 apply List.ext_getElem?
 intro i
 rw[Array.getElem?_toList,Array.getElem?_modify,List.getElem?_set]
 rw[Array.getElem?_toList] at he ⊢
 by_cases hij:j=i
 ·subst hij
  obtain⟨hlt,hen⟩:=Array.getElem?_eq_some_iff.1 he
  simp[hlt,hen]
 ·simp[hij]
theorem StOK.born {st:Option (List Nat×Nat)} {es fs:Array MapEntry} {cl cl':Nat} (h:StOK st es cl) (hb:fs.toList.map (·.born)=es.toList.map (·.born)) (hc:cl'=cl):StOK st fs cl':=by
 unfold StOK at h ⊢
 split
 ·trivial
 ·exact⟨hb.trans h.1,hc.trans h.2⟩
theorem StOK.add {st:Option (List Nat×Nat)} {es:Array MapEntry} {cl:Nat} (h:StOK st es cl) {k v:Value}:StOK (stAdd st) (es.push { key:=k,val:=v,born:=cl }) (cl+1):=by
 cases st with
 | none=>trivial
 | some p =>
  obtain⟨l,c⟩:=p
  obtain⟨h1,h2⟩:=h
  subst h2
  exact⟨by rw[Array.toList_push,List.map_append,h1];rfl,rfl⟩
theorem StOK.del {st:Option (List Nat×Nat)} {es:Array MapEntry} {cl:Nat} (h:StOK st es cl) (i:Nat):StOK (stDel st i) (es.eraseIdxIfInBounds i) cl:=by
 cases st with
 | none=>trivial
 | some p =>
  obtain⟨l,c⟩:=p
  obtain⟨h1,h2⟩:=h
  refine⟨?_,h2⟩
  have:(es.eraseIdxIfInBounds i).toList=es.toList.eraseIdx i:=by
   unfold Array.eraseIdxIfInBounds
   split
   ·simp
   ·rename_i h
    rw[List.eraseIdx_of_length_le (by simpa using h)]
  rw[this,←h1]
  generalize es.toList=l
  clear this h1
  induction l generalizing i with
  | nil=>rfl
  | cons x l ih=>cases i with
   | zero=>rfl
   | succ i=>simp[ih i]
theorem e_mupd {tt kt el:TypeId} {k:EqK} {m x y:Operand} (hr:HRel P base ρ h w) (wf:HWF h) (ho:o.op=.mapUpdate tt m x y∨o.op=.insert tt m x y) (hu:P.underlying tt=some (.map kt el)) (hk:keyK P kt=some k)
  (hm:VRel ρ (t.eval m) (e m)) (hx:VRel ρ (t.eval x) (e x)) (hy:VRel ρ (t.eval y) (e y)) (hh:effX t h (.mupd k m x y)=some (v,h')):zAP P base ρ h w e o v h':=by
 obtain⟨d,hd⟩:=zEv hk
 have hck:∀w,(Instr.checkKey false 10000 kt (e x)).run P w=.ok () w:=fun w=>zDX hk _ _ _
 have hexec:∀ {w'},(Instr.mapUpdate tt (e m) (e x) (e y)).run P w=.ok () w'→(execOp e o).run P w=.ok .skip w':=fun {w'} hq=>by
  rcases ho with ho|ho<;>simp[execOp,ho,hq]
 simp only[effX] at hh
 split at hh
 ·rename_i r hs
  rw[hs] at hm
  split at hh
  ·rename_i es st hes
   cases hm':e m<;>rw[hm'] at hm<;>cases hm
   rename_i L hL
   obtain⟨es',cl,hheap,hbase,hrel⟩:=hr.maps r L es st hes hL
   have hg:(getObj L.b).run P w=.ok (.map es' cl) w:=zBH hheap
   split at hh
   ·rename_i i v1 hf
    cases hh
    rcases zBe hk hd hx hrel hf with ⟨q,_⟩|⟨j,v2,v2',en',q1,q2,q3,q4,q5,q6⟩
    ·cases q
    ·simp only[Nat.zero_add,Option.some.injEq,Prod.mk.injEq] at q1
     obtain⟨rfl,rfl⟩:=q1
     rw[Nat.zero_add] at q2
     have hfk:=zBG (P:=P) (w:=w) hd q2
     have hen:es'[i]?=some en':=by rw[←Array.getElem?_toList];exact q4
     have hold:=hrel.get i q6 (by rw[←hrel.length];exact q6)
     have hen':es'.toList[i]'(by rw[←hrel.length];exact q6)=en':=by
      have:=List.getElem?_eq_getElem (l:=es'.toList) (i:=i) (by rw[←hrel.length];exact q6)
      rw[q4] at this;exact (Option.some.inj this).symm
     have hkey:eqX k (t.eval x) es[i].1=some true:=by
      have e1:(es.map (·.1)).getD i (.tuple #[])=es[i].1:=by simp[List.getD,q6]
      rwa [e1] at q5
     have hsb:Instr.sameBits 10000 en'.key (e x)=true:=zHa hk hx (by rw[←hen'];exact hold.1) hkey
     have hks:(Instr.keyThatStays (((es'[i]?).map (·.key)).getD (e x)) (e x)).run P w=.ok (e x) w:=by
      rw[hen]
      simp[Instr.keyThatStays,hsb]
     obtain⟨s1,s2,s3⟩:=zCd (fs:=es.set i (t.eval x,t.eval y)) (fs':=es'.modify i fun q=>{ q with key:=e x,val:=e y }) (cl':=cl) hr wf hes hL hheap hbase (by
      rw[zBM es' i _ q4]
      exact hrel.set ⟨hx,hy⟩ i) (by
      obtain⟨hst,hso⟩:=hr.loops.stamps r L es st es' cl hes hL hheap
      unfold zBC at hst ⊢
      have hbo:(es'.modify i fun q=>{ q with key:=e x,val:=e y }).toList.map (·.born)=es'.toList.map (·.born):=by
       rw[zBM es' i _ q4,List.map_set,show ({ en' with key:=e x,val:=e y }:MapEntry).born=(es'.toList.map (·.born))[i]'(by rw[List.length_map,←hrel.length];exact q6) from by simp[←hen'],List.set_getElem_self]
      refine⟨⟨fun z hz=>?_,by rw[hbo];exact hst.2⟩,hso.born hbo rfl⟩
      rw[zBM es' i _ q4] at hz
      ·rcases List.mem_or_eq_of_mem_set hz with hz|rfl
       ·exact hst.1 z hz
       ·exact hst.1 en' (List.mem_of_getElem? q4))
     refine⟨undef,_,ρ,.inr ⟨hexec ?_,rfl⟩,s1,s2,s3,VRel.undef⟩
     simp only[Instr.mapUpdate,Sem.run_bind,run_underlying hu,Result.andThen_ok,hm',hg,hck,hfk,hks,zCF _ hheap]
   ·rename_i hf
    cases hh
    rcases zBe hk hd hx hrel hf with ⟨_,q2⟩|⟨j,v2,v2',en',q1,_⟩
    ·have hfk:=zBG (P:=P) (w:=w) hd q2
     obtain⟨s1,s2,s3⟩:=zCd (fs:=es++[(t.eval x,t.eval y)]) (fs':=es'.push { key:=e x,val:=e y,born:=cl }) (cl':=cl+1) hr wf hes hL hheap hbase (by
      rw[Array.toList_push]
      exact hrel.append (.cons ⟨hx,hy⟩ .nil)) (by
      obtain⟨hst,hso⟩:=hr.loops.stamps r L es st es' cl hes hL hheap
      unfold zBC at hst ⊢
      rw[Array.toList_push]
      refine⟨⟨fun z hz=>?_,?_⟩,hso.add⟩
      ·rcases List.mem_append.1 hz with hz|hz
       ·exact Nat.lt_succ_of_lt (hst.1 z hz)
       ·simp only[List.mem_singleton] at hz;subst hz;exact Nat.lt_succ_self _
      ·rw[List.map_append,List.nodup_append]
       refine⟨hst.2,by simp,fun a ha b hb=>?_⟩
       simp only[List.map_cons,List.map_nil,List.mem_singleton] at hb
       subst hb
       obtain⟨z,hz,rfl⟩:=List.mem_map.1 ha
       exact Nat.ne_of_lt (hst.1 z hz))
     refine⟨undef,_,ρ,.inr ⟨hexec ?_,rfl⟩,s1,s2,s3,VRel.undef⟩
     simp only[Instr.mapUpdate,Sem.run_bind,run_underlying hu,Result.andThen_ok,hm',hg,hck,hfk,zCF _ hheap]
    ·cases q1
   ·cases hh
  ·cases hh
 ·cases hh
theorem zHI (es:Array MapEntry) (i:Nat):(es.eraseIdxIfInBounds i).toList=es.toList.eraseIdx i:=by
 unfold Array.eraseIdxIfInBounds
 split
 ·simp
 ·rename_i h
  rw[List.eraseIdx_of_length_le (by simpa using h)]
theorem e_mdel {args:Array Operand} {ats:Array TypeId} {m x:Operand} {tt kt el:TypeId} {k:EqK} (hr:HRel P base ρ h w) (wf:HWF h) (ho:o.op=.call { callee:=.builtin .delete,args:=args,argTypes:=ats }) (ha:args.toList=[m,x]) (ht:ats[0]?=some tt)
  (hu:P.underlying tt=some (.map kt el)) (hk:keyK P kt=some k) (hm:VRel ρ (t.eval m) (e m)) (hx:VRel ρ (t.eval x) (e x)) (hh:effX t h (.mdel k m x)=some (v,h')):zAP P base ρ h w e o v h':=by
 obtain⟨d,hd⟩:=zEv hk
 obtain⟨cs0,hrun⟩:=zA7 (P:=P) (e:=e) w ho
 have hck:∀em w,(Instr.checkKey em 10000 kt (e x)).run P w=.ok () w:=fun em w=>zDX hk _ _ _
 have hexec:∀ {w'},(Builtin.delete_ ats o.type #[e m,e x]).run P w=.ok (.tuple #[]) w'→(execOp e o).run P w=.ok (.value (.tuple #[])) w':=fun {w'} hq=>by
  rw[hrun,zA3 ha]
  simp only[List.map_cons,List.map_nil,builtin,Sem.run_bind,hq]
  rfl
 have h0:∀y:Sem Value,(Builtin.delete_ ats o.type #[e m,e x])=(Builtin.delete_ ats o.type #[e m,e x]):=fun _=>rfl
 simp only[effX] at hh
 split at hh
 ·rename_i r hs
  rw[hs] at hm
  split at hh
  ·rename_i es st hes
   cases hm':e m<;>rw[hm'] at hm<;>cases hm
   rename_i L hL
   obtain⟨es',cl,hheap,hbase,hrel⟩:=hr.maps r L es st hes hL
   have hg:(getObj L.b).run P w=.ok (.map es' cl) w:=zBH hheap
   split at hh
   ·rename_i i v1 hf
    cases hh
    rcases zBe hk hd hx hrel hf with ⟨q,_⟩|⟨j,v2,v2',en',q1,q2,_⟩
    ·cases q
    ·simp only[Nat.zero_add,Option.some.injEq,Prod.mk.injEq] at q1
     obtain⟨rfl,rfl⟩:=q1
     rw[Nat.zero_add] at q2
     have hfk:=zBG (P:=P) (w:=w) hd q2
     obtain⟨s1,s2,s3⟩:=zCd (fs:=es.eraseIdx i) (fs':=es'.eraseIdxIfInBounds i) (cl':=cl) hr wf hes hL hheap hbase (by rw[zHI];exact hrel.eraseIdx i) (by
      obtain⟨hst,hso⟩:=hr.loops.stamps r L es st es' cl hes hL hheap
      unfold zBC at hst ⊢
      rw[zHI]
      exact⟨⟨fun z hz=>hst.1 z (List.mem_of_mem_eraseIdx hz),hst.2.sublist ((List.eraseIdx_sublist _ _).map _)⟩,hso.del i⟩)
     refine⟨.tuple #[],_,ρ,.inl (hexec ?_),s1,s2,s3,VRel.undef⟩
     simp[Builtin.delete_,ht,run_underlying hu,hm',hg,hck,hfk,zCF _ hheap]
   ·rename_i hf
    cases hh
    rcases zBe hk hd hx hrel hf with ⟨_,q2⟩|⟨j,v2,v2',en',q1,_⟩
    ·have hfk:=zBG (P:=P) (w:=w) hd q2
     have hsame:({ w with heap:=w.heap.setIfInBounds L.b (.map es' cl) }:World)=w:=by
      have:w.heap.setIfInBounds L.b (.map es' cl)=w.heap:=by
       apply Array.ext_getElem?
       intro q
       by_cases hq:L.b=q
       ·subst hq;rw[hheap];simp[(Array.getElem?_eq_some_iff.1 hheap).1]
       ·rw[Array.getElem?_setIfInBounds_ne hq]
      rw[this]
     refine⟨.tuple #[],w,ρ,.inl (hexec ?_),hr,wf,Ext.refl _ _ _ _,VRel.undef⟩
     have hset:(setObj L.b (.map es' cl)).run P w=.ok () w:=by rw[zCF _ hheap,hsame]
     simp[Builtin.delete_,ht,run_underlying hu,hm',hg,hck,hfk,hset]
    ·cases q1
   ·cases hh
  ·cases hh
 ·rename_i hs
  rw[hs] at hm
  cases hh
  cases hm':e m<;>rw[hm'] at hm<;>cases hm
  refine⟨.tuple #[],w,ρ,.inl (hexec ?_),hr,wf,Ext.refl _ _ _ _,VRel.undef⟩
  simp[Builtin.delete_,ht,run_underlying hu,hm',hck]
 ·cases hh
theorem zNp {a:Addr} {n m:Nat} {l:List Value} (hl:h.loadN a n=some l) (hm:m≤n):h.loadN a m=some (l.take m):=by
 obtain⟨c,hc,hb,rfl⟩:=Heap.loadN_some hl
 unfold Heap.loadN
 rw[hc]
 unfold zAD
 have:(a.off+m).ble c.cells.length=true:=Nat.ble_eq_true_of_le (by omega)
 simp only[this,List.take_take,Nat.min_eq_left hm,cond_true]
theorem zOL {x:Operand} {esz k:Nat} {l:List Value} (hr:HRel P base ρ h w) (hx:VRel ρ (t.eval x) (e x)) (hq:srcX t h esz x=some (k,l)) :
  (Builtin.lenOf (e x)).run P w=.ok k w∧∀m,m≤k→∃l',LRel ρ (l.take (m*esz)) l'∧(Builtin.firstCells esz m (e x)).run P w=.ok l'.toArray w:=by
 unfold srcX at hq
 split at hq
 ·rename_i str hsq
  split at hq
  ·rename_i h1
   subst h1
   cases hq
   rw[hsq] at hx
   rw[hx.string_inv]
   refine⟨rfl,fun m hm=>⟨_,(zEk (str.data.toList)).take _,?_⟩⟩
   simp only[Builtin.firstCells,Sem.run_pure,Nat.mul_one]
   congr 1
   apply Array.ext'
   simp[zV]
  ·cases hq
 ·rename_i k0 c0 hsq
  split at hq
  ·rename_i h0;subst h0;cases hq
   rw[hsq] at hx
   obtain⟨a',c',hv,_⟩:=zCH hx
   rw[hv]
   refine⟨rfl,fun m hm=>?_⟩
   obtain rfl:m=0:=by omega
   exact⟨[],by simp;exact .nil,by cases a'<;>simp[Builtin.firstCells,loadCells,loadCellsFrom]⟩
  ·cases hq
 ·rename_i a k0 c0 hsq
  rw[hsq] at hx
  split at hq
  ·rename_i h0;subst h0;cases hq
   obtain⟨a',c',hv,_⟩:=zCH hx
   rw[hv]
   refine⟨rfl,fun m hm=>?_⟩
   obtain rfl:m=0:=by omega
   exact⟨[],by simp;exact .nil,by cases a'<;>simp[Builtin.firstCells,loadCells,loadCellsFrom]⟩
  ·rename_i h0
   split at hq
   ·rename_i l0 hl0
    cases hq
    obtain⟨L,a',c',hL,hv,hle,hcc,haddr,_⟩:=hx.slice_inv
    have:=haddr (by omega)
    subst this
    rw[hv]
    refine⟨rfl,fun m hm=>?_⟩
    have hl1:=zNp hl0 (m:=m*esz) (Nat.mul_le_mul_right _ hm)
    obtain⟨r,q1,q2,q3,q4,q5⟩:=hr.loadCells (P:=P) hL hl1
    exact⟨r,q1,run_firstCells_some (P:=P) w esz m _ _ _ r q3 q4⟩
   ·cases hq
 ·cases hq
theorem e_copy {args:Array Operand} {ats:Array TypeId} {dx sx:Operand} {tt el:TypeId} {n:Nat} (hr:HRel P base ρ h w) (wf:HWF h) (ho:o.op=.call { callee:=.builtin .copy,args:=args,argTypes:=ats }) (ha:args.toList=[dx,sx]) (ht:ats[0]?=some tt)
  (hu:P.underlying tt=some (.slice el)) (hn:zZ P el=some n) (hd:VRel ρ (t.eval dx) (e dx)) (hs:VRel ρ (t.eval sx) (e sx)) (hh:effX t h (.copy n dx sx)=some (v,h')):zAP P base ρ h w e o v h':=by
 obtain⟨cs0,hrun⟩:=zA7 (P:=P) (e:=e) w ho
 have hexec:∀ {q w'},(Builtin.copy_ ats o.type #[e dx,e sx]).run P w=.ok q w'→(execOp e o).run P w=.ok (.value q) w':=fun {q w'} hq=>by
  rw[hrun,zA3 ha]
  simp only[List.map_cons,List.map_nil,builtin,Sem.run_bind,hq]
  rfl
 simp only[effX] at hh
 split at hh
 ·rename_i bs dl dc k l hdq hsq
  rw[hdq] at hd
  obtain⟨hlen,hcells⟩:=zOL (P:=P) hr hs hsq
  obtain⟨l',q1,q2⟩:=hcells (min k dl) (Nat.min_le_left _ _)
  split at hh
  ·rename_i h0
   cases hh
   obtain⟨a',c',hv,_⟩:=zCH hd
   have hl':l'=[]:=by
    rw[h0,Nat.zero_mul,List.take_zero] at q1
    cases q1;rfl
   refine⟨.int .i64 0,w,ρ,.inl (hexec ?_),hr,wf,Ext.refl _ _ _ _,.int _ _⟩
   have h0':Nat.min k dl=0:=h0
   rw[h0] at q2
   subst hl'
   cases a'<;>simp[Builtin.copy_,ht,run_underlying hu,hv,hlen,h0',zAJ hn,q2,goInt,storeCells]
  ·rename_i h0
   split at hh
   ·rename_i a
    split at hh
    ·rename_i h2 hst
     cases hh
     obtain⟨L,a',c',hL,hv,hle,hcc,haddr,_⟩:=hd.slice_inv
     have:=haddr (by omega)
     subst this
     obtain⟨w',s1,s2,s3,s4⟩:=zEQ (P:=P) (a:=⟨a.block,a.off,none⟩) hr wf hL hst q1
     refine⟨.int .i64 ((min k dl:Nat):Int),w',ρ,.inl (hexec ?_),s2,s3,s4,.int _ _⟩
     have h0':Nat.min k dl=min k dl:=rfl
     simp only[Builtin.copy_,List.getElem?_toArray,List.getElem?_cons_zero,List.getElem?_cons_succ,ht,Sem.run_bind,run_underlying hu,Result.andThen_ok,hv,hlen,h0',zAJ hn,q2,goInt,Sem.run_pure,s1]
    ·cases hh
   ·cases hh
 ·cases hh
theorem e_clear {args:Array Operand} {ats:Array TypeId} {x:Operand} {tt el:TypeId} {z:List Value} (hr:HRel P base ρ h w) (wf:HWF h) (ho:o.op=.call { callee:=.builtin .clear,args:=args,argTypes:=ats }) (ha:args.toList=[x]) (ht:ats[0]?=some tt)
  (hu:P.underlying tt=some (.slice el)) (hz:z9 P el=some z) (hx:VRel ρ (t.eval x) (e x)) (hh:effX t h (.clear z x)=some (v,h')):zAP P base ρ h w e o v h':=by
 obtain⟨cs0,hrun⟩:=zA7 (P:=P) (e:=e) w ho
 obtain⟨zv,q1,q2,q3⟩:=zCu hz
 have hexec:∀ {q w'},(Builtin.clear_ ats o.type #[e x]).run P w=.ok q w'→(execOp e o).run P w=.ok (.value q) w':=fun {q w'} hq=>by
  rw[hrun,zA3 ha]
  simp only[List.map_cons,List.map_nil,builtin,Sem.run_bind,hq]
  rfl
 simp only[effX] at hh
 split at hh
 ·rename_i n c hs
  rw[hs] at hx
  split at hh
  ·rename_i h0;cases hh
   obtain⟨rfl,rfl,hv⟩:=hx.nilslice_inv
   refine⟨.tuple #[],w,ρ,.inl (hexec ?_),hr,wf,Ext.refl _ _ _ _,VRel.undef⟩
   simp[Builtin.clear_,ht,run_underlying hu,hv]
  ·cases hh
 ·rename_i a n c hs
  rw[hs] at hx
  obtain⟨L,a',c',hL,hv,hle,hcc,haddr,_⟩:=hx.slice_inv
  split at hh
  ·rename_i h0;cases hh
   subst h0
   refine⟨.tuple #[],w,ρ,.inl (hexec ?_),hr,wf,Ext.refl _ _ _ _,VRel.undef⟩
   simp[Builtin.clear_,ht,run_underlying hu,hv]
  ·rename_i h0
   split at hh
   ·rename_i h2 hst
    cases hh
    have:=haddr (by omega)
    subst this
    have hcells:(Builtin.zeroCells zv.cells n).toList=(List.replicate n z).flatten:=by
     have:=zIC z n
     have hzz:zv.cells=z.toArray:=by apply Array.ext';simpa using q2
     unfold Builtin.zeroCells
     rw[hzz]
     have hsz:z.toArray.size=z.length:=by simp
     rw[hsz];exact this
    have hrel:LRel ρ (List.replicate n z).flatten (Builtin.zeroCells zv.cells n).toList:=by
     rw[hcells]
     refine LRel.consts (List.all_eq_true.2 fun y hy=>?_)
     simp only[List.mem_flatten,List.mem_replicate] at hy
     obtain⟨_,⟨_,rfl⟩,hy⟩:=hy
     exact List.all_eq_true.1 q3 y hy
    obtain⟨w',s1,s2,s3,s4⟩:=zEQ (P:=P) (a:=⟨a.block,a.off,none⟩) hr wf hL hst hrel
    refine⟨.tuple #[],w',ρ,.inl (hexec ?_),s2,s3,s4,VRel.undef⟩
    have hne:n≠0:=h0
    obtain⟨n',rfl⟩:∃n',n=n'+1:=⟨n - 1,by omega⟩
    simp only[Builtin.clear_,List.getElem?_toArray,List.getElem?_cons_zero,ht,Sem.run_bind,run_underlying hu,Result.andThen_ok,hv,q1,s1,Sem.run_pure]
   ·cases hh
 ·cases hh
theorem zNk (hr:HRel P base ρ h w) (wf:HWF h) {A:Nat} {L:Loc} {o o':zAv} {q q':Obj} (hb:h.blks.get A=some (.iter o)) (hL:ρ A=some L) (hq:w.heap[L.b]?=some q) (hsp:zBz q) (hbase:base≤L.b) (h0:L.o=0) (hok:IterOK ρ o' q') :
  HRel P base ρ (h.setBlk A (.iter o')) { w with heap:=w.heap.setIfInBounds L.b q' }∧HWF (h.setBlk A (.iter o'))∧Ext base ρ h w ρ (h.setBlk A (.iter o')) { w with heap:=w.heap.setIfInBounds L.b q' }:=by
 have hlt:L.b<w.heap.size:=(Array.getElem?_eq_some_iff.1 hq).1
 have hsame:∀k,k≠L.b→(w.heap.setIfInBounds L.b q')[k]?=w.heap[k]?:=fun k hk=>by rw[Array.getElem?_setIfInBounds_ne (Ne.symm hk)]
 have hself:(w.heap.setIfInBounds L.b q')[L.b]?=some q':=by simp[hlt]
 have hblk:∀B,(h.setBlk A (.iter o')).blks.get B=if B=A then some (.iter o') else h.blks.get B:=fun B=>by simp only[Heap.setBlk,PT.get_set]
 have hcell:∀B c,(h.setBlk A (.iter o')).blks.get B=some (.cells c)→h.blks.get B=some (.cells c):=fun B c hc=>by
  rw[hblk] at hc
  split at hc
  ·cases hc
  ·exact hc
 have hmap:∀B c st,(h.setBlk A (.iter o')).blks.get B=some (.map c st)→h.blks.get B=some (.map c st):=fun B c st hc=>by
  rw[hblk] at hc
  split at hc
  ·cases hc
  ·exact hc
 have hok':∀B c,(h.setBlk A (.iter o')).okCells B=some c→h.okCells B=some c:=fun B c hc=>by
  obtain⟨h1,f,h2,h3⟩:=okCells_iff.1 hc
  exact okCells_iff.2 ⟨hcell B c h1,f,h2,h3⟩
 have hnc:∀B c l,h.okCells B=some c→ρ B=some l→l.b≠L.b:=fun B c l hc hl eb=>by
  obtain⟨cs,T,fz,q1,_⟩:=hr.cells B c l hc hl
  rw[eb,hq] at q1;cases q1;exact hsp
 have hnm:∀B c st l,h.blks.get B=some (.map c st)→ρ B=some l→l.b≠L.b:=fun B c st l hc hl eb=>by
  obtain⟨es,cl,q1,_⟩:=hr.maps B l c st hc hl
  rw[eb,hq] at q1;cases q1;exact hsp
 have key:∀B b,(h.setBlk A (.iter o')).blks.get B=some b→b.special→∃b0,h.blks.get B=some b0∧b0.special:=fun B b hs hp=>by
  rw[hblk] at hs
  split at hs
  ·rename_i e;subst e;exact⟨_,hb,trivial⟩
  ·exact⟨b,hs,hp⟩
 refine⟨⟨by simpa using hr.le,fun B l hB=>by simpa using hr.bnd B l hB,fun B c hc=>hr.found B c (hcell B c hc),fun B c l hc hl=>?_,fun B C c d l m hne hc hd=>hr.alias B C c d l m hne (hok' B c hc) (hok' C d hd),
  fun B l es st hm hl=>?_,fun B C es st fs su l m hne h1 h2=>hr.malias B C es st fs su l m hne (hmap B es st h1) (hmap C fs su h2),hr.fin,fun B c f l hc hf h0 hro hl=>?_,⟨fun B l s hs hl=>?_,fun B l s hs hl=>?_,fun B C b c l m hne h1 s1 h2 s2 hl hm=>?_,fun B l hR hl=>hr.loops.root B l (by obtain⟨c,k1,k2⟩:=hR;exact⟨c,hcell B c k1,k2⟩) hl,fun B l es st es' cl hm hl hh=>hr.loops.stamps B l es st es' cl (hmap B es st hm) hl (by rw[←hsame l.b (hnm B es st l (hmap B es st hm) hl)];exact hh)⟩⟩,⟨fun B hB=>?_,fun B c hc=>wf.fam B c (hcell B c hc),fun B c f hc hf=>wf.top B c f (hok' B c hc) hf⟩,?_⟩
 ·show ∃cs T fz,(w.heap.setIfInBounds L.b q')[l.b]?=_∧_
  rw[hsame l.b (hnc B c l (hok' B c hc) hl)];exact hr.cells B c l (hok' B c hc) hl
 ·show ∃es' cl,(w.heap.setIfInBounds L.b q')[l.b]?=_∧_
  rw[hsame l.b (hnm B es st l (hmap B es st hm) hl)];exact hr.maps B l es st (hmap B es st hm) hl
 ·exact (hr.mark B c f l (hok' B c hc) hf h0 hro hl).same (hsame l.b (hnc B c l (hok' B c hc) hl))
 ·rw[hblk] at hs
  split at hs
  ·cases hs
  ·rename_i hne
   show ∃q,(w.heap.setIfInBounds L.b q')[l.b]?=_∧_
   rw[hsame l.b (hr.loops.apart B A _ _ l L hne hs trivial hb trivial hl hL)]
   exact hr.loops.recd B l s hs hl
 ·rw[hblk] at hs
  split at hs
  ·rename_i e
   subst e;cases hs
   rw[hL] at hl;cases hl
   exact⟨q',hself,hbase,h0,hok⟩
  ·rename_i hne
   show ∃q,(w.heap.setIfInBounds L.b q')[l.b]?=_∧_
   rw[hsame l.b (hr.loops.apart B A _ _ l L hne hs trivial hb trivial hl hL)]
   exact hr.loops.iter B l s hs hl
 ·obtain⟨b0,k1,p1⟩:=key B b h1 s1
  obtain⟨c0,k2,p2⟩:=key C c h2 s2
  exact hr.loops.apart B C b0 c0 l m hne k1 p1 k2 p2 hl hm
 ·have hA:=wf.lt hb
  exact⟨by rw[hblk,if_neg (by have:h.next≤B:=hB;omega)];exact (wf.fresh B hB).1,(wf.fresh B hB).2⟩
 ·refine⟨fun _ _ h=>h,fun A h=>absurd rfl h,Nat.le_refl _,fun B hB hs=>?_,fun B hB hn=>?_,⟨rfl,rfl,rfl,by simp,fun k hk=>hsame k (by omega)⟩,fun k hk hno=>?_,fun A l h1 h2=>by rw[h2] at h1;cases h1⟩
  ·rw[hblk] at hs
   split at hs
   ·rename_i e;subst e;rw[hb];rfl
   ·exact hs
  ·refine⟨?_,rfl⟩
   rw[hblk]
   split
   ·rename_i e;subst e;rw[hL] at hn;cases hn
   ·rfl
  ·exact hsame k fun e=>hno A L hL (by rw[hb];rfl) e.symm
theorem zN1 (hr:HRel P base ρ h w) (wf:HWF h) (hρ:ρ h.next=none) {o:zAv} {q:Obj} (hok:IterOK ρ o q) :
  HRel P base (upd ρ h.next ⟨w.heap.size,0,0⟩) (h.pushIter o) { w with heap:=w.heap.push q }∧HWF (h.pushIter o)∧Ext base ρ h w (upd ρ h.next ⟨w.heap.size,0,0⟩) (h.pushIter o) { w with heap:=w.heap.push q }:=by
 have hm:=zBU (l:=(⟨w.heap.size,0,0⟩:Loc)) hρ
 have hold:∀k,k<w.heap.size→(w.heap.push q)[k]?=w.heap[k]?:=fun k hk=>by rw[Array.getElem?_push_lt hk,Array.getElem?_eq_getElem hk]
 have hnew:(w.heap.push q)[w.heap.size]?=some q:=by simp
 have hblk:∀B,(h.pushIter o).blks.get B=if B=h.next then some (.iter o) else h.blks.get B:=fun B=>by simp only[Heap.pushIter,PT.get_set]
 have hcell:∀B c,(h.pushIter o).blks.get B=some (.cells c)→B≠h.next∧h.blks.get B=some (.cells c):=fun B c hc=>by
  rw[hblk] at hc
  split at hc
  ·cases hc
  ·exact⟨‹_›,hc⟩
 have hmap:∀B c st,(h.pushIter o).blks.get B=some (.map c st)→B≠h.next∧h.blks.get B=some (.map c st):=fun B c st hc=>by
  rw[hblk] at hc
  split at hc
  ·cases hc
  ·exact⟨‹_›,hc⟩
 have hok':∀B c,(h.pushIter o).okCells B=some c→B≠h.next∧h.okCells B=some c:=fun B c hc=>by
  obtain⟨h1,f,h2,h3⟩:=okCells_iff.1 hc
  exact⟨(hcell B c h1).1,okCells_iff.2 ⟨(hcell B c h1).2,f,h2,h3⟩⟩
 have hcase:∀A l,upd ρ h.next ⟨w.heap.size,0,0⟩ A=some l→(A=h.next∧l=⟨w.heap.size,0,0⟩)∨(A≠h.next∧ρ A=some l):=fun A l hA=>by
  by_cases e:A=h.next
  ·subst e;rw[z8] at hA;exact .inl ⟨rfl,(Option.some.inj hA).symm⟩
  ·rw[zl e] at hA;exact .inr ⟨e,hA⟩
 have hb:∀A l,A≠h.next→upd ρ h.next ⟨w.heap.size,0,0⟩ A=some l→ρ A=some l:=fun A l hne hA=>by rwa [zl hne] at hA
 have hsz:(w.heap.push q).size=w.heap.size+1:=by simp
 refine⟨⟨by show base≤(w.heap.push q).size;rw[hsz];have:=hr.le;omega,fun A l hA=>?_,fun A c hc hs=>?_,fun A c l hc hA=>?_,fun A B c d l m hne hc hd hA hB=>hr.alias A B c d l m hne (hok' A c hc).2 (hok' B d hd).2 (hb A l (hok' A c hc).1 hA) (hb B m (hok' B d hd).1 hB),
  fun A l es st hc hA=>?_,fun A B es st fs su l m hne hc hd hA hB=>hr.malias A B es st fs su l m hne (hmap A es st hc).2 (hmap B fs su hd).2 (hb A l (hmap A es st hc).1 hA) (hb B m (hmap B fs su hd).1 hB),zDb hr.fin,fun A c f l hc hf h0 hro hA=>?_,⟨fun A l s hs hA=>?_,fun A l s hs hA=>?_,fun A B b c l m hne h1 s1 h2 s2 hA hB=>?_,fun A l hR hA=>?_,fun A l es st es' cl hm' hA hh=>?_⟩⟩,
  ⟨fun A hA=>?_,fun A c hc=>?_,fun A c f hc hf=>wf.top A c f (hok' A c hc).2 hf⟩,?_⟩
 ·show l.b<(w.heap.push q).size
  rcases hcase A l hA with ⟨_,rfl⟩|⟨_,hA⟩
  ·rw[hsz];simp
  ·have:=hr.bnd A l hA;omega
 ·obtain⟨hne,hc'⟩:=hcell A c hc
  rw[zl hne] at hs
  obtain⟨l,hl⟩:=Option.isSome_iff_exists.1 (hr.found A c hc' hs)
  rw[hm _ _ hl];rfl
 ·obtain⟨hne,hc'⟩:=hok' A c hc
  have hA':=hb A l hne hA
  obtain⟨cs,T,fz,g1,g2,g3,g4,g5⟩:=hr.cells A c l hc' hA'
  exact⟨cs,T,fz,(hold _ (hr.bnd A l hA')).trans g1,g2,g3,g4.mono hm,g5⟩
 ·obtain⟨hne,hc'⟩:=hmap A es st hc
  have hA':=hb A l hne hA
  obtain⟨es',cl,g1,g2,g3⟩:=hr.maps A l es st hc' hA'
  exact⟨es',cl,(hold _ (hr.bnd A l hA')).trans g1,g2,g3.mono fun a b hab=>⟨hab.1.mono hm,hab.2.mono hm⟩⟩
 ·obtain⟨hne,hc'⟩:=hok' A c hc
  have hA':=hb A l hne hA
  exact (hr.mark A c f l hc' hf h0 hro hA').same (hold _ (hr.bnd A l hA'))
 ·rcases hcase A l hA with ⟨rfl,rfl⟩|⟨hne,hA⟩
  ·rw[hblk,if_pos rfl] at hs
   cases hs
  ·rw[hblk,if_neg hne] at hs
   obtain⟨q2,g1,g2,g3⟩:=hr.loops.recd A l s hs hA
   exact⟨q2,(hold _ (hr.bnd A l hA)).trans g1,g2,g3.mono hm⟩
 ·rcases hcase A l hA with ⟨rfl,rfl⟩|⟨hne,hA⟩
  ·rw[hblk,if_pos rfl] at hs
   cases hs
   exact⟨q,hnew,hr.le,rfl,hok.mono hm⟩
  ·rw[hblk,if_neg hne] at hs
   obtain⟨q2,g1,g2,g4,g3⟩:=hr.loops.iter A l s hs hA
   exact⟨q2,(hold _ (hr.bnd A l hA)).trans g1,g2,g4,g3.mono hm⟩
 ·rcases hcase A l hA with ⟨rfl,rfl⟩|⟨hne1,hA⟩
  ·rcases hcase B m hB with ⟨rfl,_⟩|⟨_,hB⟩
   ·exact absurd rfl hne
   ·have:=hr.bnd B m hB;simp only;omega
  ·rcases hcase B m hB with ⟨rfl,rfl⟩|⟨hne2,hB⟩
   ·have:=hr.bnd A l hA;simp only;omega
   ·rw[hblk,if_neg hne1] at h1
    rw[hblk,if_neg hne2] at h2
    exact hr.loops.apart A B b c l m hne h1 s1 h2 s2 hA hB
 ·obtain⟨c,k1,k2⟩:=hR
  exact hr.loops.root A l ⟨c,(hcell A c k1).2,k2⟩ (hb A l (hcell A c k1).1 hA)
 ·have hA':=hb A l (hmap A es st hm').1 hA
  exact hr.loops.stamps A l es st es' cl (hmap A es st hm').2 hA' (by rw[←hold _ (hr.bnd A l hA')];exact hh)
 ·have hA':h.next+1≤A:=hA
  exact⟨by rw[hblk,if_neg (by omega)];exact (wf.fresh A (by omega)).1,(wf.fresh A (by omega)).2⟩
 ·obtain⟨hne,hc'⟩:=hcell A c hc
  have:=wf.fam A c hc'
  exact⟨by show c.fam<h.next+1;omega,this.2⟩
 ·refine⟨hm,fun A hne=>?_,by show h.next≤h.next+1;omega,fun A hA hs=>?_,fun A hA _=>⟨?_,rfl⟩,⟨rfl,rfl,rfl,by show w.heap.size≤(w.heap.push q).size;simp,fun k hk=>hold k (by have:=hr.le;omega)⟩,fun k hk _=>hold k hk,fun A l hA hn=>?_⟩
  ·by_cases e:A=h.next
   ·subst e;exact⟨Nat.le_refl _,by show h.next<h.next+1;omega⟩
   ·exact absurd (zl e) hne
  ·rwa [hblk,if_neg (by omega)] at hs
  ·rw[hblk,if_neg (by omega)]
  ·rcases hcase A l hA with ⟨_,rfl⟩|⟨_,hA⟩
   ·exact .inl (Nat.le_refl _)
   ·rw[hn] at hA;cases hA
theorem zG9 {tt:TypeId} {zu:Bool} {x:Operand} (hr:HRel P base ρ h w) (wf:HWF h) (hpre:∀A,h.next≤A→A<h'.next→ρ A=none) (ho:o.op=.range tt x) (hu:(zu=false∧∃k el,P.underlying tt=some (.map k el))∨(zu=true∧P.underlying tt=some .string)) (hx:VRel ρ (t.eval x) (e x)) (hh:effX t h (.mkiter zu x)=some (v,h')):zAP P base ρ h w e o v h':=by
 have fin:∀ {it:zAv} {q:Obj},v=.pointer (some ⟨h.next,0,none⟩)→h'=h.pushIter it→IterOK ρ it q→(Instr.range tt (e x)).run P w=.ok (.pointer (some ⟨w.heap.size,0,none⟩)) { w with heap:=w.heap.push q }→zAP P base ρ h w e o v h':=fun {it q} hv hq hok hrun=>by
  subst hv;subst hq
  have hρ:ρ h.next=none:=hpre _ (Nat.le_refl _) (by show h.next<h.next+1;omega)
  obtain⟨s1,s2,s3⟩:=zN1 hr wf hρ hok
  exact⟨_,_,_,.inl (by simp[execOp,ho,hrun]),s1,s2,s3,VRel.ptr (off:=0) (l:=⟨w.heap.size,0,0⟩) z8⟩
 simp only[effX] at hh
 split at hh
 ·rename_i s hs
  rw[hs] at hx
  cases hh
  rcases hu with ⟨q,_⟩|⟨_,hu⟩
  ·cases q
  ·have:=hx.string_inv
   exact fin rfl rfl (q:=.stringIter s 0) rfl (by simp[Instr.range,run_underlying hu,this])
 ·rename_i hs
  rw[hs] at hx
  cases hh
  rcases hu with ⟨_,k,el,hu⟩|⟨q,_⟩
  ·cases hm':e x<;>rw[hm'] at hx<;>cases hx
   exact fin rfl rfl (q:=.mapIter none 0 #[] 0) rfl (by simp[Instr.range,run_underlying hu,hm'])
  ·cases q
 ·rename_i r hs
  rw[hs] at hx
  split at hh
  ·rename_i es bs c hes
   cases hh
   rcases hu with ⟨_,k,el,hu⟩|⟨q,_⟩
   ·cases hm':e x<;>rw[hm'] at hx<;>cases hx
    rename_i L hL
    obtain⟨es',cl,hheap,hbase,hrel⟩:=hr.maps r L es _ hes hL
    obtain⟨_,hso⟩:=hr.loops.stamps r L es _ es' cl hes hL hheap
    obtain rfl:cl=c:=hso.2
    exact fin rfl rfl (q:=.mapIter (some L.b) cl #[] cl) ⟨L,hL,rfl⟩ (by simp[Instr.range,run_underlying hu,hm',zBH hheap])
   ·cases q
  ·cases hh
 ·cases hh
theorem left_rel {seen:List Nat} {es:List (Value×Value)} {es':List MapEntry} (hr:All2 (ERel ρ) es es'):All2 (fun (q:Value×Value×Nat) (e:MapEntry)=>VRel ρ q.1 e.key∧VRel ρ q.2.1 e.val∧q.2.2=e.born) (zCb seen es (es'.map (·.born))) (es'.filter fun e=>!seen.contains e.born):=by
 induction hr with
 | nil=>exact .nil
 | @cons a b es es' hab _ ih =>
  simp only[List.map_cons,zCb,List.filter_cons]
  cases hc:seen.contains b.born
  ·simp only[Bool.not_false,if_true,Bool.false_eq_true,if_false]
   exact .cons ⟨hab.1,hab.2,rfl⟩ ih
  ·simp only[Bool.not_true,Bool.false_eq_true,if_false,if_true]
   exact ih
theorem e_next {zu:Bool} {x:Operand} (hr:HRel P base ρ h w) (wf:HWF h) (ho:o.op=.next x zu) (hx:VRel ρ (t.eval x) (e x)) (hh:effX t h (.next zu x)=some (v,h')):zAP P base ρ h w e o v h':=by
 simp only[effX] at hh
 split at hh
 ·rename_i a hs
  rw[hs] at hx
  split at hh
  ·rename_i h0
   obtain⟨_,L,hL,hv⟩:=hx.ptr_inv
   have gol:∀ {it:zAv},h.blks.get a.block=some (.iter it)→∃q,w.heap[L.b]?=some q∧base≤L.b∧L.o=0∧IterOK ρ it q:=fun hb=>hr.loops.iter _ L _ hb hL
   have hg:∀ {q:Obj},w.heap[L.b]?=some q→zBz q→(getObj L.b).run P w=.ok q w:=fun {q} hq hsp=>by cases q<;>first|exact False.elim hsp|simp[getObj,Sem.run,hq]
   have hset:∀ {q q':Obj},w.heap[L.b]?=some q→zBz q→(setObj L.b q').run P w=.ok () { w with heap:=w.heap.setIfInBounds L.b q' }:=fun {q q'} hq hsp=>by cases q<;>first|exact False.elim hsp|simp[setObj,Sem.run,hq]
   have stay:∀ {y:Value},(Instr.next (.pointer (some ⟨L.b,0,none⟩)) zu o.type).run P w=.ok y w→L.o=0→VRel ρ v y→h'=h→zAP P base ρ h w e o v h':=fun {y} hrun hlo hvy hq=>by
    subst hq
    refine⟨y,w,ρ,.inl ?_,hr,wf,Ext.refl _ _ _ _,hvy⟩
    simp[execOp,ho,hv,hlo,h0,hrun]
   have go:∀ {it it':zAv} {q q':Obj} {y:Value},h.blks.get a.block=some (.iter it)→w.heap[L.b]?=some q→zBz q→base≤L.b→L.o=0→IterOK ρ it' q'→(Instr.next (.pointer (some ⟨L.b,0,none⟩)) zu o.type).run P w=.ok y { w with heap:=w.heap.setIfInBounds L.b q' }→VRel ρ v y→h'=h.setBlk a.block (.iter it')→zAP P base ρ h w e o v h':=fun {it it' q q' y} hb hq hsp hbase hlo hok hrun hvy hh'=>by
    subst hh'
    obtain⟨s1,s2,s3⟩:=zNk hr wf hb hL hq hsp hbase hlo hok
    refine⟨y,_,ρ,.inl ?_,s1,s2,s3,hvy⟩
    simp[execOp,ho,hv,hlo,h0,hrun]
   unfold nextX at hh
   split at hh
   ·rename_i s pos hb
    obtain⟨q,hq,hbase,hlo,hok⟩:=gol hb
    have hq':q=.stringIter s pos:=hok
    subst hq'
    split at hh
    ·rename_i hi
     subst hi
     split at hh
     ·rename_i hp
      cases hh
      refine go hb hq trivial hbase hlo (it':=.str s (pos+(Utf8.decode s pos).2)) (q':=.stringIter s (pos+(Utf8.decode s pos).2)) rfl (y:=.tuple #[.bool true,.int .i64 (pos:Int),.int .i32 (Utf8.decode s pos).1]) ?_ ?_ rfl
      ·simp[Instr.next,hg hq trivial,hp,hset hq trivial,goInt]
      ·exact VRel.tuple_ofL (.cons (.bool _) (.cons (.int _ _) (.cons (.int _ _) .nil)))
     ·rename_i hp
      cases hh
      refine stay (y:=.tuple #[.bool false]) ?_ hlo (VRel.tuple_ofL (.cons (.bool _) .nil)) rfl
      simp[Instr.next,hg hq trivial,hp]
    ·cases hh
   ·rename_i since seen last hb
    obtain⟨q,hq,hbase,hlo,hok⟩:=gol hb
    have hq':q=.mapIter none since seen.toArray last:=hok
    subst hq'
    split at hh
    ·cases hh
    ·rename_i hi
     have hi:zu=false:=by simpa using hi
     subst hi
     cases hh
     refine stay (y:=.tuple #[.bool false]) ?_ hlo (VRel.tuple_ofL (.cons (.bool _) .nil)) rfl
     simp[Instr.next,hg hq trivial]
   ·rename_i r since seen last hb
    obtain⟨q,hq,hbase,hlo,lr,hlr,hok⟩:=gol hb
    subst hok
    split at hh
    ·cases hh
    ·rename_i hi
     have hi:zu=false:=by simpa using hi
     subst hi
     split at hh
     ·rename_i es bs c hes
      obtain⟨es',cl,hheap,hbm,hrel⟩:=hr.maps r lr es _ hes hlr
      obtain⟨_,hso⟩:=hr.loops.stamps r lr es _ es' cl hes hlr hheap
      obtain⟨hbs,rfl⟩:=hso
      subst hbs
      have hgm:=zBH (P:=P) hheap
      split at hh
      ·cases hh
      ·rename_i hck
       have hck':(!(seen.toArray).isEmpty&&!es'.isEmpty&&es'.all (·.born≥last))=false:=by
        rw[Bool.not_eq_true] at hck
        rw[←hck]
        have e1:es'.isEmpty=es.isEmpty:=by
         have hs:es'.size=es.length:=by have:=hrel.length;simpa using this.symm
         cases es with
         | nil =>
          have:es'=#[]:=Array.eq_empty_of_size_eq_zero (by simpa using hs)
          subst this
          rfl
         | cons x y =>
          have:es'.size≠0:=by rw[hs];simp
          simp[Array.isEmpty,this]
        have e2:es'.all (fun x=>decide (x.born≥last))=(es'.toList.map (·.born)).all (fun b=>decide (last≤b)):=by
         rw[←Array.all_toList,List.all_map]
         rfl
        rw[e1,e2]
        cases seen<;>rfl
       have hlr2:=left_rel (seen:=seen) hrel
       have hfl:(es'.filter fun e=>!seen.toArray.contains e.born).toList=es'.toList.filter fun e=>!seen.contains e.born:=by simp
       generalize hLx:zCb seen es (es'.toList.map (·.born))=Lx at hh hlr2
       generalize hLa:(es'.filter fun e=>!seen.toArray.contains e.born)=La at hfl
       rw[←hfl] at hlr2
       split at hh
       ·cases hh
        have hLe:La=#[]:=by
         have:=hlr2.length
         apply Array.toList_inj.1
         cases q:La.toList with
         | nil=>rfl
         | cons x y=>rw[q] at this;simp at this
        refine stay (y:=.tuple #[.bool false]) ?_ hlo (VRel.tuple_ofL (.cons (.bool _) .nil)) rfl
        simp only[Instr.next,Sem.run_bind,hg hq trivial,Result.andThen_ok,hgm,hck',hLa,hLe]
        simp[choose,Sem.run,Question.forced]
       ·rename_i k1 v1 b1
        split at hh
        ·rename_i hlt
         cases hh
         obtain⟨en,hLe⟩:∃en,La=#[en]:=by
          have:=hlr2.length
          match q:La.toList,this with
          | [en],_=>exact⟨en,Array.toList_inj.1 (by rw[q])⟩
         subst hLe
         cases hlr2 with|cons hk _ =>
         obtain⟨q1,q2,q3⟩:=hk
         simp only at q1 q2 q3
         subst q3
         refine go hb hq trivial hbase hlo (it':=.map (some r) since (seen++[en.born]) cl) (q':=.mapIter (some lr.b) since (seen.toArray.push en.born) cl) ⟨lr,hlr,by simp⟩ (y:=.tuple #[.bool true,en.key,en.val]) ?_ (VRel.tuple_ofL (.cons (.bool _) (.cons q1 (.cons q2 .nil)))) rfl
         have hge:¬since≤en.born:=by omega
         simp only[Instr.next,Sem.run_bind,hg hq trivial,Result.andThen_ok,hgm,hck',hLa]
         simp[choose,Sem.run,Question.forced,hlt,hge,hset hq trivial]
        ·cases hh
       ·cases hh
     ·rename_i hes
      cases hh
      obtain⟨es',cl,hheap,hbm,hrel⟩:=hr.maps r lr [] _ hes hlr
      have hgm:=zBH (P:=P) hheap
      have hee:es'=#[]:=by
       have:=hrel.length
       apply Array.toList_inj.1
       cases q:es'.toList with
       | nil=>rfl
       | cons x y=>rw[q] at this;simp at this
      subst hee
      refine stay (y:=.tuple #[.bool false]) ?_ hlo (VRel.tuple_ofL (.cons (.bool _) .nil)) rfl
      simp[Instr.next,hg hq trivial,hgm,choose,Sem.run,Question.forced]
     ·cases hh
   ·cases hh
  ·cases hh
 ·cases hh
theorem e_mentry {tt kt el:TypeId} {k:EqK} {z:Value} {m x:Operand} (hr:HRel P base ρ h w) (wf:HWF h) (ho:o.op=.mapEntry tt m x) (hu:P.underlying tt=some (.map kt el)) (hk:keyK P kt=some k) (hz:zBx P el=some z)
  (hm:VRel ρ (t.eval m) (e m)) (hx:VRel ρ (t.eval x) (e x)) (hh:effX t h (.mentry z k m x)=some (v,h')):zAP P base ρ h w e o v h':=by
 obtain⟨d,hd⟩:=zEv hk
 have hck:∀w,(Instr.checkKey false 10000 kt (e x)).run P w=.ok () w:=fun w=>zDX hk _ _ _
 have hzr:=(zBy hz).1
 have hzv:VRel ρ z z:=VRel.const (zBy hz).2
 simp only[effX] at hh
 split at hh
 ·rename_i r hs
  rw[hs] at hm
  split at hh
  ·rename_i es bs c hes
   cases hm':e m<;>rw[hm'] at hm<;>cases hm
   rename_i L hL
   obtain⟨es',cl,hheap,hbase,hrel⟩:=hr.maps r L es _ hes hL
   obtain⟨hst,hso⟩:=hr.loops.stamps r L es _ es' cl hes hL hheap
   obtain⟨hbs,rfl⟩:=hso
   subst hbs
   have hg:(getObj L.b).run P w=.ok (.map es' cl) w:=zBH hheap
   split at hh
   ·rename_i i v1 hf
    split at hh
    rotate_left
    ·cases hh
    rename_i enx hex
    cases hh
    rcases zBe hk hd hx hrel hf with ⟨q,_⟩|⟨j,v2,v2',en',q1,q2,q3,q4,q5,q6⟩
    ·cases q
    ·simp only[Nat.zero_add,Option.some.injEq,Prod.mk.injEq] at q1
     obtain⟨rfl,rfl⟩:=q1
     rw[Nat.zero_add] at q2
     have hfk:=zBG (P:=P) (w:=w) hd q2
     have hen:es'[i]?=some en':=by rw[←Array.getElem?_toList];exact q4
     have hold:=hrel.get i q6 (by rw[←hrel.length];exact q6)
     have hen':es'.toList[i]'(by rw[←hrel.length];exact q6)=en':=by
      have:=List.getElem?_eq_getElem (l:=es'.toList) (i:=i) (by rw[←hrel.length];exact q6)
      rw[q4] at this;exact (Option.some.inj this).symm
     have hexi:es[i]=enx:=by rw[List.getElem?_eq_getElem q6] at hex;exact Option.some.inj hex
     have hkey:eqX k (t.eval x) es[i].1=some true:=by
      have e1:(es.map (·.1)).getD i (.tuple #[])=es[i].1:=by simp[List.getD,q6]
      rwa [e1] at q5
     have hsb:Instr.sameBits 10000 en'.key (e x)=true:=zHa hk hx (by rw[←hen'];exact hold.1) hkey
     have hks:(Instr.keyThatStays (((es'[i]?).map (·.key)).getD (e x)) (e x)).run P w=.ok (e x) w:=by
      rw[hen]
      simp[Instr.keyThatStays,hsb]
     have hks':(Instr.keyThatStays en'.key (e x)).run P w=.ok (e x) w:=by simp[Instr.keyThatStays,hsb]
     have hbo:(es'.modify i fun q=>{ q with key:=e x }).toList.map (·.born)=es'.toList.map (·.born):=by
      rw[zBM es' i _ q4,List.map_set,show ({ en' with key:=e x }:MapEntry).born=(es'.toList.map (·.born))[i]'(by rw[List.length_map,←hrel.length];exact q6) from by simp[←hen'],List.set_getElem_self]
     obtain⟨s1,s2,s3⟩:=zCd (fs:=es.set i (t.eval x,enx.2)) (fs':=es'.modify i fun q=>{ q with key:=e x }) (cl':=cl) (st':=some (es'.toList.map (·.born),cl)) hr wf hes hL hheap hbase (by
      rw[zBM es' i _ q4]
      exact hrel.set ⟨hx,by rw[←hexi,←hen'];exact hold.2⟩ i) ⟨by
      unfold zBC at hst ⊢
      refine⟨fun z hz=>?_,by rw[hbo];exact hst.2⟩
      rw[zBM es' i _ q4] at hz
      rcases List.mem_or_eq_of_mem_set hz with hz|rfl
      ·exact hst.1 z hz
      ·exact hst.1 en' (List.mem_of_getElem? q4),hbo,rfl⟩
     have hgd:((es'.toList.map (·.born)).getD i 0:Nat)=en'.born:=by simp[List.getD_eq_getElem?_getD,q4]
     refine⟨.tuple #[v2',.int .i64 (en'.born:Int)],_,ρ,.inl ?_,s1,s2,s3,?_⟩
     ·simp only[execOp,ho,Instr.mapEntry,Sem.run_bind,run_underlying hu,Result.andThen_ok,hm',hg,hck,hfk,hks',zCF _ hheap,hen,Option.map_some,Option.getD_some,goInt,Sem.run_pure]
     ·rw[hgd]
      exact VRel.tuple_ofL (.cons q3 (.cons (.int _ _) .nil))
   ·rename_i hf
    cases hh
    rcases zBe hk hd hx hrel hf with ⟨_,q2⟩|⟨j,v2,v2',en',q1,_⟩
    ·have hfk:=zBG (P:=P) (w:=w) hd q2
     obtain⟨s1,s2,s3⟩:=zCd (fs:=es++[(t.eval x,z)]) (fs':=es'.push { key:=e x,val:=z,born:=cl }) (cl':=cl+1) (st':=some (es'.toList.map (·.born)++[cl],cl+1)) hr wf hes hL hheap hbase (by
      rw[Array.toList_push]
      exact hrel.append (.cons ⟨hx,hzv⟩ .nil)) ⟨by
      unfold zBC at hst ⊢
      rw[Array.toList_push]
      refine⟨fun z hz=>?_,?_⟩
      ·rcases List.mem_append.1 hz with hz|hz
       ·exact Nat.lt_succ_of_lt (hst.1 z hz)
       ·simp only[List.mem_singleton] at hz;subst hz;exact Nat.lt_succ_self _
      ·rw[List.map_append,List.nodup_append]
       refine⟨hst.2,by simp,fun a ha b hb=>?_⟩
       simp only[List.map_cons,List.map_nil,List.mem_singleton] at hb
       subst hb
       obtain⟨z,hz,rfl⟩:=List.mem_map.1 ha
       exact Nat.ne_of_lt (hst.1 z hz),by rw[Array.toList_push,List.map_append];rfl,rfl⟩
     refine⟨.tuple #[z,.int .i64 (cl:Int)],_,ρ,.inl ?_,s1,s2,s3,VRel.tuple_ofL (.cons hzv (.cons (.int _ _) .nil))⟩
     simp only[execOp,ho,Instr.mapEntry,Sem.run_bind,run_underlying hu,Result.andThen_ok,hm',hg,hck,hfk,hzr,zCF _ hheap,goInt,Sem.run_pure]
    ·cases q1
   ·cases hh
  ·cases hh
 ·cases hh
theorem e_estore {tt:TypeId} {m s y:Operand} (hr:HRel P base ρ h w) (wf:HWF h) (ho:o.op=.entryStore tt m s y) (hm:VRel ρ (t.eval m) (e m)) (hs:VRel ρ (t.eval s) (e s)) (hy:VRel ρ (t.eval y) (e y)) (hh:effX t h (.estore m s y)=some (v,h')):zAP P base ρ h w e o v h':=by
 simp only[effX] at hh
 split at hh
 ·rename_i r n hms hss
  rw[hms] at hm
  rw[hss] at hs
  split at hh
  ·rename_i es bs c hes
   cases hm':e m<;>rw[hm'] at hm<;>cases hm
   rename_i L hL
   have hs':=hs.int_inv
   obtain⟨es',cl,hheap,hbase,hrel⟩:=hr.maps r L es _ hes hL
   obtain⟨hst,hso⟩:=hr.loops.stamps r L es _ es' cl hes hL hheap
   obtain⟨hbs,rfl⟩:=hso
   subst hbs
   have hg:(getObj L.b).run P w=.ok (.map es' cl) w:=zBH hheap
   split at hh
   ·rename_i i hfi
    split at hh
    ·rename_i en he
     cases hh
     obtain⟨q6,hei⟩:=List.getElem?_eq_some_iff.1 he
     have hfi':es'.findIdx? (fun e=>(e.born:Int)==n)=some i:=by
      rw[show es'=es'.toList.toArray from rfl,List.findIdx?_toArray,←hfi,List.findIdx?_map]
      rfl
     have q6':i<es'.toList.length:=by rw[←hrel.length];exact q6
     obtain⟨en',q4⟩:∃en',es'.toList[i]?=some en':=⟨_,List.getElem?_eq_getElem q6'⟩
     have hen':es'.toList[i]=en':=by rw[List.getElem?_eq_getElem q6'] at q4;exact Option.some.inj q4
     have hold:=hrel.get i q6 q6'
     have hbo:(es'.modify i fun q=>{ q with val:=e y }).toList.map (·.born)=es'.toList.map (·.born):=by
      rw[zBM es' i _ q4,List.map_set,show ({ en' with val:=e y }:MapEntry).born=(es'.toList.map (·.born))[i]'(by rw[List.length_map];exact q6') from by simp[←hen'],List.set_getElem_self]
     obtain⟨s1,s2,s3⟩:=zCd (fs:=es.set i (en.1,t.eval y)) (fs':=es'.modify i fun q=>{ q with val:=e y }) (cl':=cl) (st':=some (es'.toList.map (·.born),cl)) hr wf hes hL hheap hbase (by
      rw[zBM es' i _ q4]
      refine hrel.set ⟨?_,hy⟩ i
      rw[←hei,←hen']
      exact hold.1) ⟨by
      unfold zBC at hst ⊢
      refine⟨fun z hz=>?_,by rw[hbo];exact hst.2⟩
      rw[zBM es' i _ q4] at hz
      rcases List.mem_or_eq_of_mem_set hz with hz|rfl
      ·exact hst.1 z hz
      ·exact hst.1 en' (List.mem_of_getElem? q4),hbo,rfl⟩
     refine⟨undef,_,ρ,.inr ⟨?_,rfl⟩,s1,s2,s3,VRel.undef⟩
     simp[execOp,ho,Instr.entryStore,hm',hg,hs',asInt,asIntOf,hfi',zCF _ hheap]
    ·cases hh
   ·cases hh
  ·cases hh
 ·cases hh
theorem zNC {eo:EOp} (hr:HRel P base ρ h w) (wf:HWF h) (hpre:∀A,h.next≤A→A<h'.next→ρ A=none) (hc:opC P o=.e eo) (he:∀x∈o.op.operands,VRel ρ (t.eval x) (e x)) (hh:effX t h eo=some (v,h')):zAP P base ρ h w e o v h':=by
 cases ho:o.op<;>rw[ho] at he<;>simp only[opC,ho] at hc
 case store tt a b =>
  split at hc
  ·rename_i n hn;cases hc;exact e_store hr wf ho hn (he a (by simp[Op.operands])) (he b (by simp[Op.operands])) hh
  ·cases hc
 case mapUpdate tt m x y =>
  split at hc
  ·rename_i kt el hu
   split at hc
   ·rename_i k hk;cases hc;exact e_mupd hr wf (.inl ho) hu hk (he m (by simp[Op.operands])) (he x (by simp[Op.operands])) (he y (by simp[Op.operands])) hh
   ·cases hc
  ·cases hc
 case insert tt m x y =>
  split at hc
  ·rename_i kt el hu
   split at hc
   ·rename_i k hk;cases hc;exact e_mupd hr wf (.inr ho) hu hk (he m (by simp[Op.operands])) (he x (by simp[Op.operands])) (he y (by simp[Op.operands])) hh
   ·cases hc
  ·cases hc
 case range tt x =>
  split at hc
  ·rename_i kt el hu;cases hc;exact zG9 hr wf hpre ho (.inl ⟨rfl,_,_,hu⟩) (he x (by simp[Op.operands])) hh
  ·rename_i hu;cases hc;exact zG9 hr wf hpre ho (.inr ⟨rfl,hu⟩) (he x (by simp[Op.operands])) hh
  ·cases hc
 case next x s=>cases hc;exact e_next hr wf ho (he x (by simp[Op.operands])) hh
 case mapEntry tt m x =>
  split at hc
  ·rename_i kt el hu
   split at hc
   ·rename_i k z hk hz;cases hc;exact e_mentry hr wf ho hu hk hz (he m (by simp[Op.operands])) (he x (by simp[Op.operands])) hh
   ·cases hc
  ·cases hc
 case entryStore tt m s y=>cases hc;exact e_estore hr wf ho (he m (by simp[Op.operands])) (he s (by simp[Op.operands])) (he y (by simp[Op.operands])) hh
 case makeMap tt r=>cases r<;>cases hc
 case binOp op tt x y yt =>
  exfalso
  by_cases h1:op=.eql
  ·subst h1;simp only[binC,eqC] at hc;(repeat' split at hc)<;>cases hc
  ·by_cases h2:op=.neq
   ·subst h2;simp only[binC,eqC] at hc;(repeat' split at hc)<;>cases hc
   ·rw[zC0 ⟨h1,h2⟩] at hc;cases hc
 case call c =>
  obtain⟨cal,args,ats⟩:=c
  cases cal with
  | value f=>cases hc
  | invoke r n=>cases hc
  | builtin b =>
   have he':∀x∈args.toList,VRel ρ (t.eval x) (e x):=fun x hx=>he x (by simp[Op.operands,Call.operands];simpa using hx)
   have hty:∀ {j:Nat} {ty:TypeDesc},ats[j]?.bind P.underlying=some ty→∃u,ats[j]?=some u∧P.underlying u=some ty:=fun {j ty} hq=>by
    cases hu:ats[j]? with
    | none=>rw[hu] at hq;cases hq
    | some u=>rw[hu] at hq;exact⟨u,rfl,hq⟩
   simp only[zB3] at hc
   split at hc
   ·(repeat' split at hc)<;>cases hc
   ·rename_i sx x hal
    split at hc
    ·rename_i el el2 h1 h2
     obtain⟨st,a1,a2⟩:=hty h1
     obtain⟨xt,b1,b2⟩:=hty h2
     split at hc
     ·rename_i z n b hz hn hb
      split at hc
      ·rename_i hzn;cases hc;exact zEx hr wf hpre ho hal a1 b1 a2 (.inl ⟨_,b2⟩) hz hn hb hzn (he' sx (by simp[hal])) (he' x (by simp[hal])) hh
      ·cases hc
     ·cases hc
    ·rename_i el h1 h2
     obtain⟨st,a1,a2⟩:=hty h1
     obtain⟨xt,b1,b2⟩:=hty h2
     split at hc
     ·rename_i z n b hz hn hb
      split at hc
      ·rename_i hzn;cases hc;exact zEx hr wf hpre ho hal a1 b1 a2 (.inr b2) hz hn hb hzn (he' sx (by simp[hal])) (he' x (by simp[hal])) hh
      ·cases hc
     ·cases hc
    ·cases hc
   ·rename_i dx sx hal
    split at hc
    ·rename_i el h1
     obtain⟨st,a1,a2⟩:=hty h1
     split at hc
     ·rename_i n hn;cases hc;exact e_copy hr wf ho hal a1 a2 hn (he' dx (by simp[hal])) (he' sx (by simp[hal])) hh
     ·cases hc
    ·cases hc
   ·cases hc
   ·cases hc
   ·rename_i m x hal
    split at hc
    ·rename_i kt el h1
     obtain⟨st,a1,a2⟩:=hty h1
     split at hc
     ·rename_i k hk;cases hc;exact e_mdel hr wf ho hal a1 a2 hk (he' m (by simp[hal])) (he' x (by simp[hal])) hh
     ·cases hc
    ·cases hc
   ·rename_i x hal
    split at hc
    ·rename_i el h1
     obtain⟨st,a1,a2⟩:=hty h1
     split at hc
     ·rename_i z hz;cases hc;exact e_clear hr wf ho hal a1 a2 hz (he' x (by simp[hal])) hh
     ·cases hc
    ·cases hc
   ·cases hc
 all_goals first|(cases hc;done)|((repeat' split at hc)<;>cases hc)
end
end Go.X
end
section
namespace Go.X
open Go.RowKit
theorem Fr.get_set (t:Fr) (i j:Nat) (v:Value):Fr.get (PT.set t i v) j=if j=i then v else Fr.get t j:=by
 unfold Fr.get;rw[PT.get_set];split<;>rfl
theorem FRel.put {ρ:Ren} {N:Nat} {t:Fr} {a:Act} (h:FRel ρ N t a.tmps) {dst:Option Nat} (hd:∀d,dst=some d→d<N) {v v':Value} (hv:VRel ρ v v'):FRel ρ N (t.put dst v) (a.put dst v').tmps:=by
 cases dst with
 | none=>exact h
 | some d =>
  have hdN:=hd d rfl
  refine⟨by simp[Act.put,h.size],fun i=>?_⟩
  simp only[Fr.put,Act.put,Fr.get_set]
  by_cases hi:i=d
  ·subst hi
   rw[if_pos rfl]
   simp[Array.getD_eq_getD_getElem?,h.size,hdN,hv]
  ·rw[if_neg hi]
   have:=h.rel i
   simp only[Array.getD_eq_getD_getElem?] at this ⊢
   rw[Array.getElem?_setIfInBounds_ne (Ne.symm hi)]
   exact this
theorem FRel.eval {ρ:Ren} {N:Nat} {t:Fr} {a:Act} (h:FRel ρ N t a.tmps) {x:Operand} (hx:zCh x=true):VRel ρ (t.eval x) (a.eval x):=by
 cases x with
 | tmp i=>exact h.rel i
 | const v =>
  have:zp v=true:=hx
  have hl:LRel ρ [v] [v]:=LRel.consts (by simp[this])
  cases hl with|cons h1 _=>exact h1
 | global g=>cases hx
 | func f=>exact .func rfl rfl (fun i h=>by simp at h) (fun i h=>by simp at h)
theorem zCn {P:Program} {b:Frame} {a:Act} {k:List Item} {cs:List Frame} {w:World} {c:Code}:step P (lone (b.atR a (.code (.scope c)::k)) cs w)=.next (lone (b.atR a (.code c::.inScope c::k)) cs w) :=
 step_lone_go (by simp[stepG,stepG.exec,Frame.atR])
theorem zOP {P:Program} {b:Frame} {a:Act} {k:List Item} {cs:List Frame} {w:World} {c:Code}:step P (lone (b.atR a (.inScope c::k)) cs w)=.next (lone (b.atR a k) cs w) :=
 step_lone_go (by simp[stepG,stepG.exec,Frame.atR])
theorem zOi {F:Fence} {n:Nat} {P:Program} {Q:Exit→Act→World→Prop} {a:Act} {w:World} {c:Code} (h:c.wpIn F n P (Exit.noGoto Q) a w):(Code.scope c).wpIn F n P Q a w:=by
 intro b k cs hro hb hr
 have h0:(lone (b.atR a (.code (.scope c)::k)) cs w).fenced P F:=fenced_calm hb hr rfl
 obtain⟨e,a₁,w₁,hq,harr⟩:=h b (.inScope c::k) cs hro hb hr
 cases e with
 | normal=>exact⟨.normal,a₁,w₁,hq,.head h0 zCn (StepsIn.trans harr (.one (fenced_calm hb hr rfl) zOP))⟩
 | exit id =>
  have hx:exitTo id (.inScope c::k)=exitTo id k:=by simp[exitTo]
  exact⟨.exit id,a₁,w₁,hq,fun k' hk=>.head h0 zCn (harr.1 k' (by rw[hx];exact hk)),
   fun hr' hk=>let ⟨k₁,h1,h2⟩:=harr.2 hr' (by rw[hx];exact hk);⟨k₁,h1,.head h0 zCn h2⟩⟩
 | goto l=>exact hq.elim
 | ret=>exact⟨_,a₁,w₁,hq,.of_steps (.one h0 zCn) harr⟩
 | panic ch=>exact⟨_,a₁,w₁,hq,.of_steps (.one h0 zCn) harr⟩
 | outgrown=>exact⟨_,a₁,w₁,hq,.of_steps (.one h0 zCn) harr⟩
def zBW (P:Program) (f:Nat):Prop:=∃fn,P.funcs[f]?=some fn∧fn.name≠"runtime.NumGoroutine"∧fn.body.isSome
def zBV (P:Program) (f:Nat) (args:List Value) (h:Heap) (v:Value) (h':Heap):Prop :=
 ∀base ρ w args',HRel P base ρ h w→HWF h→(∀A,h.next≤A→A<h'.next→ρ A=none)→LRel ρ args args' →
  Calls P f args'.toArray w fun e w'=>∃v' ρ',e=.returned v'∧HRel P base ρ' h' w'∧HWF h'∧Ext base ρ h w ρ' h' w'∧VRel ρ' v v'
def YieldAt (F:Fence) (m:Nat) (P:Program) (l:Nat) (args:Array Value) (W:World) (R:Ending→World→Prop):Prop :=
 ∃fn tmps assign body,(Instr.yield l args).run P W=.ok (.round l fn tmps assign body) W∧RoundIn F m P l fn tmps assign body W R
def zGY (P:Program) (A:Nat) (args:List Value) (h:Heap) (v:Value) (h':Heap):Prop :=
 ∀base ρ w args' l,ρ A=some l→HRel P base ρ h w→HWF h→(∀A,h.next≤A→A<h'.next→ρ A=none)→LRel ρ args args' →
  YieldAt Fence.wide 0 P l.b args'.toArray w fun e w'=>∃v' ρ',e=.returned v'∧HRel P base ρ' h' w'∧HWF h'∧Ext base ρ h w ρ' h' w'∧VRel ρ' v v'
structure CFOk (P:Program) (cf:CallF):Prop where
 fn:∀f args h v h',cf f args h=some (v,h')→zBW P f∧h.next≤h'.next∧zBV P f args h v h'
 yl:∀A args h v h',cf.yl A args h=some (v,h')→h.next≤h'.next∧zGY P A args h v h'
structure zCK (cf:CallF):Prop where
 fn:∀f args h v h',cf f args h=some (v,h')→h.next≤h'.next
 yl:∀A args h v h',cf.yl A args h=some (v,h')→h.next≤h'.next
theorem CFOk.nx {P:Program} {cf:CallF} (h:CFOk P cf):zCK cf:=⟨fun f a g v g' e=>(h.fn f a g v g' e).2.1,fun f a g v g' e=>(h.yl f a g v g' e).1⟩
abbrev Wd (r:Option Nat):Fence:={ Fence.wide with round:=r }
section
variable {P:Program} {ρ:Ren} {t t':Fr} {o:Oper} {w w':World} {v:Value} {base N:Nat} {h h':Heap} {cf:CallF}
theorem zMi {f:Operand} {args:List Operand} (hc:opC P o=.call f args):∃c,o.op=.call c∧c.callee=.value f∧c.args.toList=args:=by
 cases ho:o.op<;>simp only[opC,ho] at hc
 case makeMap tt r=>cases r<;>cases hc
 case binOp op tt x y yt =>
  exfalso
  by_cases h1:op=.eql
  ·subst h1;simp only[binC,eqC] at hc;(repeat' split at hc)<;>cases hc
  ·by_cases h2:op=.neq
   ·subst h2;simp only[binC,eqC] at hc;(repeat' split at hc)<;>cases hc
   ·rw[zC0 ⟨h1,h2⟩] at hc;cases hc
 case call c =>
  obtain⟨cal,asx,ats⟩:=c
  cases cal with
  | value g=>cases hc;exact⟨_,rfl,rfl,rfl⟩
  | invoke r n=>cases hc
  | builtin b =>
   simp only[zB3] at hc
   split at hc<;>first|(cases hc;done)|((repeat' split at hc)<;>cases hc)
 all_goals first|(cases hc;done)|((repeat' split at hc)<;>cases hc)
theorem zEO {a:Addr} {vs:List Value} (hs:h.store a vs=some h'):h'.next=h.next:=by
 obtain⟨c,f,_,_,_,_,_,rfl⟩:=zEP hs;rfl
theorem zDi {esz b n:Nat} {s:Value} {new:List Value} (hs:h.append esz b s n new=some (v,h')):h.next≤h'.next:=by
 unfold Heap.append at hs
 repeat' split at hs
 all_goals first
  | (cases hs;done)
  | (cases hs;first|exact Nat.le_refl _|exact Nat.le_succ _|(rename_i hst;rw[zEO hst];exact Nat.le_refl _))
  | (simp only[Option.some.injEq,Prod.mk.injEq] at hs;obtain⟨_,rfl⟩:=hs;exact Nat.le_succ _)
theorem zNv {A:Nat} {s:Bool} (hs:nextX h A s=some (v,h')):h'.next=h.next:=by
 unfold nextX at hs
 (repeat' split at hs)<;>first|(cases hs;done)|(cases hs;rfl)
theorem zNB {eo:EOp} (hs:effX t h eo=some (v,h')):h.next≤h'.next:=by
 cases eo<;>simp only[effX] at hs<;>(repeat' split at hs) <;>
  first
   | (cases hs;done)
   | exact zDi hs
   | (rw[zNv hs];exact Nat.le_refl _)
   | (cases hs;first|exact Nat.le_refl _|exact Nat.le_succ _|(rename_i hst;first|(rw[zEO hst];exact Nat.le_refl _)|exact Nat.le_refl _))
theorem zIe (hcf:zCK cf) {op:XOp} (hs:zk cf t h op=some (v,h')):h.next≤h'.next:=by
 cases op<;>simp only[zk] at hs
 case e eo=>exact zNB hs
 case call f args =>
  split at hs
  ·exact hcf.fn _ _ _ _ _ hs
  ·rename_i l first caps _
   cases hb:(first.isEmpty&&caps.isEmpty)<;>rw[hb] at hs
   ·cases hs
   ·exact hcf.yl _ _ _ _ _ hs
  ·cases hs
 case a ao =>
  split at hs
  ·cases hs;rw[zA5];exact Nat.le_succ _
  ·cases hs
 all_goals
  split at hs
  ·cases hs;exact Nat.le_refl _
  ·cases hs
theorem zFs (hcf:zCK cf) {x:XO} (hs:zm cf t h x=some (v,h')):h.next≤h'.next:=by
 unfold zm at hs
 cases hw:zq t x.guard<;>rw[hw] at hs
 ·cases hs;exact Nat.le_refl _
 ·exact zIe hcf hs
theorem zFb (hcf:zCK cf):∀ {l:List XO} {t:Fr} {h:Heap},opsX cf l t h=some (t',h')→h.next≤h'.next
 | [],t,h,hs=>by cases hs;exact Nat.le_refl _
 | x::l,t,h,hs=>by
  simp only[opsX] at hs
  split at hs
  ·rename_i v1 h1 h2;exact Nat.le_trans (zFs hcf h2) (zFb hcf hs)
  ·cases hs
theorem zHs (hcf:zCK cf):∀ {l:List XO} {t:Fr} {h:Heap} {tr:List (Fr×Heap)},opsT cf l t h=some tr→∃x tr',tr=x::tr'∧(∀y∈tr,h.next≤y.2.next)
 | [],t,h,tr,hs=>by cases hs;exact⟨_,_,rfl,fun y hy=>by simp at hy;subst hy;exact Nat.le_refl _⟩
 | x::l,t,h,tr,hs=>by
  simp only[opsT] at hs
  split at hs
  ·rename_i v1 h1 h2
   split at hs
   ·rename_i l' hl'
    cases hs
    obtain⟨_,_,_,hall⟩:=zHs hcf hl'
    refine⟨_,_,rfl,fun y hy=>?_⟩
    rcases List.mem_cons.1 hy with rfl|hy
    ·exact Nat.le_refl _
    ·exact Nat.le_trans (zFs hcf h2) (hall y hy)
   ·cases hs
  ·cases hs
theorem zOO (hcf:CFOk P cf) {op:XOp} (hs:zk cf t h op=some (v,h')):h.next≤h'.next:=zIe hcf.nx hs
theorem zOR (hcf:CFOk P cf) {x:XO} (hs:zm cf t h x=some (v,h')):h.next≤h'.next:=zFs hcf.nx hs
theorem zHx (hcf:CFOk P cf) {l:List XO} {t:Fr} {h:Heap} (hs:opsX cf l t h=some (t',h')):h.next≤h'.next:=zFb hcf.nx hs
theorem zHk (hs:zk cf t h (opC P o)=some (v,h')):∀c,o.op≠.defer c:=fun c hc=>by
 simp[opC,hc,zk,zB] at hs
theorem zEV {r:Option Nat} {a:Act} {next:Act→World→Prop} {Q:Exit→Act→World→Prop} (hnd:∀c,o.op≠.defer c) (hx:o.uponIn (Wd r) 0 P a next Q ((execOp a.eval o).run P w)):o.wpIn (Wd r) 0 P a w next Q :=
 ⟨fun _ _=>trivial,by rw[Oper.semAt_eq _ _ _ hnd];exact hx⟩
theorem zIh {r:Option Nat} (hcf:CFOk P cf) {a:Act} (he:∀x∈o.op.operands,VRel ρ (t.eval x) (a.eval x)) (hr:HRel P base ρ h w) (wf:HWF h) (hpre:∀A,h.next≤A→A<h'.next→ρ A=none) (hs:zk cf t h (opC P o)=some (v,h'))
  {next:Act→World→Prop} {Q:Exit→Act→World→Prop}
  (hn:∀v' w' ρ',HRel P base ρ' h' w'→HWF h'→Ext base ρ h w ρ' h' w'→VRel ρ' v v'→next (a.put o.dst v') w'):o.wpIn (Wd r) 0 P a w next Q:=by
 refine zEV (zHk hs) ?_
 cases hc:opC P o with
 | p po =>
  rw[hc] at hs
  simp only[zk] at hs
  split at hs
  ·rename_i v1 hv
   cases hs
   obtain⟨v',h1,h2⟩:=zH9 (w:=w) hc he hv
   rw[h1]
   exact hn v' w ρ hr wf (Ext.refl _ _ _ _) h2
  ·cases hs
 | r ro =>
  rw[hc] at hs
  simp only[zk] at hs
  split at hs
  ·rename_i v1 hv
   cases hs
   obtain⟨v',h1,h2⟩:=zIE (w:=w) hr hc he hv
   rw[h1]
   exact hn v' w ρ hr wf (Ext.refl _ _ _ _) h2
  ·cases hs
 | a ao =>
  rw[hc] at hs
  simp only[zk] at hs
  split at hs
  ·rename_i b mk hb
   cases hs
   obtain⟨v',w',ρ',h1,h2,h3,h4,h5⟩:=(zGd (P:=P) (w:=w) hc he hb).step hr wf (hpre h.next (Nat.le_refl _) (by rw[zA5];exact Nat.lt_succ_self _))
   rw[h1]
   exact hn v' w' ρ' h2 h3 h4 h5
  ·cases hs
 | e eo =>
  rw[hc] at hs
  obtain⟨v',w',ρ',h1,h2,h3,h4,h5⟩:=zNC (P:=P) (w:=w) hr wf hpre hc he hs
  rcases h1 with h1|⟨h1,rfl⟩
  ·rw[h1];exact hn v' w' ρ' h2 h3 h4 h5
  ·rw[h1];exact hn undef w' ρ' h2 h3 h4 h5
 | call f args =>
  rw[hc] at hs
  obtain⟨c,hop,hcal,hargs⟩:=zMi hc
  obtain⟨cal,asx,ats⟩:=c
  simp only at hcal hargs
  subst hcal
  have he':∀x∈args,VRel ρ (t.eval x) (a.eval x):=fun x hx=>he x (by
   rw[hop];simp only[Op.operands,Call.operands]
   rw[←hargs] at hx
   simp;right;simpa using hx)
  have hf:=he f (by rw[hop];simp[Op.operands,Call.operands])
  simp only[zk] at hs
  split at hs
  ·rename_i g first caps hfv
   obtain⟨⟨fn,hfn,hname,hbody⟩,hnx,hcall⟩:=hcf.fn _ _ _ _ _ hs
   rw[hfv] at hf
   cases hf':a.eval f<;>rw[hf'] at hf<;>cases hf
   rename_i first' caps' ha1 hb1 ha2 hb2
   have hL:LRel ρ (first.toList++args.map t.eval++caps.toList) (first'.toList++args.map a.eval++caps'.toList) :=
    ((zBK ha1 hb1).append (All2.map_same args he')).append (zBK ha2 hb2)
   have hrun:(execOp a.eval o).run P w=.ok (.enter g (first'.toList++args.map a.eval++caps'.toList).toArray) w:=by
    have hmk:(first'++asx.map a.eval++caps')=(first'.toList++args.map a.eval++caps'.toList).toArray:=by
     apply Array.ext';simp[←hargs]
    simp only[execOp,hop,resolve,hf',Deferred.ofValue,Sem.run_bind,Sem.run_pure,Result.andThen_ok,invoke,callFunc,run_program,hfn,hmk]
    rw[if_neg (by simpa using hname),if_neg (by cases hb:fn.body<;>simp_all)]
    rfl
   rw[hrun,Oper.uponIn_enter]
   refine⟨fun hd=>(by cases hd),(callsIn_wide (n:=0 - 1)).2 ((hcall base ρ w _ hr wf hpre hL).mono fun e' w' hq=>?_)⟩
   obtain⟨v',ρ',rfl,q1,q2,q3,q4⟩:=hq
   exact hn v' w' ρ' q1 q2 q3 q4
  ·rename_i l first caps hfv
   cases hb:(first.isEmpty&&caps.isEmpty) with
   | false=>rw[hb] at hs;cases hs
   | true =>
    rw[hb] at hs
    simp only[cond_true] at hs
    rw[hfv] at hf
    obtain⟨hnx,hy⟩:=hcf.yl _ _ _ _ _ hs
    cases hf':a.eval f<;>rw[hf'] at hf<;>cases hf
    rename_i L hL
    obtain⟨fn,tmps,asg,body,h1,h2⟩:=hy base ρ w (args.map a.eval) L hL hr wf hpre (All2.map_same args he')
    have hmk:(#[]++asx.map a.eval)=(args.map a.eval).toArray:=by
     apply Array.ext';simp[←hargs]
    have hrun:(execOp a.eval o).run P w=.ok (.round L.b fn tmps asg body) w:=by
     simp only[execOp,hop,resolve,hf',Deferred.ofValue,Sem.run_bind,Sem.run_pure,Result.andThen_ok,invoke,hmk,h1]
    rw[hrun,Oper.uponIn_round]
    refine⟨fun hd=>(by cases hd),RoundIn.mono h2 fun e' w' hq=>?_⟩
    obtain⟨v',ρ',rfl,q1,q2,q3,q4⟩:=hq
    exact hn v' w' ρ' q1 q2 q3 q4
  ·cases hs
theorem zOd {ops:Array Oper} {a:Act} {g:Option (Nat×Bool)} (hf:FRel ρ N t a.tmps) (hg:zB5 ops o.guard=some g):Region.wanted o (yielded ops a.tmps)=zq t g:=by
 unfold zB5 at hg
 split at hg
 ·rename_i hq;cases hg;simp[Region.wanted,hq,zq]
 ·rename_i j b hq
  split at hg
  ·rename_i s hs
   cases hg
   simp only[Region.wanted,hq,zq,yielded,hs,Option.bind_some]
   have hrel:=hf.rel s
   rw[Array.getD_eq_getD_getElem?] at hrel
   cases hv:a.tmps[s]? with
   | none =>
    rw[hv] at hrel
    simp only[Option.getD_none] at hrel
    cases ht:t.get s<;>rw[ht] at hrel<;>first|rfl|cases hrel
   | some u =>
    rw[hv] at hrel
    simp only[Option.getD_some] at hrel
    cases ht:t.get s<;>rw[ht] at hrel<;>cases hrel<;>first|rfl|(simp)
  ·cases hg
theorem zFc {rd:Option Nat} (hcf:CFOk P cf) {ops:Array Oper} {Q:Exit→Act→World→Prop} (hok:zBQ ops=true) {D:List Deferred}:∀ (l:List XO) (rest:List Oper) (k:Nat) (ρ:Ren) (t:Fr) (h:Heap) (a:Act) (w:World),
  ops.toList.drop k=rest→zAl P ops rest=some l→zBF N l=true→opsX cf l t h=some (t',h')→FRel ρ N t a.tmps→a.defers=D→HRel P base ρ h w→HWF h→(∀A,h.next≤A→A<h'.next→ρ A=none) →
  (∀a' w' ρ',FRel ρ' N t' a'.tmps→a'.defers=D→HRel P base ρ' h' w'→HWF h'→Ext base ρ h w ρ' h' w'→Q .normal a' w')→wpOpsIn (Wd rd) 0 P ops Q ((List.range ops.size).drop k) a w
 | [],rest,k,ρ,t,h,a,w,hd,hl,_,hx,hf,hdef,hr,wf,_,hq=>by
  cases hx
  have hrest:rest=[]:=by
   cases rest with
   | nil=>rfl
   | cons o r=>simp only[zAl] at hl;(split at hl<;>cases hl)
  rw[hrest] at hd
  have hk:ops.size≤k:=by
   have:=congrArg List.length hd
   simp at this;omega
  rw[List.drop_of_length_le (by simpa using hk)]
  exact hq a w ρ hf hdef hr wf (Ext.refl _ _ _ _)
 | x::l,rest,k,ρ,t,h,a,w,hd,hl,hdst,hx,hf,hdef,hr,wf,hpre,hq=>by
  cases rest with
  | nil=>cases hl
  | cons o r =>
   simp only[zAl] at hl
   split at hl
   ·rename_i x' l' hx' hl'
    cases hl
    have hk:k<ops.size:=by
     have:=congrArg List.length hd
     simp at this;omega
    have hok':ops[k]?=some o:=by
     have:=congrArg (·[0]?) hd
     simpa using this
    have hd':ops.toList.drop (k+1)=r:=by
     rw[←List.drop_drop,hd];rfl
    have hdrop:(List.range ops.size).drop k=k::(List.range ops.size).drop (k+1):=by
     rw[List.drop_eq_getElem_cons (by simpa using hk)];simp
    rw[hdrop]
    simp only[wpOpsIn,hok']
    simp only[operC] at hx'
    split at hx'
    ·rename_i g hg
     cases hx'
     rw[zOd hf hg]
     simp only[zBF,List.all_cons,Bool.and_eq_true] at hdst
     have hdN:∀d,o.dst=some d→d<N:=fun d hd0=>by
      have:=hdst.1
      rw[hd0] at this
      exact Nat.le_of_ble_eq_true this
     simp only[opsX,zm] at hx
     cases hw:zq t g with
     | false =>
      rw[hw] at hx
      simp only[cond_false] at hx
      have h2:=zFc (rd:=rd) hcf hok l r (k+1) ρ (t.put o.dst (.tuple #[])) h (a.put o.dst undef) w hd' hl' hdst.2 hx (hf.put hdN VRel.undef) (by rw[←hdef];cases o.dst<;>rfl) hr wf hpre hq
      simp only[Bool.false_eq_true,if_false]
      exact⟨fun _ _=>trivial,h2⟩
     | true =>
      rw[hw] at hx
      simp only[cond_true] at hx
      split at hx
      ·rename_i v h1 hs
       have hoper:∀y∈o.op.operands,VRel ρ (t.eval y) (a.eval y):=fun y hy=>hf.eval (by
        have h2:=hok
        unfold zBQ at h2
        rw[Array.all_eq_true] at h2
        have h3:=h2 k hk
        have h4:ops[k]=o:=by
         rw[Array.getElem?_eq_getElem hk] at hok';exact Option.some.inj hok'
        rw[h4,Array.all_eq_true] at h3
        obtain⟨i,hi,rfl⟩:=Array.getElem_of_mem hy
        exact h3 i hi)
       have hmid:h.next≤h1.next∧h1.next≤h'.next:=⟨zOO hcf hs,zHx hcf hx⟩
       simp only[if_true]
       refine zIh hcf hoper hr wf (fun A hA hB=>hpre A hA (by omega)) hs fun v' w' ρ' q1 q2 q3 q4=>?_
       exact (zFc hcf hok l r (k+1) ρ' (t.put o.dst v) h1 (a.put o.dst v') w' hd' hl' hdst.2 hx ((hf.mono q3.mono).put hdN q4) (by rw[←hdef];cases o.dst<;>rfl) q1 q2 (q3.pre hpre)
        (fun a' w'' ρ'' r1 r2 r3 r4 r5=>hq a' w'' ρ'' r1 r2 r3 r4 (Ext.trans q2 hpre q3 r5)))
      ·cases hx
    ·cases hx'
   ·cases hl
end
end Go.X
end
section
namespace Go.X
open Go.RowKit
def zBj (acc:List Nat) (o:Oper):Nat:=o.after.toList.foldl (fun m e=>if Region.binds .any e then m ||| (2 ^ e.on ||| acc.getD e.on 0) else m) 0
theorem zEg (o:Oper) (l:List Oper) (acc:List Nat):zf (o::l) acc=zf l (acc++[zBj acc o]):=rfl
theorem zGi:∀ (l:List Oper) (acc:List Nat),∃r,zf l acc=acc++r∧r.length=l.length
 | [],acc=>⟨[],by simp[zf],rfl⟩
 | o::l,acc=>by
  obtain⟨r,h1,h2⟩:=zGi l (acc++[zBj acc o])
  exact⟨zBj acc o::r,by rw[zEg,h1];simp,by simp[h2]⟩
theorem zGh:∀ (l:List Oper) (acc:List Nat) (j:Nat) (o:Oper),l[j]?=some o→(zf l acc).getD (acc.length+j) 0=zBj ((zf l acc).take (acc.length+j)) o
 | [],_,_,_,h=>by simp at h
 | o'::l,acc,0,o,h=>by
  have ho:o'=o:=by simpa using h
  subst ho
  rw[zEg]
  obtain⟨r,h1,_⟩:=zGi l (acc++[zBj acc o'])
  generalize hm:zBj acc o'=m at h1 ⊢
  rw[h1]
  have e1:(acc++[m]++r).take (acc.length+0)=acc:=by simp
  have e2:(acc++[m]++r).getD (acc.length+0) 0=m:=by simp[List.getD]
  rw[e1,e2,hm]
 | o'::l,acc,j+1,o,h=>by
  have h0:=zGh l (acc++[zBj acc o']) j o (by simpa using h)
  rw[zEg]
  generalize zBj acc o'=m at h0 ⊢
  have e1:(acc++[m]).length+j=acc.length+(j+1):=by simp;omega
  rw[e1] at h0
  exact h0
theorem zHO (acc:List Nat):∀ (es:List Edge) (m i:Nat),(es.foldl (fun m e=>if Region.binds .any e then m ||| (2 ^ e.on ||| acc.getD e.on 0) else m) m).testBit i=true →
  m.testBit i=true∨∃e∈es,Region.binds .any e=true∧(i=e.on∨(acc.getD e.on 0).testBit i=true)
 | [],m,i,h=>.inl h
 | e::es,m,i,h=>by
  rcases zHO acc es _ i h with h1|⟨e',h1,h2,h3⟩
  ·dsimp only at h1
   split at h1
   ·rename_i hb
    rw[Nat.testBit_or,Nat.testBit_or,Bool.or_eq_true,Bool.or_eq_true] at h1
    rcases h1 with h1|h1|h1
    ·exact .inl h1
    ·refine .inr ⟨e,by simp,hb,.inl ?_⟩
     rw[Nat.testBit_two_pow] at h1
     exact (of_decide_eq_true h1).symm
    ·exact .inr ⟨e,by simp,hb,.inr h1⟩
   ·exact .inl h1
  ·exact .inr ⟨e',by simp[h1],h2,h3⟩
theorem zMd {ops:Array Oper} (hedge:∀j o,ops[j]?=some o→∀e∈o.after.toList,Region.binds .any e=true→e.on<j) {j:Nat} {o:Oper} (ho:ops[j]?=some o) {i:Nat} (hi:((zf ops.toList []).getD j 0).testBit i=true) :
  ∃e∈o.after.toList,Region.binds .any e=true∧(i=e.on∨((zf ops.toList []).getD e.on 0).testBit i=true):=by
 have h1:=zGh ops.toList [] j o (by simpa using ho)
 simp only[List.length_nil,Nat.zero_add] at h1
 rw[h1] at hi
 rcases zHO _ _ _ _ hi with h|⟨e,h2,h3,h4⟩
 ·simp at h
 ·refine⟨e,h2,h3,h4.imp id fun h=>?_⟩
  have hlt:=hedge j o ho e h2 h3
  simpa [List.getD,List.getElem?_take,hlt] using h
def Tf (tr:List (Fr×Heap)) (i:Nat):Fr:=match tr[i]? with|some q=>q.1|none=>.leaf
def Hf (tr:List (Fr×Heap)) (i:Nat):Heap:=match tr[i]? with|some q=>q.2|none=>Heap.empty
theorem zDZ {cf:CallF}:∀ {l:List XO} {t:Fr} {h:Heap} {tr:List (Fr×Heap)},opsT cf l t h=some tr→tr.length=l.length+1∧Tf tr 0=t∧Hf tr 0=h ∧
  ∀i x,l[i]?=some x→∃v,zm cf (Tf tr i) (Hf tr i) x=some (v,Hf tr (i+1))∧Tf tr (i+1)=(Tf tr i).put x.dst v
 | [],t,h,tr,hs=>by cases hs;exact⟨rfl,rfl,rfl,fun i x hx=>by simp at hx⟩
 | y::l,t,h,tr,hs=>by
  simp only[opsT] at hs
  split at hs
  ·rename_i v h' hv
   split at hs
   ·rename_i tr' htr
    cases hs
    obtain⟨h1,h2,h3,h4⟩:=zDZ htr
    refine⟨by simp[h1],rfl,rfl,fun i x hx=>?_⟩
    cases i with
    | zero =>
     have hx':y=x:=by simpa using hx
     subst hx'
     refine⟨v,?_,?_⟩
     ·show zm cf t h y=some (v,Hf tr' 0)
      rw[h3];exact hv
     ·show Tf tr' 0=t.put y.dst v
      exact h2
    | succ i=>exact h4 i x (by simpa using hx)
   ·cases hs
  ·cases hs
theorem zIn {cf:CallF} {l:List XO} {t:Fr} {h:Heap} {tr:List (Fr×Heap)} (hs:opsT cf l t h=some tr) {q:Fr×Heap} (hq:tr.getLast?=some q):Tf tr l.length=q.1∧Hf tr l.length=q.2:=by
 obtain⟨h1,_⟩:=zDZ hs
 have:tr[l.length]?=some q:=by
  rw[List.getLast?_eq_getElem?] at hq
  rw[h1] at hq
  simpa using hq
 simp[Tf,Hf,this]
structure ExtB (base lo hi:Nat) (ρ:Ren) (h:Heap) (w:World) (ρ':Ren) (h':Heap) (w':World):Prop where
 mono:∀A l,ρ A=some l→ρ' A=some l
 new:∀A,ρ' A≠ρ A→lo≤A∧A<hi
 next:h.next≤h'.next
 keep:∀A,A<h.next→(h'.blks.get A).isSome→(h.blks.get A).isSome
 phan:∀A,A<h.next→ρ A=none→h'.blks.get A=h.blks.get A∧h'.fams.get A=h.fams.get A
 below:Below base w w'
 frame:∀r,r<w.heap.size→(∀A l,ρ A=some l→(h.blks.get A).isSome→l.b≠r)→w'.heap[r]?=w.heap[r]?
 newb:∀A l,ρ' A=some l→ρ A=none→w.heap.size≤l.b∨∃B m,ρ B=some m∧(h.blks.get B).isSome∧m.b=l.b
theorem Ext.toB {base:Nat} {ρ ρ':Ren} {h h':Heap} {w w':World} (a:Ext base ρ h w ρ' h' w'):ExtB base h.next h'.next ρ h w ρ' h' w':=⟨a.mono,a.new,a.next,a.keep,a.phan,a.below,a.frame,a.newb⟩
theorem ExtB.toExt {base:Nat} {ρ ρ':Ren} {h h':Heap} {w w':World} (a:ExtB base h.next h'.next ρ h w ρ' h' w'):Ext base ρ h w ρ' h' w':=⟨a.mono,a.new,a.next,a.keep,a.phan,a.below,a.frame,a.newb⟩
theorem ExtB.trans {base hi lo' hi':Nat} {ρ ρ1 ρ2:Ren} {h h1 h2:Heap} {w w1 w2:World} (wf1:HWF h1) (hpre:∀A,h.next≤A→A<hi→ρ A=none) (hh1:h1.next≤hi)
  (a:ExtB base h.next hi ρ h w ρ1 h1 w1) (b:ExtB base lo' hi' ρ1 h1 w1 ρ2 h2 w2) (hlo:h.next≤lo') (hhi:hi'≤hi):ExtB base h.next hi ρ h w ρ2 h2 w2:=by
 have hρ1:∀A,A<h.next→ρ A=none→ρ1 A=none:=fun A hA hn=>by
  rcases Classical.em (ρ1 A=ρ A) with e|e
  ·rw[e];exact hn
  ·have:=a.new A e;omega
 have hold:∀B m,ρ B=some m→(h1.blks.get B).isSome→B<h.next:=fun B m hB hb=>by
  rcases Nat.lt_or_ge B h.next with hl|hl
  ·exact hl
  ·cases hg:h1.blks.get B with
   | none=>rw[hg] at hb;cases hb
   | some x =>
    have hlt:=wf1.lt hg
    have:=hpre B hl (by omega)
    rw[hB] at this;cases this
 refine⟨fun A l hA=>b.mono A l (a.mono A l hA),?_,Nat.le_trans a.next b.next,?_,?_,a.below.trans b.below,?_,?_⟩
 ·intro A hne
  by_cases e:ρ1 A=ρ A
  ·have:=b.new A (by rw[e];exact hne);omega
  ·exact a.new A e
 ·intro A hA hs
  exact a.keep A hA (b.keep A (by have:=a.next;omega) hs)
 ·intro A hA hn
  have h1':=a.phan A hA hn
  have h2':=b.phan A (by have:=a.next;omega) (hρ1 A hA hn)
  exact⟨h2'.1.trans h1'.1,h2'.2.trans h1'.2⟩
 ·intro r hr hno
  rw[b.frame r (by have:=a.below.size;omega) ?_,a.frame r hr hno]
  intro A l hA hs
  cases hρ:ρ A with
  | some m =>
   have hm:m=l:=by have:=a.mono A m hρ;rw[hA] at this;exact (Option.some.inj this).symm
   subst hm
   exact hno A m hρ (a.keep A (hold A m hρ hs) hs)
  | none =>
   rcases a.newb A l hA hρ with hb|⟨B,m,hB,hs',hm⟩
   ·omega
   ·rw[←hm];exact hno B m hB hs'
 ·intro A l hA hn
  cases hρ:ρ1 A with
  | some m =>
   have hm:m=l:=by have:=b.mono A m hρ;rw[hA] at this;exact (Option.some.inj this).symm
   subst hm
   exact a.newb A m hρ hn
  | none =>
   rcases b.newb A l hA hρ with hb|⟨B,m,hB,hs',hm⟩
   ·exact .inl (by have:=a.below.size;omega)
   ·cases hρB:ρ B with
    | some m' =>
     have e:m'=m:=by have:=a.mono B m' hρB;rw[hB] at this;exact (Option.some.inj this).symm
     subst e
     exact .inr ⟨B,m',hρB,a.keep B (hold B m' hρB hs') hs',hm⟩
    | none =>
     rcases a.newb B m hB hρB with hb|⟨C,k,hC,hsC,hk⟩
     ·exact .inl (by omega)
     ·exact .inr ⟨C,k,hC,hsC,by rw[hk,hm]⟩
theorem ExtB.grow {base lo hi:Nat} {ρ ρ':Ren} {h h' h2:Heap} {w w':World} (a:ExtB base lo hi ρ h w ρ' h' w') (hn:h'.next≤h2.next) (hs:∀A,A<h'.next→h2.blks.get A=h'.blks.get A∧h2.fams.get A=h'.fams.get A):ExtB base lo hi ρ h w ρ' h2 w' :=
 ⟨a.mono,a.new,Nat.le_trans a.next hn,fun A hA q=>a.keep A hA (by rw[←(hs A (by have:=a.next;omega)).1];exact q),fun A hA q=>by
  obtain⟨h1,h2⟩:=hs A (by have:=a.next;omega)
  obtain⟨h3,h4⟩:=a.phan A hA q
  exact⟨h1.trans h3,h2.trans h4⟩,a.below,a.frame,a.newb⟩
structure DCtx (P:Program) (cf:CallF) (N:Nat) (ops:Array Oper) (l:List XO) (T:Nat→Fr) (H:Nat→Heap):Prop where
 hcf:CFOk P cf
 len:l.length=ops.size
 comp:∀ (i:Nat) (o:Oper),ops[i]?=some o→∃g,l[i]?=some ⟨o.dst,opC P o,g⟩∧zB5 ops o.guard=some g
 opnd:∀ (i:Nat) (o:Oper),ops[i]?=some o→∀x∈o.op.operands,zCh x=true
 dst:∀ (i:Nat) (o:Oper) (d:Nat),ops[i]?=some o→o.dst=some d→d<N
 edge:∀ (j:Nat) (o:Oper),ops[j]?=some o→∀e∈o.after.toList,Region.binds .any e=true→e.on<j
 pairs:∀ (i j:Nat) (oi oj:Oper) (xi xj:XO),i<j→ops[i]?=some oi→ops[j]?=some oj→l[i]?=some xi→l[j]?=some xj→((zf ops.toList []).getD j 0).testBit i=true ∨
  (¬(zA2 xi.op=true∧zA2 xj.op=true)∧(∀d,xi.dst=some d→d∉zAO oj xj.guard∧xj.dst≠some d)∧(∀d,xj.dst=some d→d∉zAO oi xi.guard))
 step:∀ (i:Nat) (x:XO),l[i]?=some x→∃v,zm cf (T i) (H i) x=some (v,H (i+1))∧T (i+1)=(T i).put x.dst v
def IsE (l:List XO) (i:Nat):Prop:=∃x,l[i]?=some x∧zA2 x.op=true
def zo (l:List XO) (T:Nat→Fr) (i:Nat) (b:NBlk) (mk:Mk):Prop:=∃x ao,l[i]?=some x∧x.op=.a ao∧zq (T i) x.guard=true∧zAA (T i) ao=some (b,mk)
section
variable {P:Program} {cf:CallF} {N:Nat} {ops:Array Oper} {l:List XO} {T:Nat→Fr} {H:Nat→Heap} {base:Nat}
theorem DCtx.mono_next (c:DCtx P cf N ops l T H):∀ {i j:Nat},i≤j→j≤l.length→(H i).next≤(H j).next:=by
 intro i j hij
 induction hij with
 | refl=>intro _;exact Nat.le_refl _
 | @step j hij ih =>
  intro hj
  obtain⟨x,hx⟩:∃x,l[j]?=some x:=⟨l[j]'(by omega),List.getElem?_eq_getElem (by omega)⟩
  obtain⟨v,h1,_⟩:=c.step j x hx
  exact Nat.le_trans (ih (by omega)) (zOR c.hcf h1)
theorem zFN {i:Nat} {b b':NBlk} {mk mk':Mk} (h:zo l T i b mk) (h':zo l T i b' mk'):b=b'∧mk=mk':=by
 obtain⟨x,ao,h1,h2,_,h4⟩:=h
 obtain⟨x',ao',h1',h2',_,h4'⟩:=h'
 rw[h1] at h1';cases h1'
 rw[h2] at h2';cases h2'
 rw[h4] at h4';cases h4'
 exact⟨rfl,rfl⟩
theorem zD5 {i:Nat} {b:NBlk} {mk:Mk} (h:zo l T i b mk):¬IsE l i:=by
 rintro⟨x,h1,h2⟩
 obtain⟨x',ao,h1',h2',_⟩:=h
 rw[h1] at h1';cases h1'
 rw[h2'] at h2;cases h2
theorem DCtx.heap_next (c:DCtx P cf N ops l T H) {i:Nat} (hi:i<l.length) (hE:¬IsE l i):(H (i+1)=H i∧∀b mk,¬zo l T i b mk)∨∃b mk,zo l T i b mk∧H (i+1)=(H i).push b:=by
 obtain⟨x,hx⟩:∃x,l[i]?=some x:=⟨l[i],List.getElem?_eq_getElem hi⟩
 obtain⟨v,h1,_⟩:=c.step i x hx
 unfold zm at h1
 cases hw:zq (T i) x.guard with
 | false =>
  rw[hw] at h1
  simp only[cond_false,Option.some.injEq,Prod.mk.injEq] at h1
  refine .inl ⟨h1.2.symm,fun b mk hb=>?_⟩
  obtain⟨x',ao,q1,q2,q3,_⟩:=hb
  rw[hx] at q1;cases q1
  rw[hw] at q3;cases q3
 | true =>
  rw[hw] at h1
  simp only[cond_true] at h1
  have hno:∀ (q:XOp),x.op=q→(∀ao,q≠.a ao)→∀b mk,¬zo l T i b mk:=fun q hq hne b mk hb=>by
   obtain⟨x',ao,q1,q2,_⟩:=hb
   rw[hx] at q1;cases q1
   rw[hq] at q2;exact hne ao q2
  cases ho:x.op with
  | p po =>
   rw[ho] at h1
   simp only[zk] at h1
   split at h1
   ·simp only[Option.some.injEq,Prod.mk.injEq] at h1
    exact .inl ⟨h1.2.symm,hno _ ho (fun ao e=>by cases e)⟩
   ·cases h1
  | r ro =>
   rw[ho] at h1
   simp only[zk] at h1
   split at h1
   ·simp only[Option.some.injEq,Prod.mk.injEq] at h1
    exact .inl ⟨h1.2.symm,hno _ ho (fun ao e=>by cases e)⟩
   ·cases h1
  | a ao =>
   rw[ho] at h1
   simp only[zk] at h1
   split at h1
   ·rename_i b mk hb
    simp only[Option.some.injEq,Prod.mk.injEq] at h1
    exact .inr ⟨b,mk,⟨x,ao,hx,ho,hw,hb⟩,h1.2.symm⟩
   ·cases h1
  | e eo=>exact absurd ⟨x,hx,by rw[ho];rfl⟩ hE
  | call f asx=>exact absurd ⟨x,hx,by rw[ho];rfl⟩ hE
theorem DCtx.makes_next (c:DCtx P cf N ops l T H) {i:Nat} {b:NBlk} {mk:Mk} (h:zo l T i b mk):i<l.length∧H (i+1)=(H i).push b:=by
 have hi:i<l.length:=by
  obtain⟨x,ao,h1,_⟩:=h
  exact (List.getElem?_eq_some_iff.1 h1).1
 refine⟨hi,?_⟩
 rcases c.heap_next hi (zD5 h) with ⟨_,h2⟩|⟨b',mk',h1,h2⟩
 ·exact absurd h (h2 b mk)
 ·obtain⟨rfl,rfl⟩:=zFN h h1;exact h2
theorem DCtx.id_lt (c:DCtx P cf N ops l T H) {i j:Nat} {b:NBlk} {mk:Mk} (h:zo l T i b mk) (hij:i<j) (hj:j≤l.length):(H i).next<(H j).next:=by
 obtain⟨hi,he⟩:=c.makes_next h
 have h1:=c.mono_next (i:=i+1) (j:=j) hij hj
 rw[he,zA5] at h1
 omega
def Pend (base:Nat) (ρ:Ren) (w:World) (id:Nat) (b:NBlk):Prop :=
 ∃L obj,ρ id=some L∧L.o=0∧w.heap[L.b]?=some obj∧ObjOK ρ b obj∧L.size=zAC obj∧base≤L.b∧∀A L',ρ A=some L'→A≠id→L'.b≠L.b
theorem HRel.adopt {ρ:Ren} {h:Heap} {w:World} {id:Nat} {b:NBlk} (hr:HRel P base ρ h w) (hp:Pend base ρ w id b) (hb:h.blks.get id=none) (hf:∀A c,h.blks.get A=some (.cells c)→c.fam≠id):HRel P base ρ (h.pushAt id b) w:=by
 obtain⟨L,obj,h1,h2,h3,h4,h5,h6,h7⟩:=hp
 have hfr:=zIA h id b
 have hblk:∀A,A≠id→(h.pushAt id b).blks.get A=h.blks.get A:=fun A hA=>by rw[zCj,if_neg hA]
 have hok:∀A c,A≠id→(h.pushAt id b).okCells A=some c→h.okCells A=some c:=fun A c hA hc=>by
  rw[zD7 (hblk A hA) (fun c' hc'=>zDR h id b c'.fam (hf A c' hc'))] at hc;exact hc
 have hself:∀c,(h.pushAt id b).okCells id=some c→∃l,(b=.cells l∨b=.bytes l)∧c=⟨l,id,0,false⟩:=fun c hc=>by
  have:=(okCells_iff.1 hc).1
  rw[hfr.1] at this
  cases b with
  | cells l=>cases this;exact⟨l,.inl rfl,rfl⟩
  | bytes l=>cases this;exact⟨l,.inr rfl,rfl⟩
  | map=>cases this
 refine⟨hr.le,hr.bnd,?_,?_,?_,?_,?_,hr.fin,fun A c f m hc hff h0 hro hm=>?_,hr.loops.step (fun _ _ h=>h) (fun A r l hq1 hsp hq2=>⟨by
  by_cases e:A=id
  ·subst e;rw[hfr.1] at hq1;cases b<;>cases hq1<;>exact False.elim hsp
  ·rwa [hblk A e] at hq1,hq2⟩) (fun _ _ h _=>h) (fun A l hq1 hq2=>by
  obtain⟨c,k1,k2⟩:=hq1
  by_cases e:A=id
  ·subst e;rw[h1] at hq2;cases hq2;exact .inl h2
  ·rw[hblk A e] at k1;exact .inr ⟨⟨c,k1,k2⟩,hq2⟩) (fun A l es st es' cl hq1 hq2 hq3=>by
  by_cases e:A=id
  ·subst e
   rw[h1] at hq2;cases hq2
   rw[hfr.1] at hq1
   cases b with
   | map =>
    rw[h3] at hq3;cases hq3
    cases h4
    cases hq1
    exact .inl ⟨⟨by simp,by simp⟩,by simp[StOK]⟩
   | cells l=>cases hq1
   | bytes l=>cases hq1
  ·rw[hblk A e] at hq1;exact .inr ⟨es,hq1,hq2,hq3⟩)⟩
 rotate_left 5
 ·by_cases e:A=id
  ·subst e
   obtain⟨vs,hb2,rfl⟩:=hself c hc
   rw[h1] at hm;cases hm
   rcases hb2 with rfl|rfl
   ·obtain⟨cs,T,fz,rfl,q1,q2,q3⟩:=h4
    intro cs2 T2 fz2 hh
    rw[h3] at hh
    cases hh
    exact q3 _ (Nat.le_refl _)
   ·have:=hfr.2.2 vs rfl
    simp only at hff
    rw[this] at hff
    cases hff
    simp at h0
  ·have hc':=hok A c e hc
   rw[zDR h id b c.fam (hf A c (okCells_iff.1 hc').1)] at hff
   exact hr.mark A c f m hc' hff h0 hro hm
 ·intro A c hc hs
  by_cases e:A=id
  ·subst e
   rw[hfr.1] at hc
   cases b with
   | cells l=>cases hc;rw[h1];rfl
   | bytes l=>cases hc;rw[h1];rfl
   | map=>cases hc
  ·exact hr.found A c (by rwa [hblk A e] at hc) hs
 ·intro A c m hc hm
  by_cases e:A=id
  ·subst e
   obtain⟨vs,hb2,rfl⟩:=hself c hc
   rw[h1] at hm;cases hm
   rcases hb2 with rfl|rfl
   ·obtain⟨cs,T,fz,rfl,q1,q2,q3⟩:=h4
    exact⟨cs,T,fz,h3,by rw[h5];rfl,by rw[h2];simpa using q1,by rw[h2];simpa using q2,fun _=>⟨h6,fun i hi=>q3 i (by omega)⟩⟩
   ·obtain⟨cs,T,fz,rfl,q1,q2,q3⟩:=h4
    exact⟨cs,T,fz,h3,by rw[h5];rfl,by rw[h2];simpa using q1,by rw[h2];simpa using q2,fun _=>⟨h6,fun i hi=>q3 i (by omega)⟩⟩
  ·exact hr.cells A c m (hok A c e hc) hm
 ·intro A B c d m n hAB hc hd hm hn hb
  by_cases e:A=id
  ·subst e
   rw[h1] at hm;cases hm
   exact absurd hb.symm (h7 B n hn (Ne.symm hAB))
  ·by_cases e2:B=id
   ·subst e2
    rw[h1] at hn;cases hn
    exact absurd hb (h7 A m hm e)
   ·exact hr.alias A B c d m n hAB (hok A c e hc) (hok B d e2 hd) hm hn hb
 ·intro A m es st hes hm
  by_cases e:A=id
  ·subst e
   rw[h1] at hm;cases hm
   rw[hfr.1] at hes
   cases b with
   | cells l=>cases hes
   | bytes l=>cases hes
   | map =>
    cases hes
    have h4':obj=.map #[] 0:=h4
    subst h4'
    exact⟨#[],0,h3,h6,.nil⟩
  ·exact hr.maps A m es st (by rwa [hblk A e] at hes) hm
 ·intro A B es st fs su m n hAB ha hb' hm hn
  by_cases e:A=id
  ·subst e
   rw[h1] at hm;cases hm
   exact fun q=>h7 B n hn (Ne.symm hAB) q.symm
  ·by_cases e2:B=id
   ·subst e2
    rw[h1] at hn;cases hn
    exact h7 A m hm e
   ·exact hr.malias A B es st fs su m n hAB (by rwa [hblk A e] at ha) (by rwa [hblk B e2] at hb') hm hn
end
end Go.X
end
section
namespace Go.X
open Go.RowKit
structure Inv (P:Program) (base N:Nat) (ops:Array Oper) (l:List XO) (T:Nat→Fr) (H:Nat→Heap) (D:List Deferred) (ρ0:Ren) (w0:World) (listed:Nat→Prop) (a:Act) (w:World) (ρ:Ren) (k:Nat):Prop where
 closed:∀i j,listed j→((zf ops.toList []).getD j 0).testBit i=true→listed i
 kle:k≤l.length
 kE:k=l.length∨IsE l k
 eLo:∀i,i<k→IsE l i→listed i
 eHi:∀i,k≤i→IsE l i→¬listed i
 wf:HWF (H k)
 rel:HRel P base ρ (H k) w
 phan:∀i b mk,i<k→zo l T i b mk→¬listed i→ρ (H i).next=none∧zCL (H k) (H i).next b
 out:∀A,(H k).next≤A→A<(H l.length).next→(∀i b mk,k≤i→zo l T i b mk→listed i→(H i).next≠A)→ρ A=none
 pend:∀i b mk,k≤i→zo l T i b mk→listed i→Pend base ρ w (H i).next b
 size:a.tmps.size=N
 slots:∀d,∃m,m≤l.length∧VRel ρ ((T m).get d) (a.tmps.getD d undef)∧(∀i x,i<m→l[i]?=some x→x.dst=some d→listed i)∧(∀i x,m≤i→l[i]?=some x→x.dst=some d→¬listed i)
 defs:a.defers=D
 ext:ExtB base (H 0).next (H l.length).next ρ0 (H 0) w0 ρ (H k) w
section
variable {P:Program} {cf:CallF} {N:Nat} {ops:Array Oper} {l:List XO} {T:Nat→Fr} {H:Nat→Heap} {base:Nat} {D:List Deferred} {ρ0 ρ:Ren} {w0 w:World} {listed:Nat→Prop} {a:Act} {k:Nat}
def more (listed:Nat→Prop) (j:Nat):Nat→Prop:=fun i=>i=j∨listed i
theorem Inv.slot (c:DCtx P cf N ops l T H) (I:Inv P base N ops l T H D ρ0 w0 listed a w ρ k) {j:Nat} {o:Oper} {x:XO} (ho:ops[j]?=some o) (hx:l[j]?=some x) (hj:¬listed j)
  (hbef:∀i,((zf ops.toList []).getD j 0).testBit i=true→listed i) {d:Nat} (hd:d∈zAO o x.guard):VRel ρ ((T j).get d) (a.tmps.getD d undef):=by
 obtain⟨m,hm,hv,h1,h2⟩:=I.slots d
 have same:∀i1 i2,i1≤i2→i2≤l.length→(∀i y,i1≤i→i<i2→l[i]?=some y→y.dst≠some d)→(T i2).get d=(T i1).get d:=by
  intro i1 i2 h12
  induction h12 with
  | refl=>intro _ _;rfl
  | @step i2 h12 ih =>
   intro hl hn
   obtain⟨y,hy⟩:∃y,l[i2]?=some y:=⟨l[i2]'(by omega),List.getElem?_eq_getElem (by omega)⟩
   obtain⟨v,_,ht⟩:=c.step i2 y hy
   have hne:=hn i2 y h12 (by omega) hy
   rw[ht]
   have:((T i2).put y.dst v).get d=(T i2).get d:=by
    cases hyd:y.dst with
    | none=>rfl
    | some d' =>
     simp only[Fr.put,Fr.get_set]
     rw[if_neg (fun e=>hne (by rw[hyd,e]))]
   rw[this]
   exact ih (by omega) fun i z hi hi2 hz=>hn i z hi (by omega) hz
 have hjl:j<l.length:=(List.getElem?_eq_some_iff.1 hx).1
 have hopat:∀i y,l[i]?=some y→∃oi,ops[i]?=some oi:=fun i y hy=>by
  have:i<ops.size:=by rw[←c.len];exact (List.getElem?_eq_some_iff.1 hy).1
  exact⟨ops[i],Array.getElem?_eq_getElem this⟩
 rcases Nat.le_total m j with hmj|hjm
 ·rw[same m j hmj (by omega) fun i y hi hij hy hyd=>?_]
  ·exact hv
  ·obtain⟨oi,hoi⟩:=hopat i y hy
   rcases c.pairs i j oi o y x hij hoi ho hy hx with h|⟨_,h,_⟩
   ·exact h2 i y hi hy hyd (hbef i h)
   ·exact (h d hyd).1 hd
 ·rw[←same j m hjm hm fun i y hi him hy hyd=>?_]
  ·exact hv
  ·have hl:=h1 i y him hy hyd
   rcases Nat.lt_or_ge j i with hlt|hge
   ·obtain⟨oi,hoi⟩:=hopat i y hy
    rcases c.pairs j i o oi x y hlt ho hoi hx hy with h|⟨_,_,h⟩
    ·exact hj (I.closed j i hl h)
    ·exact h d hyd hd
   ·obtain rfl:i=j:=by omega
    exact hj hl
theorem zNq {x:Operand} {L:List Operand} {i:Nat} (h:x∈L) (hx:x=.tmp i):i∈zEA L:=by
 subst hx
 exact List.mem_flatMap.2 ⟨_,h,by simp[zFZ]⟩
theorem Inv.operands (c:DCtx P cf N ops l T H) (I:Inv P base N ops l T H D ρ0 w0 listed a w ρ k) {j:Nat} {o:Oper} {x:XO} (ho:ops[j]?=some o) (hx:l[j]?=some x) (hj:¬listed j)
  (hbef:∀i,((zf ops.toList []).getD j 0).testBit i=true→listed i):∀y∈o.op.operands,VRel ρ ((T j).eval y) (a.eval y):=by
 intro y hy
 have hok:=c.opnd j o ho y hy
 cases y with
 | tmp i=>exact I.slot c ho hx hj hbef (by unfold zAO;exact List.mem_append.2 (.inl (zNq (by simpa using hy) rfl)))
 | const v =>
  have:zp v=true:=hok
  have hl:LRel ρ [v] [v]:=LRel.consts (by simp[this])
  cases hl with|cons h1 _=>exact h1
 | global g=>cases hok
 | func f=>exact .func rfl rfl (fun i h=>by simp at h) (fun i h=>by simp at h)
theorem zOe {o:Oper} {g:Option (Nat×Bool)} {t:Fr} (hf:∀s b,g=some (s,b)→VRel ρ (t.get s) (a.tmps.getD s undef)) (hg:zB5 ops o.guard=some g):Region.wanted o (yielded ops a.tmps)=zq t g:=by
 unfold zB5 at hg
 split at hg
 ·rename_i hq;cases hg;simp[Region.wanted,hq,zq]
 ·rename_i j b hq
  split at hg
  ·rename_i s hs
   cases hg
   simp only[Region.wanted,hq,zq,yielded,hs,Option.bind_some]
   have hrel:=hf s b rfl
   rw[Array.getD_eq_getD_getElem?] at hrel
   cases hv:a.tmps[s]? with
   | none =>
    rw[hv] at hrel
    simp only[Option.getD_none] at hrel
    cases ht:t.get s<;>rw[ht] at hrel<;>first|rfl|cases hrel
   | some u =>
    rw[hv] at hrel
    simp only[Option.getD_some] at hrel
    cases ht:t.get s<;>rw[ht] at hrel<;>cases hrel<;>first|rfl|(simp)
  ·cases hg
theorem Inv.front (c:DCtx P cf N ops l T H) (I:Inv P base N ops l T H D ρ0 w0 listed a w ρ k) {j:Nat} {o:Oper} (ho:ops[j]?=some o) (hE:IsE l j) (hj:¬listed j)
  (hbef:∀i,((zf ops.toList []).getD j 0).testBit i=true→listed i):j=k:=by
 have h1:k≤j:=by
  rcases Nat.lt_or_ge j k with h|h
  ·exact absurd (I.eLo j h hE) hj
  ·exact h
 rcases Nat.lt_or_ge k j with h|h
 ·exfalso
  have hjl:j<l.length:=by obtain⟨x,hx,_⟩:=hE;exact (List.getElem?_eq_some_iff.1 hx).1
  rcases I.kE with e|e
  ·omega
  ·have hnl:=I.eHi k (Nat.le_refl _) e
   obtain⟨x,hx,hxE⟩:=hE
   obtain⟨y,hy,hyE⟩:=e
   have hok:∃oi,ops[k]?=some oi:=by
    have:k<ops.size:=by rw[←c.len];omega
    exact⟨ops[k],Array.getElem?_eq_getElem this⟩
   obtain⟨oi,hoi⟩:=hok
   rcases c.pairs k j oi o y x h hoi ho hy hx with q|⟨q,_⟩
   ·exact hnl (hbef k q)
   ·exact q ⟨hyE,hxE⟩
 ·omega
theorem zDe (c:DCtx P cf N ops l T H) (hpre:∀A,(H 0).next≤A→A<(H l.length).next→ρ0 A=none):∀ (n m:Nat),l.length - m=n→m≤l.length→HWF (H m)→HRel P base ρ (H m) w →
  (∀i b mk,i<m→zo l T i b mk→¬listed i→ρ (H i).next=none∧zCL (H m) (H i).next b) →
  (∀A,(H m).next≤A→A<(H l.length).next→(∀i b mk,m≤i→zo l T i b mk→listed i→(H i).next≠A)→ρ A=none) →
  (∀i b mk,m≤i→zo l T i b mk→listed i→Pend base ρ w (H i).next b) →
  ExtB base (H 0).next (H l.length).next ρ0 (H 0) w0 ρ (H m) w →
  ∃k,m≤k∧k≤l.length∧(k=l.length∨IsE l k)∧(∀i,m≤i→i<k→¬IsE l i)∧HWF (H k)∧HRel P base ρ (H k) w ∧
   (∀i b mk,i<k→zo l T i b mk→¬listed i→ρ (H i).next=none∧zCL (H k) (H i).next b) ∧
   (∀A,(H k).next≤A→A<(H l.length).next→(∀i b mk,k≤i→zo l T i b mk→listed i→(H i).next≠A)→ρ A=none) ∧
   (∀i b mk,k≤i→zo l T i b mk→listed i→Pend base ρ w (H i).next b)∧ExtB base (H 0).next (H l.length).next ρ0 (H 0) w0 ρ (H k) w
 | 0,m,hn,hm,wf,hr,hph,hout,hp,hx=>⟨m,Nat.le_refl _,hm,.inl (by omega),fun i h1 h2=>by omega,wf,hr,hph,hout,hp,hx⟩
 | n+1,m,hn,hm,wf,hr,hph,hout,hp,hx=>by
  have hml:m<l.length:=by omega
  by_cases hE:IsE l m
  ·exact⟨m,Nat.le_refl _,hm,.inr hE,fun i h1 h2=>by omega,wf,hr,hph,hout,hp,hx⟩
  ·rcases c.heap_next hml hE with ⟨he,hno⟩|⟨b,mk,hmk,he⟩
   ·have hne:∀i b mk,m≤i→zo l T i b mk→m+1≤i:=fun i b mk h1 h2=>by
     rcases Nat.lt_or_ge m i with h|h
     ·exact h
     ·obtain rfl:i=m:=by omega
      exact absurd h2 (hno b mk)
    have hne':∀i b mk,i<m+1→zo l T i b mk→i<m:=fun i b mk h1 h2=>by
     rcases Nat.lt_or_ge i m with h|h
     ·exact h
     ·obtain rfl:i=m:=by omega
      exact absurd h2 (hno b mk)
    obtain⟨k,q1,q2,q3,q4,q5⟩:=zDe c hpre n (m+1) (by omega) hml (by rw[he];exact wf) (by rw[he];exact hr) (fun i b mk h1 h2 h3=>by rw[he];exact hph i b mk (hne' i b mk h1 h2) h2 h3)
     (fun A h1 h2 h3=>hout A (by rw[he] at h1;exact h1) h2 fun i b mk h4 h5 h6=>h3 i b mk (hne i b mk h4 h5) h5 h6) (fun i b mk h1 h2 h3=>hp i b mk (by omega) h2 h3) (by rw[he];exact hx)
    exact⟨k,by omega,q2,q3,fun i h1 h2=>by
     rcases Nat.lt_or_ge m i with h|h
     ·exact q4 i h h2
     ·obtain rfl:i=m:=by omega
      exact hE,q5⟩
   ·have hnext:(H (m+1)).next=(H m).next+1:=by rw[he,zA5]
    have hle:=c.mono_next (i:=m+1) (j:=l.length) hml (Nat.le_refl _)
    have hfresh:=zCC (H m) b
    have hgets:∀A,A<(H m).next→(H (m+1)).blks.get A=(H m).blks.get A∧(H (m+1)).fams.get A=(H m).fams.get A:=fun A hA=>by
     rw[he];exact⟨by rw[zBq,if_neg (by omega)],zCk _ _ _ (by omega)⟩
    have hr':HRel P base ρ (H (m+1)) w:=by
     rw[he]
     by_cases hlm:listed m
     ·have:=hr.adopt (hp m b mk (Nat.le_refl _) hmk hlm) (wf.fresh _ (Nat.le_refl _)).1 (fun A cc hc=>by have:=(wf.fam A cc hc).1;omega)
      exact this.congr (fun A=>by rw[zBR]) (fun A=>by rw[zBR])
     ·have hρ:ρ (H m).next=none:=hout _ (Nat.le_refl _) (by omega) fun i b' mk' h1 h2 h3 e=>by
       rcases Nat.lt_or_ge m i with h|h
       ·have:=c.id_lt hmk h (Nat.le_of_lt (c.makes_next h2).1)
        omega
       ·obtain rfl:i=m:=by omega
        exact hlm h3
      exact (hr.phantom b hρ).congr (fun A=>by rw[zBR]) (fun A=>by rw[zBR])
    obtain⟨k,q1,q2,q3,q4,q5⟩:=zDe c hpre n (m+1) (by omega) hml (by rw[he];exact wf.push b) hr'
     (fun i b' mk' h1 h2 h3=>by
      rcases Nat.lt_or_ge i m with h|h
      ·obtain⟨p1,p2,p3⟩:=hph i b' mk' h h2 h3
       have hlt:=c.id_lt h2 h (by omega)
       exact⟨p1,by rw[(hgets _ hlt).1];exact p2,fun ll hll=>by rw[(hgets _ hlt).2];exact p3.1 ll hll,fun ll hll=>by rw[(hgets _ hlt).2];exact p3.2 ll hll⟩
      ·obtain rfl:i=m:=by omega
       obtain⟨rfl,rfl⟩:=zFN h2 hmk
       refine⟨hout _ (Nat.le_refl _) (by omega) fun i' b2 mk2 g1 g2 g3 e=>?_,by rw[he];exact hfresh⟩
       rcases Nat.lt_or_ge i i' with g|g
       ·have:=c.id_lt h2 g (Nat.le_of_lt (c.makes_next g2).1)
        omega
       ·obtain rfl:i'=i:=by omega
        exact h3 g3)
     (fun A h1 h2 h3=>hout A (by omega) h2 fun i b' mk' h4 h5 h6 e=>by
      rcases Nat.lt_or_ge m i with h|h
      ·exact h3 i b' mk' h h5 h6 e
      ·obtain rfl:i=m:=by omega
       omega)
     (fun i b' mk' h1 h2 h3=>hp i b' mk' (by omega) h2 h3) (hx.grow (by omega) hgets)
    exact⟨k,by omega,q2,q3,fun i h1 h2=>by
     rcases Nat.lt_or_ge m i with h|h
     ·exact q4 i h h2
     ·obtain rfl:i=m:=by omega
      exact hE,q5⟩
end
end Go.X
end
section
namespace Go.X
open Go.RowKit
inductive WithP (l:List XO) (T:Nat→Fr) (H:Nat→Heap) (ok:Nat→Prop) (h0:Heap):Nat→Heap→Prop where
 | nil (lb:Nat):WithP l T H ok h0 lb h0
 | cons {i lb:Nat} {b:NBlk} {mk:Mk} {g:Heap}:WithP l T H ok h0 (i+1) g→lb≤i→ok i→zo l T i b mk→WithP l T H ok h0 lb (g.pushAt (H i).next b)
section
variable {P:Program} {cf:CallF} {N:Nat} {ops:Array Oper} {l:List XO} {T:Nat→Fr} {H:Nat→Heap} {base:Nat} {D:List Deferred} {ρ0 ρ:Ren} {w0 w:World} {listed:Nat→Prop} {a:Act} {k:Nat}
theorem WithP.rel (c:DCtx P cf N ops l T H) (wf:HWF (H k)) (hr:HRel P base ρ (H k) w) {ok:Nat→Prop} (hp:∀i b mk,ok i→zo l T i b mk→k≤i∧Pend base ρ w (H i).next b) {lb:Nat} {g:Heap} (hg:WithP l T H ok (H k) lb g) :
  HRel P base ρ g w∧(∀A,(H k).next≤A→A<(H lb).next→lb≤l.length→g.blks.get A=none)∧(∀A q,g.blks.get A=some (.cells q)→q.fam<(H k).next∨(lb≤l.length→(H lb).next≤q.fam)):=by
 induction hg with
 | nil lb=>exact⟨hr,fun A h1 _ _=>(wf.fresh A h1).1,fun A q hq=>.inl (wf.fam A q hq).1⟩
 | @cons i lb b mk g _ hlb hok hmk ih =>
  obtain⟨h1,h2,h3⟩:=ih
  obtain⟨hki,hpe⟩:=hp i b mk hok hmk
  obtain⟨hil,hnx⟩:=c.makes_next hmk
  have hn1:(H (i+1)).next=(H i).next+1:=by rw[hnx,zA5]
  have hk:=c.mono_next hki (Nat.le_of_lt hil)
  have hl:=c.mono_next hlb (Nat.le_of_lt hil)
  refine⟨h1.adopt hpe (h2 _ hk (by omega) hil) (fun A q hq=>?_),fun A g1 g2 g3=>?_,fun A q hq=>?_⟩
  ·rcases h3 A q hq with h|h
   ·omega
   ·have:=h hil;omega
  ·rw[zCj,if_neg (by omega)]
   exact h2 A g1 (by omega) hil
  ·rw[zCj] at hq
   split at hq
   ·cases b with
    | cells vs=>cases hq;exact .inr fun _=>hl
    | bytes vs=>cases hq;exact .inr fun _=>hl
    | map=>cases hq
   ·rcases h3 A q hq with h|h
    ·exact .inl h
    ·exact .inr fun _=>by have:=h hil;omega
theorem Inv.slots_more (c:DCtx P cf N ops l T H) (I:Inv P base N ops l T H D ρ0 w0 listed a w ρ k) {ρ':Ren} (hm:∀A q,ρ A=some q→ρ' A=some q) {j:Nat} {o:Oper} {x:XO} (ho:ops[j]?=some o) (hx:l[j]?=some x) (hxd:x.dst=o.dst) (hj:¬listed j)
  (hbef:∀i,((zf ops.toList []).getD j 0).testBit i=true→listed i) {v v':Value} (hT:T (j+1)=(T j).put o.dst v) (hv:VRel ρ' v v') :
  (a.put o.dst v').tmps.size=N∧(∀d,∃m,m≤l.length∧VRel ρ' ((T m).get d) ((a.put o.dst v').tmps.getD d undef)∧(∀i y,i<m→l[i]?=some y→y.dst=some d→more listed j i)∧(∀i y,m≤i→l[i]?=some y→y.dst=some d→¬more listed j i)):=by
 have hjl:j<l.length:=(List.getElem?_eq_some_iff.1 hx).1
 have hopat:∀i y,l[i]?=some y→∃oi,ops[i]?=some oi:=fun i y hy=>by
  have:i<ops.size:=by rw[←c.len];exact (List.getElem?_eq_some_iff.1 hy).1
  exact⟨ops[i],Array.getElem?_eq_getElem this⟩
 refine⟨by have:=I.size;cases hd:o.dst<;>simp[Act.put,this],fun d=>?_⟩
 by_cases hd:o.dst=some d
 ·refine⟨j+1,hjl,?_,?_,?_⟩
  ·rw[hT,hd]
   simp only[Fr.put,Act.put,Fr.get_set,if_true]
   have hdN:=c.dst j o d ho hd
   have:=I.size
   simp[Array.getD_eq_getD_getElem?,this,hdN,hv]
  ·intro i y hi hy hyd
   rcases Nat.lt_or_ge i j with hlt|hge
   ·obtain⟨oi,hoi⟩:=hopat i y hy
    rcases c.pairs i j oi o y x hlt hoi ho hy hx with q|⟨_,q,_⟩
    ·exact .inr (hbef i q)
    ·exact absurd (by rw[hxd];exact hd) (q d hyd).2
   ·exact .inl (by omega)
  ·intro i y hi hy hyd hmo
   rcases hmo with rfl|hl
   ·omega
   ·obtain⟨oi,hoi⟩:=hopat i y hy
    rcases c.pairs j i o oi x y (by omega) ho hoi hx hy with q|⟨_,q,_⟩
    ·exact hj (I.closed j i hl q)
    ·exact (q d (by rw[hxd];exact hd)).2 hyd
 ·obtain⟨m,h1,h2,h3,h4⟩:=I.slots d
  refine⟨m,h1,?_,fun i y hi hy hyd=>.inr (h3 i y hi hy hyd),fun i y hi hy hyd hmo=>?_⟩
  ·have:(a.put o.dst v').tmps.getD d undef=a.tmps.getD d undef:=by
    cases hdd:o.dst with
    | none=>rfl
    | some d' =>
     simp only[Act.put,Array.getD_eq_getD_getElem?]
     rw[Array.getElem?_setIfInBounds_ne (fun e=>hd (by rw[hdd,e]))]
   rw[this]
   exact h2.mono hm
  ·rcases hmo with rfl|hl
   ·rw[hx] at hy;cases hy
    rw[hxd] at hyd;exact hd hyd
   ·exact h4 i y hi hy hyd hl
theorem zFQ (I:Inv P base N ops l T H D ρ0 w0 listed a w ρ k) {j:Nat} (hbef:∀i,((zf ops.toList []).getD j 0).testBit i=true→listed i):∀i j',more listed j j'→((zf ops.toList []).getD j' 0).testBit i=true→more listed j i:=by
 rintro i j' (rfl|h) hb
 ·exact .inr (hbef i hb)
 ·exact .inr (I.closed i j' h hb)
theorem Inv.still (c:DCtx P cf N ops l T H) (I:Inv P base N ops l T H D ρ0 w0 listed a w ρ k) {j:Nat} {o:Oper} {x:XO} (ho:ops[j]?=some o) (hx:l[j]?=some x) (hxd:x.dst=o.dst) (hj:¬listed j)
  (hbef:∀i,((zf ops.toList []).getD j 0).testBit i=true→listed i) (hE:¬IsE l j) (hM:∀b mk,¬zo l T j b mk) {v v':Value} (hT:T (j+1)=(T j).put o.dst v) (hv:VRel ρ v v') :
  Inv P base N ops l T H D ρ0 w0 (more listed j) (a.put o.dst v') w ρ k:=by
 obtain⟨s1,s2⟩:=I.slots_more c (fun _ _ h=>h) ho hx hxd hj hbef hT hv
 have hmk:∀i b mk,zo l T i b mk→more listed j i→listed i:=fun i b mk h1 h2=>by
  rcases h2 with rfl|h2
  ·exact absurd h1 (hM b mk)
  ·exact h2
 exact⟨zFQ I hbef,I.kle,I.kE,fun i h1 h2=>.inr (I.eLo i h1 h2),fun i h1 h2 h3=>by
   rcases h3 with rfl|h3
   ·exact hE h2
   ·exact I.eHi i h1 h2 h3,
  I.wf,I.rel,fun i b mk h1 h2 h3=>I.phan i b mk h1 h2 (fun q=>h3 (.inr q)),fun A h1 h2 h3=>I.out A h1 h2 fun i b mk h4 h5 h6=>h3 i b mk h4 h5 (.inr h6),
  fun i b mk h1 h2 h3=>I.pend i b mk h1 h2 (hmk i b mk h2 h3),s1,s2,by rw[←I.defs];cases o.dst<;>rfl,I.ext⟩
theorem Pend.mono {ρ':Ren} {w':World} {id:Nat} {b:NBlk} (h:Pend base ρ w id b) (hm:∀A q,ρ A=some q→ρ' A=some q) (hh:∀L,ρ id=some L→w'.heap[L.b]?=w.heap[L.b]?) (hd:∀L A L',ρ id=some L→ρ' A=some L'→ρ A=none→L'.b≠L.b):Pend base ρ' w' id b:=by
 obtain⟨L,obj,h1,h2,h3,h4,h5,h6,h7⟩:=h
 refine⟨L,obj,hm _ _ h1,h2,by rw[hh L h1];exact h3,h4.mono hm,h5,h6,fun A L' hA hne=>?_⟩
 cases hq:ρ A with
 | none=>exact hd L A L' h1 hA hq
 | some m =>
  have:m=L':=by have:=hm A m hq;rw[hA] at this;exact (Option.some.inj this).symm
  subst this
  exact h7 A m hq hne
theorem Inv.made (c:DCtx P cf N ops l T H) (I:Inv P base N ops l T H D ρ0 w0 listed a w ρ k) {j:Nat} {o:Oper} {x:XO} (ho:ops[j]?=some o) (hx:l[j]?=some x) (hxd:x.dst=o.dst) (hj:¬listed j)
  (hbef:∀i,((zf ops.toList []).getD j 0).testBit i=true→listed i) {b:NBlk} {mk:Mk} (hM:zo l T j b mk) (hpre0:∀A,(H 0).next≤A→A<(H l.length).next→ρ0 A=none) {obj:Obj} {v':Value} {w':World} (q2:w'.heap=w.heap.push obj) (q3:w'.os=w.os) (q4:w'.tape=w.tape) (q5:w'.output=w.output) (q6:ObjOK ρ b obj)
  (q7:∀ (ρ':Ren) (id:Nat),ρ' id=some ⟨w.heap.size,0,zAC obj⟩→VRel ρ' (mk.val id) v') (hT:T (j+1)=(T j).put o.dst (mk.val (H j).next)) :
  Inv P base N ops l T H D ρ0 w0 (more listed j) (a.put o.dst v') w' (upd ρ (H j).next ⟨w.heap.size,0,zAC obj⟩) k:=by
 obtain⟨hjl,hnx⟩:=c.makes_next hM
 have hE:=zD5 hM
 have hn1:(H (j+1)).next=(H j).next+1:=by rw[hnx,zA5]
 have hlast:=c.mono_next (i:=j+1) (j:=l.length) hjl (Nat.le_refl _)
 have hfirst:=c.mono_next (i:=0) (j:=j) (Nat.zero_le _) (Nat.le_of_lt hjl)
 have hid:∀i b' mk',zo l T i b' mk'→i≠j→(H i).next≠(H j).next:=fun i b' mk' h1 h2=>by
  rcases Nat.lt_or_ge i j with h|h
  ·have:=c.id_lt h1 h (Nat.le_of_lt hjl);omega
  ·have:=c.id_lt hM (show j<i by omega) (Nat.le_of_lt (c.makes_next h1).1);omega
 have hρ:ρ (H j).next=none:=by
  rcases Nat.lt_or_ge j k with h|h
  ·exact (I.phan j b mk h hM hj).1
  ·refine I.out _ (c.mono_next h (Nat.le_of_lt hjl)) (by omega) fun i b' mk' h1 h2 h3 e=>?_
   exact hid i b' mk' h2 (fun e=>hj (e▸h3)) e
 have hm:=zBU (l:=⟨w.heap.size,0,zAC obj⟩) hρ
 obtain⟨s1,s2⟩:=I.slots_more c hm ho hx hxd hj hbef hT (q7 _ _ z8)
 have hnew:=zFA q2
 have hsz:w'.heap.size=w.heap.size+1:=by rw[q2];simp
 have hcase:∀A L,upd ρ (H j).next ⟨w.heap.size,0,zAC obj⟩ A=some L→(A=(H j).next∧L=⟨w.heap.size,0,zAC obj⟩)∨(A≠(H j).next∧ρ A=some L):=fun A L hA=>by
  by_cases e:A=(H j).next
  ·subst e;rw[z8] at hA;exact .inl ⟨rfl,(Option.some.inj hA).symm⟩
  ·rw[zl e] at hA;exact .inr ⟨e,hA⟩
 have hrel:HRel P base (upd ρ (H j).next ⟨w.heap.size,0,zAC obj⟩) (H k) w':=by
  rcases Nat.lt_or_ge j k with h|h
  ·exact I.rel.real q2 (I.phan j b mk h hM hj).2 hρ q6
  ·
   have hge:=c.mono_next h (Nat.le_of_lt hjl)
   have hno:=I.wf.fresh (H j).next hge
   have hr:=I.rel
   have hold:∀A L,ρ A=some L→w'.heap[L.b]?=w.heap[L.b]?:=fun A L hA=>zAW q2 (hr.bnd A L hA)
   have hlt:∀A bb,(H k).blks.get A=some bb→A≠(H j).next:=fun A bb hb e=>by rw[e,hno.1] at hb;cases hb
   have hback:∀A L bb,(H k).blks.get A=some bb→upd ρ (H j).next ⟨w.heap.size,0,zAC obj⟩ A=some L→ρ A=some L:=fun A L bb hb hA=>by rwa [zl (hlt A bb hb)] at hA
   refine⟨by have:=hr.le;omega,?_,?_,?_,?_,?_,?_,zDb hr.fin,fun A q f L hq hf h0 hro hL=>(hr.mark A q f L hq hf h0 hro (hback A L _ (okCells_iff.1 hq).1 hL)).same (hold A L (hback A L _ (okCells_iff.1 hq).1 hL)),
    hr.loops.step hm (fun A r l h1 _ h2=>⟨h1,hback A l _ h1 h2⟩) (fun i q hq _=>(zAW q2 (Array.getElem?_eq_some_iff.1 hq).1).trans hq)
    (fun A l h1 h2=>by obtain⟨c,k1,k2⟩:=h1;exact .inr ⟨⟨c,k1,k2⟩,hback A l _ k1 h2⟩) (fun A l es st es' cl h1 h2 h3=>.inr ⟨es,h1,hback A l _ h1 h2,by rw[←hold A l (hback A l _ h1 h2)];exact h3⟩)⟩
   ·intro A L hA
    rcases hcase A L hA with ⟨_,rfl⟩|⟨_,hA2⟩
    ·simp[hsz]
    ·have:=hr.bnd A L hA2;omega
   ·intro A q hq hs
    rw[zl (hlt A _ hq)] at hs
    obtain⟨L,hL⟩:=Option.isSome_iff_exists.1 (hr.found A q hq hs)
    rw[hm _ _ hL];rfl
   ·intro A q L hq hL
    obtain⟨cs,Tt,fz,g1,g2,g3,g4,g5⟩:=hr.cells A q L hq (hback A L _ (okCells_iff.1 hq).1 hL)
    exact⟨cs,Tt,fz,by rw[hold A L (hback A L _ (okCells_iff.1 hq).1 hL)];exact g1,g2,g3,g4.mono hm,g5⟩
   ·intro A B q r L M hAB hq hr' hL hM'
    exact hr.alias A B q r L M hAB hq hr' (hback A L _ (okCells_iff.1 hq).1 hL) (hback B M _ (okCells_iff.1 hr').1 hM')
   ·intro A L es st hes hL
    obtain⟨es',cl,g1,g2,g3⟩:=hr.maps A L es st hes (hback A L _ hes hL)
    exact⟨es',cl,by rw[hold A L (hback A L _ hes hL)];exact g1,g2,g3.mono fun a b hab=>⟨hab.1.mono hm,hab.2.mono hm⟩⟩
   ·intro A B es st fs su L M hAB h1 h2 hL hM'
    exact hr.malias A B es st fs su L M hAB h1 h2 (hback A L _ h1 hL) (hback B M _ h2 hM')
 refine⟨zFQ I hbef,I.kle,I.kE,fun i h1 h2=>.inr (I.eLo i h1 h2),fun i h1 h2 h3=>?_,I.wf,hrel,?_,?_,?_,s1,s2,by rw[←I.defs];cases o.dst<;>rfl,?_⟩
 ·rcases h3 with rfl|h3
  ·exact hE h2
  ·exact I.eHi i h1 h2 h3
 ·intro i b' mk' h1 h2 h3
  obtain⟨p1,p2⟩:=I.phan i b' mk' h1 h2 (fun q=>h3 (.inr q))
  exact⟨by rw[zl (hid i b' mk' h2 (fun e=>h3 (.inl e)))];exact p1,p2⟩
 ·intro A h1 h2 h3
  by_cases e:A=(H j).next
  ·rcases Nat.lt_or_ge j k with h|h
   ·have:=c.id_lt hM h I.kle;omega
   ·exact absurd e.symm (h3 j b mk h hM (.inl rfl))
  ·rw[zl e]
   exact I.out A h1 h2 fun i b' mk' h4 h5 h6=>h3 i b' mk' h4 h5 (.inr h6)
 ·intro i b' mk' h1 h2 h3
  rcases h3 with rfl|h3
  ·obtain⟨rfl,_⟩:=zFN h2 hM
   refine⟨⟨w.heap.size,0,zAC obj⟩,obj,z8,rfl,hnew,q6.mono hm,rfl,I.rel.le,fun A L' hA hne=>?_⟩
   rcases hcase A L' hA with ⟨e,_⟩|⟨_,hA2⟩
   ·exact absurd e hne
   ·have:=I.rel.bnd A L' hA2
    simp only;omega
  ·refine (I.pend i b' mk' h1 h2 h3).mono hm (fun L hL=>zAW q2 (I.rel.bnd _ L hL)) (fun L A L' hL hA hn=>?_)
   rcases hcase A L' hA with ⟨_,rfl⟩|⟨_,hA2⟩
   ·have:=I.rel.bnd _ L hL
    simp only;omega
   ·rw[hn] at hA2;cases hA2
 ·refine ExtB.trans (lo':=(H 0).next) (hi':=(H l.length).next) I.wf ?_ (c.mono_next I.kle (Nat.le_refl _)) I.ext ?_ (Nat.le_refl _) (Nat.le_refl _)
  ·exact hpre0
  ·refine⟨hm,fun A hA=>?_,Nat.le_refl _,fun _ _ h=>h,fun _ _ _=>⟨rfl,rfl⟩,zDj I.rel.le q2 q3 q4 q5,fun r hr _=>zAW q2 hr,fun A L hA hn=>?_⟩
   ·by_cases e:A=(H j).next
    ·subst e;omega
    ·exact absurd (zl e) hA
   ·rcases hcase A L hA with ⟨_,rfl⟩|⟨_,hA2⟩
    ·exact .inl (Nat.le_refl _)
    ·rw[hn] at hA2;cases hA2
end
end Go.X
end
section
namespace Go.X
open Go.RowKit
section
variable {P:Program} {cf:CallF} {N:Nat} {ops:Array Oper} {l:List XO} {T:Nat→Fr} {H:Nat→Heap} {base:Nat} {D:List Deferred} {ρ0 ρ:Ren} {w0 w:World} {listed:Nat→Prop} {a:Act} {k:Nat}
theorem Inv.wrote (c:DCtx P cf N ops l T H) (I:Inv P base N ops l T H D ρ0 w0 listed a w ρ k) (hpre0:∀A,(H 0).next≤A→A<(H l.length).next→ρ0 A=none)
  {o:Oper} {x:XO} (ho:ops[k]?=some o) (hx:l[k]?=some x) (hxd:x.dst=o.dst) (hj:¬listed k) (hE:IsE l k)
  (hbef:∀i,((zf ops.toList []).getD k 0).testBit i=true→listed i) {v v':Value} {w':World} {ρ':Ren} (hT:T (k+1)=(T k).put o.dst v)
  (q1:HRel P base ρ' (H (k+1)) w') (q2:HWF (H (k+1))) (q3:Ext base ρ (H k) w ρ' (H (k+1)) w') (q4:VRel ρ' v v') :
  ∃k',Inv P base N ops l T H D ρ0 w0 (more listed k) (a.put o.dst v') w' ρ' k':=by
 have hkl:k<l.length:=(List.getElem?_eq_some_iff.1 hx).1
 have hnE:∀ {i b mk},zo l T i b mk→i≠k:=fun h e=>zD5 h (by rw[e];exact hE)
 have hmo:∀ {i b mk},zo l T i b mk→more listed k i→listed i:=fun h1 h2=>by
  rcases h2 with h|h
  ·exact absurd h (hnE h1)
  ·exact h
 have hsame:∀A,A<(H k).next→ρ' A=ρ A:=fun A hA=>by
  rcases Classical.em (ρ' A=ρ A) with e|e
  ·exact e
  ·have:=q3.new A e;omega
 obtain⟨k',p1,p2,p3,p4,p5,p6,p7,p8,p9,p10⟩:=zDe (w:=w') (ρ:=ρ') (listed:=more listed k) (w0:=w0) c hpre0 _ (k+1) rfl hkl q2 q1
  (fun i b mk h1 h2 h3=>by
   have hik:i<k:=by have:=hnE h2;omega
   obtain⟨r1,r2,r3⟩:=I.phan i b mk hik h2 (fun q=>h3 (.inr q))
   have hlt:=c.id_lt h2 hik (Nat.le_of_lt hkl)
   obtain⟨r4,r5⟩:=q3.phan _ hlt r1
   exact⟨by rw[hsame _ hlt];exact r1,by rw[r4];exact r2,fun ll hll=>by rw[r5];exact r3.1 ll hll,fun ll hll=>by rw[r5];exact r3.2 ll hll⟩)
  (fun A h1 h2 h3=>by
   have:ρ' A=ρ A:=by
    rcases Classical.em (ρ' A=ρ A) with e|e
    ·exact e
    ·have:=q3.new A e;omega
   rw[this]
   refine I.out A (by have:=q3.next;omega) h2 fun i b mk h4 h5 h6=>h3 i b mk ?_ h5 (.inr h6)
   have:=hnE h5;omega)
  (fun i b mk h1 h2 h3=>by
   have hp:=I.pend i b mk (by omega) h2 (hmo h2 h3)
   have hge:(H k).next≤(H i).next:=c.mono_next (by omega) (Nat.le_of_lt (c.makes_next h2).1)
   have hno:(H k).blks.get (H i).next=none:=(I.wf.fresh _ hge).1
   obtain⟨L0,obj,g1,g2,g3,g4,g5,g6,g7⟩:=hp
   have hap:∀A L',ρ A=some L'→((H k).blks.get A).isSome→L'.b≠L0.b:=fun A L' hA hs=>g7 A L' hA (fun e=>by rw[e,hno] at hs;cases hs)
   refine Pend.mono ⟨L0,obj,g1,g2,g3,g4,g5,g6,g7⟩ q3.mono (fun L hL=>?_) (fun L A L' hL hA hn=>?_)
   ·rw[g1] at hL;cases hL
    exact q3.frame _ (I.rel.bnd _ _ g1) hap
   ·rw[g1] at hL;cases hL
    rcases q3.newb A L' hA hn with h|⟨B,m,hB,hs,hm⟩
    ·have:=I.rel.bnd _ _ g1;omega
    ·rw[←hm];exact hap B m hB hs)
  (ExtB.trans I.wf hpre0 (c.mono_next I.kle (Nat.le_refl _)) I.ext q3.toB (c.mono_next (Nat.zero_le k) I.kle) (c.mono_next hkl (Nat.le_refl _)))
 obtain⟨s1,s2⟩:=I.slots_more c q3.mono ho hx hxd hj hbef hT q4
 refine⟨k',zFQ I hbef,p2,p3,fun i h1 h2=>?_,fun i h1 h2 h3=>?_,p5,p6,p7,p8,p9,s1,s2,by rw[←I.defs];cases o.dst<;>rfl,p10⟩
 ·rcases Nat.lt_or_ge i k with h|h
  ·exact .inr (I.eLo i h h2)
  ·rcases Nat.lt_or_ge k i with g|g
   ·exact absurd h2 (p4 i g h1)
   ·exact .inl (by omega)
 ·rcases h3 with h|h
  ·omega
  ·exact I.eHi i (by omega) h2 h
mutual
theorem zEL:∀ {v v':Value},zc v v'=true→v=v'
 | .bool a,v',h=>by cases v'<;>simp only[zc] at h<;>first|cases h;done|(rw[eq_of_beq h])
 | .int k a,v',h=>by
  cases v'<;>simp only[zc] at h<;>first|cases h;done|skip
  simp only[Bool.and_eq_true,decide_eq_true_eq,beq_iff_eq] at h
  rw[h.1,h.2]
 | .string a,v',h=>by
  cases v'<;>simp only[zc] at h<;>first|cases h;done|skip
  rename_i b
  have h:=eq_of_beq h
  obtain⟨⟨a⟩⟩:=a
  obtain⟨⟨b⟩⟩:=b
  simp only at h
  rw[h]
 | .pointer a,v',h=>by cases v'<;>simp only[zc] at h<;>first|cases h;done|(rw[eq_of_beq h])
 | .slice a l c,v',h=>by
  cases v'<;>simp only[zc] at h<;>first|cases h;done|skip
  simp only[Bool.and_eq_true,beq_iff_eq] at h
  rw[h.1.1,h.1.2,h.2]
 | .map a,v',h=>by cases v'<;>simp only[zc] at h<;>first|cases h;done|(rw[eq_of_beq h])
 | .nilFunc,v',h=>by cases v'<;>simp only[zc] at h<;>first|cases h;done|rfl
 | .nilIface,v',h=>by cases v'<;>simp only[zc] at h<;>first|cases h;done|rfl
 | .iface t v,v',h=>by
  cases v'<;>simp only[zc] at h<;>first|cases h;done|skip
  simp only[Bool.and_eq_true,beq_iff_eq] at h
  rw[h.1,zEL h.2]
 | .func f a b,v',h=>by
  cases v'<;>simp only[zc] at h<;>first|cases h;done|skip
  simp only[Bool.and_eq_true,decide_eq_true_eq] at h
  rw[h.1.1,zEJ h.1.2,zEJ h.2]
 | .agg a,v',h=>by cases v'<;>simp only[zc] at h<;>first|cases h;done|(rw[zEJ h])
 | .tuple a,v',h=>by cases v'<;>simp only[zc] at h<;>first|cases h;done|(rw[zEJ h])
 | .float k a,v',h=>by
  cases v'<;>simp only[zc] at h<;>first|cases h;done|skip
  simp only[Bool.and_eq_true,decide_eq_true_eq,beq_iff_eq] at h
  rw[h.1,h.2]
 | .complex k a c,v',h=>by
  cases v'<;>simp only[zc] at h<;>first|cases h;done|skip
  simp only[Bool.and_eq_true,decide_eq_true_eq,beq_iff_eq] at h
  rw[h.1.1,h.1.2,h.2]
 | .chan a,v',h=>by cases v'<;>simp only[zc] at h<;>first|cases h;done|(rw[eq_of_beq h])
theorem zEJ:∀ {v v':Array Value},zBt v v'=true→v=v'
 | ⟨a⟩,⟨b⟩,h=>by simp only[zBt] at h;rw[zIS h]
theorem zIS:∀ {v v':List Value},zBv v v'=true→v=v'
 | [],[],_=>rfl
 | a::asx,b::bs,h=>by
  simp only[zBv,Bool.and_eq_true] at h
  rw[zEL h.1,zIS h.2]
 | [],_::_,h=>by simp[zBv] at h
 | _::_,[],h=>by simp[zBv] at h
end
theorem WithP.weaken {ok:Nat→Prop} {h0 g:Heap} {lb lb':Nat} (h:WithP l T H ok h0 lb g) (hl:lb'≤lb):WithP l T H ok h0 lb' g:=by
 cases h with
 | nil=>exact .nil _
 | cons h1 h2 h3 h4=>exact .cons h1 (by omega) h3 h4
theorem zIt {tr:List (Fr×Heap)} {ok:Nat→Prop} {h0:Heap}:∀ (is:List Nat) (lb:Nat),is.Pairwise (· < ·)→(∀i∈is,lb≤i∧ok i)→WithP l (Tf tr) (Hf tr) ok h0 lb (zAf l tr is h0)
 | [],lb,_,_=>.nil lb
 | i::is,lb,hp,hi=>by
  obtain⟨hp1,hp2⟩:=List.pairwise_cons.1 hp
  obtain⟨hlb,hok⟩:=hi i (by simp)
  have ih:=zIt (tr:=tr) (ok:=ok) (h0:=h0) is (i+1) hp2 fun j hj=>⟨hp1 j hj,(hi j (by simp[hj])).2⟩
  have ih':=ih.weaken (lb':=lb) (by omega)
  simp only[zAf]
  split
  ·rename_i o t hh hl htr
   split
   ·rename_i op hop
    cases hw:zq t o.guard with
    | false=>exact ih'
    | true =>
     simp only[cond_true]
     split
     ·rename_i b mk hal
      have hT:Tf tr i=t:=by simp[Tf,htr]
      have hH:Hf tr i=hh:=by simp[Hf,htr]
      rw[←hH]
      exact .cons ih hlb hok ⟨o,op,hl,hop,by rw[hT];exact hw,by rw[hT];exact hal⟩
     ·exact ih'
   ·exact ih'
  ·exact ih'
theorem mem_placesE {k:Nat}:k∈zBp l↔IsE l k∨k=l.length:=by
 unfold zBp IsE
 simp only[List.mem_append,List.mem_filter,List.mem_range,List.mem_singleton]
 refine or_congr ⟨fun⟨h1,h2⟩=>?_,fun⟨x,h1,h2⟩=>⟨(List.getElem?_eq_some_iff.1 h1).1,by rw[h1];exact h2⟩⟩ Iff.rfl
 rw[List.getElem?_eq_getElem h1] at h2
 exact⟨l[k],List.getElem?_eq_getElem h1,h2⟩
theorem Inv.reads {tr:List (Fr×Heap)} (c:DCtx P cf N ops l (Tf tr) (Hf tr)) (htr:tr.length=l.length+1) (hchk:zAN l tr (zAd l (zf ops.toList []))=true) (I:Inv P base N ops l (Tf tr) (Hf tr) D ρ0 w0 listed a w ρ k)
  {j:Nat} {x:XO} {ro:ROp} (hx:l[j]?=some x) (hxo:x.op=.r ro) (hj:¬listed j) (hbef:∀i,((zf ops.toList []).getD j 0).testBit i=true→listed i) (hw:zq (Tf tr j) x.guard=true) {v:Value} (hv:zh (Tf tr j) (Hf tr j) ro=some v) :
  ∃g,HRel P base ρ g w∧zh (Tf tr j) g ro=some v:=by
 have hjl:j<l.length:=(List.getElem?_eq_some_iff.1 hx).1
 have hkin:k∈zBp l:=mem_placesE.2 (I.kE.symm)
 have hmay:mayAt (zf ops.toList []) (zBp l) l.length j k=true:=by
  unfold mayAt
  rw[List.all_eq_true]
  intro e he
  split
  ·rfl
  ·rename_i hne
   have hE:IsE l e:=(mem_placesE.1 he).resolve_right hne
   split
   ·rename_i hlt
    have:=I.eLo e hlt hE
    cases hb:((zf ops.toList []).getD e 0).testBit j with
    | false=>rfl
    | true=>exact absurd (I.closed j e this hb) hj
   ·rename_i hge
    have:=I.eHi e (by omega) hE
    cases hb:((zf ops.toList []).getD j 0).testBit e with
    | false=>rfl
    | true=>exact absurd (hbef e hb) this
 by_cases hn:(zDK (zBp l) j k&&zDL l j k)=true
 ·refine⟨Hf tr k,I.rel,?_⟩
  rw[Bool.and_eq_true] at hn
  obtain⟨h1,h2⟩:=hn
  simp only[zDK,Bool.and_eq_true,List.all_eq_true,Bool.not_eq_true',Bool.and_eq_false_iff] at h1
  obtain⟨h1,h3⟩:=h1
  have hjk:j<k:=by simpa [Nat.blt_eq] using h1
  have hall:∀m,j≤m→m≤k→Hf tr m=Hf tr j:=by
   intro m hm
   induction hm with
   | refl=>intro _;rfl
   | @step m hm ih =>
    intro hmk
    have hml:m<l.length:=by have:=I.kle;omega
    have hnE:¬IsE l m:=fun hE=>by
     rcases Nat.lt_or_ge j m with q|q
     ·rcases h3 m (mem_placesE.2 (.inl hE)) with r|r
      ·exact absurd (show Nat.blt j m=true by rw[Nat.blt_eq];exact q) (by rw[r];simp)
      ·exact absurd (show Nat.blt m k=true by rw[Nat.blt_eq];exact hmk) (by rw[r];simp)
     ·obtain rfl:m=j:=Nat.le_antisymm q hm
      obtain⟨y,hy,hyE⟩:=hE
      rw[hx] at hy;cases hy
      rw[hxo] at hyE;cases hyE
    rcases c.heap_next hml hnE with ⟨q,_⟩|⟨b,mk,hM,_⟩
    ·rw[q];exact ih (Nat.le_of_lt hmk)
    ·exfalso
     obtain⟨y,ao,hy,hyo,_⟩:=hM
     unfold zDL at h2
     rw[List.all_eq_true] at h2
     have hmem:y∈(l.drop j).take (k - j):=by
      refine List.mem_of_getElem? (i:=m - j) ?_
      rw[List.getElem?_take,if_pos (by omega),List.getElem?_drop]
      rw[Nat.add_sub_cancel' hm];exact hy
     have:=h2 y hmem
     rw[hyo] at this;cases this
  rw[hall k (by omega) (Nat.le_refl _)]
  exact hv
 ·have hin:(j,k,zDQ l (zf ops.toList []) j k)∈zAd l (zf ops.toList []):=by
   unfold zAd
   simp only[List.mem_flatMap,List.mem_range]
   refine⟨j,hjl,?_⟩
   rw[hx]
   simp only[hxo,kindR,if_true,List.mem_map,List.mem_filter]
   refine⟨k,⟨hkin,?_⟩,rfl⟩
   simp only[hmay,Bool.true_and,Bool.not_eq_true']
   simpa using hn
  unfold zAN at hchk
  rw[List.all_eq_true] at hchk
  have hc:=hchk _ hin
  unfold zAG at hc
  have hgt:∀i,i≤l.length→tr[i]?=some (Tf tr i,Hf tr i):=fun i hi=>by
   have:i<tr.length:=by omega
   simp[Tf,Hf,List.getElem?_eq_getElem this]
  simp only[hx,hgt j (Nat.le_of_lt hjl),hgt k I.kle,hxo,hw,Bool.not_true,Bool.false_or,hv] at hc
  split at hc
  ·rename_i v1 v2 e1 e2
   cases e1
   have:=zEL hc
   subst this
   refine⟨_,?_,e2⟩
   have hW:WithP l (Tf tr) (Hf tr) (fun i=>k≤i∧listed i) (Hf tr k) 0 (zAf l tr (zDQ l (zf ops.toList []) j k) (Hf tr k)):=by
    refine zIt _ 0 ?_ ?_
    ·unfold zDQ
     exact List.Pairwise.sublist (List.filter_sublist) (List.pairwise_lt_range)
    ·intro i hi
     unfold zDQ at hi
     simp only[List.mem_filter,Bool.and_eq_true] at hi
     exact⟨Nat.zero_le _,Nat.le_of_ble_eq_true hi.2.1.1,hbef i hi.2.1.2⟩
   exact (WithP.rel c I.wf I.rel (fun i b mk hok hM=>⟨hok.1,I.pend i b mk hok.1 hM hok.2⟩) hW).1
  ·cases hc
theorem Inv.step {rd:Option Nat} {tr:List (Fr×Heap)} (c:DCtx P cf N ops l (Tf tr) (Hf tr)) (htr:tr.length=l.length+1) (hchk:zAN l tr (zAd l (zf ops.toList []))=true) (hpre0:∀A,(Hf tr 0).next≤A→A<(Hf tr l.length).next→ρ0 A=none)
  (I:Inv P base N ops l (Tf tr) (Hf tr) D ρ0 w0 listed a w ρ k) {j:Nat} {o:Oper} (ho:ops[j]?=some o) (hj:¬listed j) (hbef:∀i,((zf ops.toList []).getD j 0).testBit i=true→listed i)
  {next:Act→World→Prop} {Q:Exit→Act→World→Prop} (hn:∀a' w' ρ' k',Inv P base N ops l (Tf tr) (Hf tr) D ρ0 w0 (more listed j) a' w' ρ' k'→next a' w') :
  if Region.wanted o (yielded ops a.tmps) then o.wpIn (Wd rd) 0 P a w next Q else next (a.put o.dst undef) w:=by
 obtain⟨g,hx,hg⟩:=c.comp j o ho
 obtain⟨v,hs,hT⟩:=c.step j _ hx
 have hsl:=fun (d:Nat) (hd:d∈zAO o g)=>I.slot c ho hx hj hbef (d:=d) hd
 have hwe:Region.wanted o (yielded ops a.tmps)=zq (Tf tr j) g:=zOe (ρ:=ρ) (t:=Tf tr j) (fun s b e=>hsl s (by subst e;simp[zAO])) hg
 have hop:=I.operands c ho hx hj hbef
 rw[hwe]
 simp only[zm] at hs
 cases hw:zq (Tf tr j) g with
 | false =>
  rw[hw] at hs
  simp only[cond_false,Option.some.injEq,Prod.mk.injEq] at hs
  obtain⟨rfl,hH⟩:=hs
  simp only[Bool.false_eq_true,if_false]
  by_cases hE:IsE l j
  ·have hjk:=I.front c ho hE hj hbef
   subst hjk
   obtain⟨k',hI⟩:=I.wrote c hpre0 ho hx rfl hj hE hbef hT (w':=w) (ρ':=ρ) (v':=undef) (by rw[←hH];exact I.rel) (by rw[←hH];exact I.wf) (by rw[←hH];exact Ext.refl _ _ _ _) VRel.undef
   exact hn _ _ _ _ hI
  ·exact hn _ _ _ _ (I.still c ho hx rfl hj hbef hE (fun b mk hM=>by
    obtain⟨y,ao,h1,_,h3,_⟩:=hM
    rw[hx] at h1;cases h1
    rw[hw] at h3;cases h3) hT VRel.undef)
 | true =>
  rw[hw] at hs
  simp only[cond_true] at hs
  simp only[if_true]
  have hnm:∀ (q:XOp),opC P o=q→(∀ao,q≠.a ao)→∀b mk,¬zo l (Tf tr) j b mk:=fun q hq hne b mk hM=>by
   obtain⟨y,ao,h1,h2,_⟩:=hM
   rw[hx] at h1;cases h1
   rw[hq] at h2;exact hne ao h2
  have hnE:∀ (q:XOp),opC P o=q→zA2 q=false→¬IsE l j:=fun q hq hk hE=>by
   obtain⟨y,h1,h2⟩:=hE
   rw[hx] at h1;cases h1
   rw[hq,hk] at h2;cases h2
  have hwr:zA2 (opC P o)=true→o.wpIn (Wd rd) 0 P a w next Q:=fun hk=>by
   have hE:IsE l j:=⟨_,hx,hk⟩
   have hjk:=I.front c ho hE hj hbef
   subst hjk
   have hjl:j<l.length:=(List.getElem?_eq_some_iff.1 hx).1
   refine zIh c.hcf hop I.rel I.wf (fun A h1 h2=>?_) hs fun v' w' ρ' q1 q2 q3 q4=>?_
   ·have hnx:=c.mono_next (i:=j+1) (j:=l.length) hjl (Nat.le_refl _)
    refine I.out A h1 (by omega) fun i b mk h4 h5 _=>?_
    have hne:i≠j:=fun e=>zD5 h5 (by rw[e];exact hE)
    have:=c.mono_next (i:=j+1) (j:=i) (by omega) (Nat.le_of_lt (c.makes_next h5).1)
    omega
   ·obtain⟨k',hI⟩:=I.wrote c hpre0 ho hx rfl hj hE hbef hT q1 q2 q3 q4
    exact hn _ _ _ _ hI
  have hnd:=zHk hs
  cases hc:opC P o with
  | p po =>
   rw[hc] at hs
   simp only[zk] at hs
   split at hs
   ·rename_i v1 hv
    simp only[Option.some.injEq,Prod.mk.injEq] at hs
    obtain⟨rfl,_⟩:=hs
    obtain⟨v',h1,h2⟩:=zH9 (w:=w) hc hop hv
    refine zEV hnd ?_
    rw[h1]
    exact hn _ _ _ _ (I.still c ho hx rfl hj hbef (hnE _ hc rfl) (hnm _ hc (fun _ e=>by cases e)) hT h2)
   ·cases hs
  | r ro =>
   rw[hc] at hs
   simp only[zk] at hs
   split at hs
   ·rename_i v1 hv
    simp only[Option.some.injEq,Prod.mk.injEq] at hs
    obtain⟨rfl,_⟩:=hs
    obtain⟨gh,hr,hv'⟩:=I.reads c htr hchk hx hc hj hbef hw hv
    obtain⟨v',h1,h2⟩:=zIE (w:=w) hr hc hop hv'
    refine zEV hnd ?_
    rw[h1]
    exact hn _ _ _ _ (I.still c ho hx rfl hj hbef (hnE _ hc rfl) (hnm _ hc (fun _ e=>by cases e)) hT h2)
   ·cases hs
  | a ao =>
   rw[hc] at hs
   simp only[zk] at hs
   split at hs
   ·rename_i b mk hb
    simp only[Option.some.injEq,Prod.mk.injEq] at hs
    obtain⟨rfl,_⟩:=hs
    obtain⟨obj,v',w',h1,h2,h3,h4,h5,h6,h7⟩:=zGd (P:=P) (w:=w) hc hop hb
    refine zEV hnd ?_
    rw[h1]
    exact hn _ _ _ _ (I.made c ho hx rfl hj hbef ⟨_,ao,hx,hc,hw,hb⟩ hpre0 h2 h3 h4 h5 h6 h7 hT)
   ·cases hs
  | e eo=>exact hwr (by rw[hc];rfl)
  | call f args=>exact hwr (by rw[hc];rfl)
end
end Go.X
end
section
namespace Go.X
open Go.RowKit
section
variable {P:Program} {cf:CallF} {N:Nat} {ops:Array Oper} {l:List XO} {T:Nat→Fr} {H:Nat→Heap} {base:Nat} {D:List Deferred} {ρ0 ρ:Ren} {w0 w:World} {a:Act} {k:Nat}
theorem zHp:∀ {os:List Oper} {l:List XO},zAl P ops os=some l→l.length=os.length∧∀ (i:Nat) (o:Oper),os[i]?=some o→∃g,l[i]?=some (⟨o.dst,opC P o,g⟩:XO)∧zB5 ops o.guard=some g
 | [],l,h=>by cases h;exact⟨rfl,fun i o h=>by simp at h⟩
 | o::os,l,h=>by
  simp only[zAl] at h
  split at h
  ·rename_i x r hx hr
   cases h
   obtain⟨h1,h2⟩:=zHp hr
   refine⟨by simp[h1],fun i o' ho=>?_⟩
   cases i with
   | zero =>
    have:o=o':=by simpa using ho
    subst this
    simp only[operC] at hx
    split at hx
    ·rename_i g hg;cases hx;exact⟨g,rfl,hg⟩
    ·cases hx
   | succ i=>exact h2 i o' (by simpa using ho)
  ·cases h
theorem DCtx.of (hcf:CFOk P cf) {cs:List (Nat×Nat×List Nat)} (hd:zCU P ops=some (.draw l cs)) (h1:zBF N l=true) (h2:zBQ ops=true) {t:Fr} {h:Heap} {tr:List (Fr×Heap)} (htr:opsT cf l t h=some tr) :
  DCtx P cf N ops l (Tf tr) (Hf tr)∧cs=zAd l (zf ops.toList []):=by
 unfold zCU at hd
 split at hd
 ·rename_i l' hl
  dsimp only at hd
  split at hd
  ·rename_i hp
   cases hd
   rw[Bool.and_eq_true] at hp
   obtain⟨hp1,hp2⟩:=hp
   obtain⟨g1,g2⟩:=zHp hl
   have hto:∀ {i:Nat} {o:Oper},ops[i]?=some o→ops.toList[i]?=some o:=fun h=>by simpa using h
   have hlo:∀ {i:Nat} {o:Oper},ops[i]?=some o→i<ops.size:=fun h=>(Array.getElem?_eq_some_iff.1 h).1
   refine⟨⟨hcf,by simpa using g1,fun i o ho=>g2 i o (hto ho),?_,?_,?_,?_,(zDZ htr).2.2.2⟩,rfl⟩
   ·intro i o ho x hx
    unfold zBQ at h2
    rw[Array.all_eq_true] at h2
    have h3:=h2 i (hlo ho)
    have h4:ops[i]'(hlo ho)=o:=by
     rw[Array.getElem?_eq_getElem (hlo ho)] at ho;exact Option.some.inj ho
    rw[h4,Array.all_eq_true] at h3
    obtain⟨m,hm,rfl⟩:=Array.getElem_of_mem hx
    exact h3 m hm
   ·intro i o d ho hod
    obtain⟨g,hg,_⟩:=g2 i o (hto ho)
    unfold zBF at h1
    rw[List.all_eq_true] at h1
    have:=h1 _ (List.mem_of_getElem? hg)
    simp only[hod] at this
    exact Nat.le_of_ble_eq_true this
   ·intro j o ho e he hb
    rw[List.all_eq_true] at hp2
    have:=hp2 (o,j) (List.mem_of_getElem? (i:=j) (by rw[List.getElem?_zipIdx,hto ho];simp))
    simp only[Array.all_eq_true_iff_forall_mem] at this
    have h3:=this e (by simpa using he)
    rw[hb] at h3
    simpa using h3
   ·intro i j oi oj xi xj hij ho1 ho2 hx1 hx2
    unfold zED at hp1
    rw[List.all_eq_true] at hp1
    have h3:=hp1 j (by rw[List.mem_range];exact (List.getElem?_eq_some_iff.1 hx2).1)
    rw[List.all_eq_true] at h3
    have h4:=h3 i (by rw[List.mem_range];exact hij)
    simp only[ho1,ho2,hx1,hx2,Bool.or_eq_true,Bool.and_eq_true] at h4
    rcases h4 with h4|⟨⟨h4,h5⟩,h6⟩
    ·exact .inl h4
    ·refine .inr ⟨fun h=>by simp[h.1,h.2] at h4,fun d hd=>?_,fun d hd=>?_⟩
     ·rw[hd] at h5
      simp only[Bool.and_eq_true,Bool.not_eq_true',bne_iff_ne] at h5
      exact⟨fun hm=>by rw[List.contains_iff_mem.2 hm] at h5;simp at h5,h5.2⟩
     ·rw[hd] at h6
      simp only[Bool.not_eq_true'] at h6
      exact fun hm=>by rw[List.contains_iff_mem.2 hm] at h6;simp at h6
  ·cases hd
 ·cases hd
theorem DCtx.same (c:DCtx P cf N ops l T H) {d:Nat}:∀i1 i2,i1≤i2→i2≤l.length→(∀i y,i1≤i→i<i2→l[i]?=some y→y.dst≠some d)→(T i2).get d=(T i1).get d:=by
 intro i1 i2 h12
 induction h12 with
 | refl=>intro _ _;rfl
 | @step i2 h12 ih =>
  intro hl hn
  obtain⟨y,hy⟩:∃y,l[i2]?=some y:=⟨l[i2]'(by omega),List.getElem?_eq_getElem (by omega)⟩
  obtain⟨v,_,ht⟩:=c.step i2 y hy
  have hne:=hn i2 y h12 (by omega) hy
  rw[ht]
  have:((T i2).put y.dst v).get d=(T i2).get d:=by
   cases hyd:y.dst with
   | none=>rfl
   | some d' =>
    simp only[Fr.put,Fr.get_set]
    rw[if_neg (fun e=>hne (by rw[hyd,e]))]
  rw[this]
  exact ih (by omega) fun i z hi hi2 hz=>hn i z hi (by omega) hz
theorem Inv.init (c:DCtx P cf N ops l T H) (hpre0:∀A,(H 0).next≤A→A<(H l.length).next→ρ A=none) (hf:FRel ρ N (T 0) a.tmps) (hdef:a.defers=D) (hr:HRel P base ρ (H 0) w) (wf:HWF (H 0)) {listed:Nat→Prop} (hl:∀i,¬listed i) :
  ∃k,Inv P base N ops l T H D ρ w listed a w ρ k:=by
 have he:=Ext.refl base ρ (H 0) w
 obtain⟨k,p1,p2,p3,p4,p5,p6,p7,p8,p9,p10⟩:=zDe (w:=w) (ρ:=ρ) (listed:=listed) (w0:=w) c hpre0 _ 0 rfl (Nat.zero_le _) wf hr (fun i _ _ h=>by omega) (fun A h1 h2 _=>hpre0 A h1 h2) (fun i _ _ _ _ h=>absurd h (hl i))
  ⟨he.mono,fun A h=>absurd rfl h,he.next,he.keep,he.phan,he.below,he.frame,he.newb⟩
 exact⟨k,fun i j h=>absurd h (hl j),p2,p3,fun i h1 h2=>absurd h2 (p4 i (Nat.zero_le _) h1),fun i _ _=>hl i,p5,p6,p7,p8,p9,hf.size,fun d=>⟨0,Nat.zero_le _,hf.rel d,fun i _ h=>by omega,fun i _ _ _ _=>hl i⟩,hdef,p10⟩
theorem Inv.done (c:DCtx P cf N ops l T H) {listed:Nat→Prop} (I:Inv P base N ops l T H D ρ0 w0 listed a w ρ k) (hl:∀i,i<l.length→listed i) :
  FRel ρ N (T l.length) a.tmps∧a.defers=D∧HRel P base ρ (H l.length) w∧HWF (H l.length)∧Ext base ρ0 (H 0) w0 ρ (H l.length) w:=by
 have hk:k=l.length:=by
  rcases I.kE with h|h
  ·exact h
  ·have hlt:k<l.length:=by obtain⟨x,hx,_⟩:=h;exact (List.getElem?_eq_some_iff.1 hx).1
   exact absurd (hl k hlt) (I.eHi k (Nat.le_refl _) h)
 subst hk
 refine⟨⟨I.size,fun d=>?_⟩,I.defs,I.rel,I.wf,I.ext.toExt⟩
 obtain⟨m,h1,h2,_,h4⟩:=I.slots d
 rw[c.same m l.length h1 (Nat.le_refl _) fun i y hi hil hy hyd=>h4 i y hi hy hyd (hl i hil)]
 exact h2
theorem zM6 {l:List Bool} {i:Nat} (h:l[i]?=some false):(l.set i true).countP (!·)+1=l.countP (!·):=by
 induction l generalizing i with
 | nil=>simp at h
 | cons b l ih =>
  cases i with
  | zero =>
   have:b=false:=by simpa using h
   subst this;simp
  | succ i =>
   have:=ih (i:=i) (by simpa using h)
   simp only[List.set_cons_succ,List.countP_cons]
   omega
theorem zMX (c:DCtx P cf N ops l T H) {ar:Array Bool} (hs:ar.size=ops.size):(∀i,i<ops.size→ar.getD i false=true)∨∃j,j∈Region.ready .any ops ar:=by
 rcases Classical.em (∃i,i<ops.size∧ar.getD i false=false) with h|h
 ·right
  have key:∀n i,i≤n→i<ops.size→ar.getD i false=false→∃j,j∈Region.ready .any ops ar:=by
   intro n
   induction n with
   | zero =>
    intro i hi hlt hf
    refine⟨i,mem_ready.2 ⟨by simpa [Array.getD_eq_getD_getElem?,hs,hlt] using hf,ops[i],Array.getElem?_eq_getElem hlt,fun e he hb=>?_⟩⟩
    have:=c.edge i ops[i] (Array.getElem?_eq_getElem hlt) e (by simpa using he) hb
    omega
   | succ n ih =>
    intro i hi hlt hf
    rcases Classical.em (∃e∈ops[i].after.toList,Region.binds .any e=true∧ar.getD e.on false=false) with ⟨e,he,hb,hf2⟩|hno
    ·have:=c.edge i ops[i] (Array.getElem?_eq_getElem hlt) e he hb
     exact ih e.on (by omega) (by omega) hf2
    ·refine⟨i,mem_ready.2 ⟨by simpa [Array.getD_eq_getD_getElem?,hs,hlt] using hf,ops[i],Array.getElem?_eq_getElem hlt,fun e he hb=>?_⟩⟩
     cases hq:ar.getD e.on false with
     | true=>rfl
     | false=>exact absurd ⟨e,by simpa using he,hb,hq⟩ hno
  obtain⟨i,h1,h2⟩:=h
  exact key i i (Nat.le_refl _) h1 h2
 ·left
  intro i hi
  cases hq:ar.getD i false with
  | true=>rfl
  | false=>exact absurd ⟨i,hi,hq⟩ h
theorem Inv.congr {listed listed':Nat→Prop} (h:∀i,i<l.length→(listed i↔listed' i)) (hc:∀i j,listed' j→((zf ops.toList []).getD j 0).testBit i=true→listed' i) (I:Inv P base N ops l T H D ρ0 w0 listed a w ρ k):Inv P base N ops l T H D ρ0 w0 listed' a w ρ k:=by
 have hE:∀ {i},IsE l i→i<l.length:=fun⟨x,hx,_⟩=>(List.getElem?_eq_some_iff.1 hx).1
 have hM:∀ {i b mk},zo l T i b mk→i<l.length:=fun⟨x,_,hx,_⟩=>(List.getElem?_eq_some_iff.1 hx).1
 refine⟨hc,I.kle,I.kE,fun i h1 h2=>(h i (hE h2)).1 (I.eLo i h1 h2),fun i h1 h2 h3=>I.eHi i h1 h2 ((h i (hE h2)).2 h3),I.wf,I.rel,fun i b mk h1 h2 h3=>I.phan i b mk h1 h2 fun q=>h3 ((h i (hM h2)).1 q),
  fun A h1 h2 h3=>I.out A h1 h2 fun i b mk h4 h5 h6=>h3 i b mk h4 h5 ((h i (hM h5)).1 h6),fun i b mk h1 h2 h3=>I.pend i b mk h1 h2 ((h i (hM h2)).2 h3),I.size,fun d=>?_,I.defs,I.ext⟩
 obtain⟨m,h1,h2,h3,h4⟩:=I.slots d
 exact⟨m,h1,h2,fun i x hi hx hd=>(h i (List.getElem?_eq_some_iff.1 hx).1).1 (h3 i x hi hx hd),fun i x hi hx hd q=>h4 i x hi hx hd ((h i (List.getElem?_eq_some_iff.1 hx).1).2 q)⟩
theorem zMZ {rd:Option Nat} {tr:List (Fr×Heap)} (c:DCtx P cf N ops l (Tf tr) (Hf tr)) (htr:tr.length=l.length+1) (hchk:zAN l tr (zAd l (zf ops.toList []))=true) (hpre0:∀A,(Hf tr 0).next≤A→A<(Hf tr l.length).next→ρ0 A=none)
  {Q:Exit→Act→World→Prop} (hq:∀a' w' ρ',FRel ρ' N (Tf tr l.length) a'.tmps→a'.defers=D→HRel P base ρ' (Hf tr l.length) w'→HWF (Hf tr l.length)→Ext base ρ0 (Hf tr 0) w0 ρ' (Hf tr l.length) w'→Q .normal a' w') :
  ∀ (fuel:Nat) (ar:Array Bool) (a:Act) (w:World) (ρ:Ren) (k:Nat),ar.size=ops.size→ar.toList.countP (!·)≤fuel→Inv P base N ops l (Tf tr) (Hf tr) D ρ0 w0 (fun i=>ar.getD i false=true) a w ρ k→wpAnyIn (Wd rd) 0 P .any ops Q fuel ar a w:=by
 have hfin:∀ (ar:Array Bool) (a:Act) (w:World) (ρ:Ren) (k:Nat),ar.size=ops.size→Region.ready .any ops ar=[]→Inv P base N ops l (Tf tr) (Hf tr) D ρ0 w0 (fun i=>ar.getD i false=true) a w ρ k→Q .normal a w:=by
  intro ar a w ρ k hs hnil I
  rcases zMX c hs with h|⟨j,hj⟩
  ·obtain⟨h1,h2,h3,h4,h5⟩:=I.done c (fun i hi=>h i (by rw[←c.len];exact hi))
   exact hq a w ρ h1 h2 h3 h4 h5
  ·rw[hnil] at hj;simp at hj
 intro fuel
 induction fuel with
 | zero =>
  intro ar a w ρ k hs hc I
  have hnil:Region.ready .any ops ar=[]:=by
   rw[List.eq_nil_iff_forall_not_mem]
   intro j hj
   obtain⟨h1,o,ho,_⟩:=mem_ready.1 hj
   have hlt:j<ar.size:=by rw[hs];exact (Array.getElem?_eq_some_iff.1 ho).1
   have h2:ar.toList.countP (!·)=0:=by omega
   rw[List.countP_eq_zero] at h2
   have:=h2 ar[j] (by simp)
   simp[Array.getD_eq_getD_getElem?,hlt] at h1
   simp[h1] at this
  exact⟨hnil,hfin ar a w ρ k hs hnil I⟩
 | succ fuel ih =>
  intro ar a w ρ k hs hc I
  refine⟨fun hnil=>hfin ar a w ρ k hs hnil I,fun j hj=>?_⟩
  obtain⟨h1,o,ho,hall⟩:=mem_ready.1 hj
  have hlt:j<ar.size:=by rw[hs];exact (Array.getElem?_eq_some_iff.1 ho).1
  have h1':ar[j]=false:=by simpa [Array.getD_eq_getD_getElem?,hlt] using h1
  have hnl:¬(ar.getD j false=true):=by simp[Array.getD_eq_getD_getElem?,hlt,h1']
  have hbef:∀i,((zf ops.toList []).getD j 0).testBit i=true→ar.getD i false=true:=fun i hi=>by
   obtain⟨e,he,hb,hc⟩:=zMd c.edge ho hi
   have h3:=hall e (by simpa using he) hb
   rcases hc with rfl|hc
   ·exact h3
   ·exact I.closed i e.on h3 hc
  have hs':(ar.setIfInBounds j true).size=ops.size:=by simpa using hs
  have hc':(ar.setIfInBounds j true).toList.countP (!·)≤fuel:=by
   have:=zM6 (l:=ar.toList) (i:=j) (by simp[hlt,h1'])
   simp only[Array.toList_setIfInBounds]
   omega
  have hst:=I.step c htr hchk hpre0 ho hnl hbef (Q:=Q) (rd:=rd) (next:=wpAnyIn (Wd rd) 0 P .any ops Q fuel (ar.setIfInBounds j true)) fun a' w' ρ' k' hI=>by
   have hiff:∀i,more (fun i=>ar.getD i false=true) j i↔(ar.setIfInBounds j true).getD i false=true:=fun i=>by
    by_cases hij:i=j
    ·subst hij;simp[more,Array.getD_eq_getD_getElem?,hlt]
    ·rw[getD_set_ne false (Ne.symm hij)];simp[more,hij]
   refine ih _ a' w' ρ' k' hs' hc' (hI.congr (fun i _=>hiff i) fun i j' hj' hb=>?_)
   exact (hiff i).1 (hI.closed i j' ((hiff j').2 hj') hb)
  unfold wpOpIn
  simp only[ho]
  split
  ·rename_i hw;rw[if_pos hw] at hst;exact hst
  ·rename_i hw;rw[if_neg hw] at hst;exact⟨fun _ _=>trivial,hst⟩
theorem HRel.drawn {h:Heap} {n:Nat} (hr:HRel P base ρ h w):HRel P base ρ h { w with drawn:=n }:=⟨hr.le,hr.bnd,hr.found,hr.cells,hr.alias,hr.maps,hr.malias,hr.fin,hr.mark,hr.loops.sameW (fun _ _ _ _=>rfl)⟩
theorem Ext.drawn (base:Nat) (ρ:Ren) (h:Heap) (w:World) (n:Nat):Ext base ρ h w ρ h { w with drawn:=n }:=by
 have he:=Ext.refl base ρ h w
 exact⟨he.mono,he.new,he.next,he.keep,he.phan,⟨rfl,rfl,rfl,Nat.le_refl _,fun _ _=>rfl⟩,he.frame,he.newb⟩
theorem zM9 {rd:Option Nat} (hcf:CFOk P cf) (hm:P.follows .mixedOrders=true) {id:Nat} {cs:List (Nat×Nat×List Nat)} (hd:zCU P ops=some (.draw l cs)) (h1:zBF N l=true) (h2:zBQ ops=true) {t t':Fr} {h h':Heap} {tr:List (Fr×Heap)}
  (htr:opsT cf l t h=some tr) (hchk:zAN l tr cs=true) (hlast:tr.getLast?=some (t',h')) (hf:FRel ρ N t a.tmps) (hdef:a.defers=D) (hr:HRel P base ρ h w) (wf:HWF h) (hpre:∀A,h.next≤A→A<h'.next→ρ A=none)
  {Q:Exit→Act→World→Prop} (hq:∀a' w' ρ',FRel ρ' N t' a'.tmps→a'.defers=D→HRel P base ρ' h' w'→HWF h'→Ext base ρ h w ρ' h' w'→Q .normal a' w'):(Code.region id ops true).wpIn (Wd rd) 0 P Q a w:=by
 obtain⟨c,rfl⟩:=DCtx.of hcf hd h1 h2 htr
 obtain⟨g1,g2,g3,_⟩:=zDZ htr
 obtain⟨g4,g5⟩:=zIn htr hlast
 simp only at g4 g5
 refine wpIn_region_any hm ?_
 obtain⟨k,I⟩:=Inv.init (w:={ w with drawn:=w.drawn+1 }) (listed:=fun i=>(Array.replicate ops.size false).getD i false=true) c (by rw[g3,g5];exact hpre) (by rw[g2];exact hf) hdef (by rw[g3];exact hr.drawn) (by rw[g3];exact wf) (fun i=>by simp[Array.getD_eq_getD_getElem?,Array.getElem?_replicate];split<;>simp)
 refine zMZ c g1 hchk (by rw[g3,g5];exact hpre) (fun a' w' ρ' q1 q2 q3 q4 q5=>?_) _ _ _ _ _ _ (by simp) (by simpa using List.countP_le_length (p:=(!·)) (l:=(Array.replicate ops.size false).toList)) I
 rw[g4] at q1
 rw[g5] at q3 q4 q5
 rw[g3] at q5
 exact hq a' w' ρ' q1 q2 q3 q4 (Ext.trans wf hpre (Ext.drawn base ρ h w _) q5)
end
end Go.X
end
section
namespace Go.X
open Go.RowKit
def zA0:XE→Exit
 | .normal=>.normal
 | .exit id=>.exit id
 | .ret=>.ret
structure XOK (P:Program) (Pg:Prog):Prop where
 mixed:P.follows .mixedOrders=true
 code:∀f F,Pg.code f=some F→∃fn,P.funcs[f]?=some fn∧zt P fn=some F
 prim:∀f g,Pg.prim f=some g→∀args h v h',g args h=some (v,h')→zBW P f∧h.next≤h'.next∧zBV P f args h v h'
theorem Ext.below_size {base:Nat} {ρ ρ':Ren} {h h':Heap} {w w':World} (he:Ext base ρ h w ρ' h' w'):w.heap.size≤w'.heap.size:=he.below.size
def zCe (d:Nat):Deferred:={ target:=.collected d,args:=#[] }
def MarkAt (lo:Nat) (ρ:Ren) (h:Heap) (w:World) (d:Nat):Prop:=lo≤d∧w.heap[d]?=some (.deferred (some []))∧∀A l,ρ A=some l→(h.blks.get A).isSome→l.b≠d
def Marks (lo:Nat) (ρ:Ren) (h:Heap) (w:World) (D:List Deferred):Prop:=∃ds:List Nat,D=ds.map zCe∧ds.Nodup∧∀d∈ds,MarkAt lo ρ h w d
theorem zFO (lo:Nat) (ρ:Ren) (h:Heap) (w:World):Marks lo ρ h w []:=⟨[],rfl,.nil,fun d hd=>by cases hd⟩
theorem MarkAt.ext {lo base d:Nat} {ρ ρ':Ren} {h h':Heap} {w w':World} (hm:MarkAt lo ρ h w d) (he:Ext base ρ h w ρ' h' w') (wf':HWF h') (hpre:∀A,h.next≤A→A<h'.next→ρ A=none):MarkAt lo ρ' h' w' d:=by
 obtain⟨g1,g2,g3⟩:=hm
 have hlt:d<w.heap.size:=(Array.getElem?_eq_some_iff.1 g2).1
 refine⟨g1,(he.frame d hlt g3).trans g2,fun A l hA hs=>?_⟩
 cases hρ:ρ A with
 | some m =>
  have e:=he.mono A m hρ
  rw[hA] at e;cases e
  rcases Nat.lt_or_ge A h.next with hl|hl
  ·exact g3 A l hρ (he.keep A hl hs)
  ·obtain⟨b,hb⟩:=Option.isSome_iff_exists.1 hs
   rw[hpre A hl (wf'.lt hb)] at hρ;cases hρ
 | none =>
  rcases he.newb A l hA hρ with hb|⟨B,m,hB,hs',hm⟩
  ·omega
  ·rw[←hm];exact g3 B m hB hs'
theorem Marks.ext {lo base:Nat} {ρ ρ':Ren} {h h':Heap} {w w':World} {D:List Deferred} (hm:Marks lo ρ h w D) (he:Ext base ρ h w ρ' h' w') (wf':HWF h') (hpre:∀A,h.next≤A→A<h'.next→ρ A=none):Marks lo ρ' h' w' D:=by
 obtain⟨ds,h1,h2,h3⟩:=hm
 exact⟨ds,h1,h2,fun d hd=>(h3 d hd).ext he wf' hpre⟩
theorem HRel.putOther {P:Program} {base d:Nat} {ρ:Ren} {h:Heap} {w:World} (o:Obj) (hr:HRel P base ρ h w) (hno:∀A l,ρ A=some l→(h.blks.get A).isSome→l.b≠d):HRel P base ρ h (w.putObj d o):=by
 have hsame:∀A l b,ρ A=some l→h.blks.get A=some b→(w.putObj d o).heap[l.b]?=w.heap[l.b]?:=fun A l b hA hb=>World.putObj_heap_other (hno A l hA (by rw[hb];rfl))
 refine⟨by simpa using hr.le,fun A l hA=>by simpa using hr.bnd A l hA,hr.found,fun A c l hc hA=>?_,hr.alias,fun A l es st hb hA=>?_,hr.malias,hr.fin,fun A c f l hc hf h0 hro hA=>?_,hr.loops.sameW (fun A l hA hs=>World.putObj_heap_other (hno A l hA hs))⟩
 ·rw[hsame A l _ hA (okCells_iff.1 hc).1];exact hr.cells A c l hc hA
 ·rw[hsame A l _ hA hb];exact hr.maps A l es st hb hA
 ·exact (hr.mark A c f l hc hf h0 hro hA).same (hsame A l _ hA (okCells_iff.1 hc).1)
theorem Ext.putOther {base d:Nat} {ρ ρ':Ren} {h h':Heap} {w w':World} (o:Obj) (he:Ext base ρ h w ρ' h' w') (hd:w.heap.size≤d) (hb:base≤d):Ext base ρ h w ρ' h' (w'.putObj d o) :=
 ⟨he.mono,he.new,he.next,he.keep,he.phan,he.below.trans ⟨rfl,rfl,rfl,by simp,fun k hk=>World.putObj_heap_other (by omega)⟩,
  fun r hr hno=>(World.putObj_heap_other (by omega)).trans (he.frame r hr hno),he.newb⟩
theorem zFJ {F:Fence} {n:Nat} {P:Program} {fn:Func} {tmps:Array Value} {R:Ending→World→Prop} {lo base:Nat} {ρ ρ':Ren} {h h':Heap} {w:World} (h1:base≤lo) (h2:w.heap.size≤lo)
  (hfin:∀w',HRel P base ρ' h' w'→Ext base ρ h w ρ' h' w'→LeavesIn F n P fn tmps R [] .returning w'):∀ (ds:List Nat) (w':World),ds.Nodup→(∀d∈ds,MarkAt lo ρ' h' w' d) →
  HRel P base ρ' h' w'→Ext base ρ h w ρ' h' w'→LeavesInM F n P fn tmps R (ds.map zCe) .returning w'
 | [],w',_,_,hr,he=>hfin w' hr he
 | d::ds,w',hnd,hm,hr,he=>by
  obtain⟨g1,g2,g3⟩:=hm d (by simp)
  rw[List.nodup_cons] at hnd
  refine⟨by simp,.inl ⟨d,w'.putObj d (.deferred none),rfl,run_takeDeferred g2,?_⟩⟩
  refine zFJ h1 h2 hfin ds _ hnd.2 (fun d2 hd2=>?_) (hr.putOther _ g3) (he.putOther _ (by omega) (by omega))
  obtain⟨k1,k2,k3⟩:=hm d2 (by simp[hd2])
  exact⟨k1,(World.putObj_heap_other (fun e=>hnd.1 (by rw[←e];exact hd2))).trans k2,k3⟩
def zDc (P:Program) (Pg:Prog) (n:Nat):Prop:=∀N c xc t h e t' h',zr P N c=some xc→run Pg n xc t h=some (e,t',h')→h.next≤h'.next ∧
 ∀ (rd:Option Nat),(rd=none∨zx xc=true)→∀ (base lo:Nat) (ρ:Ren) (D:List Deferred) (a:Act) (w:World) (Q:Exit→Act→World→Prop),FRel ρ N t a.tmps→a.defers=D→lo≤w.heap.size→Marks lo ρ h w D→HRel P base ρ h w→HWF h→(∀A,h.next≤A→A<h'.next→ρ A=none) →
  (∀a' w' ρ' D',FRel ρ' N t' a'.tmps→a'.defers=D'→lo≤w'.heap.size→Marks lo ρ' h' w' D'→HRel P base ρ' h' w'→HWF h'→Ext base ρ h w ρ' h' w'→Q (zA0 e) a' w')→c.wpIn (Wd rd) 0 P Q a w
section
variable {P:Program} {Pg:Prog} {ρ:Ren} {base:Nat} {h:Heap} {w:World} {t:Fr}
theorem zNl {ty:TypeId} {a:Addr} {v:Value} {x':Value} (hr:HRel P base ρ h w) (ha:zw P ty=some false) (hx:VRel ρ (.pointer (some a)) x') (hh:h.load a=some v):∃a' v',x'=.pointer (some a')∧(loadVar ty a').run P w=.ok v' w∧VRel ρ v v':=by
 obtain⟨hsp,l,hl,hv⟩:=hx.ptr_inv
 obtain⟨c,hc,hcv⟩:=Heap.load_some hh
 obtain⟨v',h1,h2⟩:=hr.cell hc hl hcv
 exact⟨_,v',hv,by simp[loadVar,zCZ ha,h1],h2⟩
theorem zNo {ty:TypeId} {a:Addr} {n:Nat} {vs:List Value} {x':Value} (hr:HRel P base ρ h w) (ha:zw P ty=some true) (hn:zZ P ty=some n) (hx:VRel ρ (.pointer (some a)) x') (hh:h.loadN a n=some vs):∃a' v',x'=.pointer (some a')∧(loadVar ty a').run P w=.ok v' w∧VRel ρ (.agg vs.toArray) v':=by
 obtain⟨hsp,l,hl,hv⟩:=hx.ptr_inv
 obtain⟨r,h1,_,_,_,h2⟩:=hr.loadCells (P:=P) hl hh
 exact⟨_,.agg r.toArray,hv,by simp[loadVar,zCZ ha,zAJ hn,h2],VRel.agg_ofL h1⟩
def zDV (tmps:Array Value):ResultVar→Sem Value
 | .tmp t=>pure (tmps.getD t undef)
 | .cell a t=>do loadVar t (←asAddr (tmps.getD a undef))
theorem zEF {N:Nat} {tmps:Array Value} (hr:HRel P base ρ h w) (hf:FRel ρ N t tmps):∀ {rv:List ResultVar} {rs:List XR} {vs:List Value},resC P rv=some rs→zBS t h rs=some vs→∃vs',(rv.mapM (zDV tmps)).run P w=.ok vs' w∧LRel ρ vs vs'
 | [],rs,vs,h1,h2=>by cases h1;cases h2;exact⟨[],rfl,.nil⟩
 | .tmp i::l,rs,vs,h1,h2=>by
  simp only[resC] at h1
  split at h1
  ·rename_i r hr'
   cases h1
   simp only[zBS,resX] at h2
   split at h2
   ·rename_i v vs1 e1 e2
    cases e1;cases h2
    obtain⟨vs',g1,g2⟩:=zEF hr hf hr' e2
    exact⟨tmps.getD i undef::vs',by simp[List.mapM_cons,zDV,g1],.cons (hf.rel i) g2⟩
   ·cases h2
  ·cases h1
 | .cell i ty::l,rs,vs,h1,h2=>by
  simp only[resC] at h1
  split at h1
  ·rename_i n r ha hn hr'
   cases h1
   simp only[zBS,resX] at h2
   split at h2
   ·rename_i v vs1 e1 e2
    cases h2
    obtain⟨vs',g1,g2⟩:=zEF hr hf hr' e2
    split at e1
    ·rename_i a hta
     split at e1
     ·rename_i cs hcs
      cases e1
      obtain⟨a',v',q1,q2,q3⟩:=zNo hr ha hn (by rw[←hta];exact hf.rel i) hcs
      exact⟨v'::vs',by simp[List.mapM_cons,zDV,g1,q1,asAddr,q2],.cons q3 g2⟩
     ·cases e1
    ·cases e1
   ·cases h2
  ·rename_i r ha hr'
   cases h1
   simp only[zBS,resX] at h2
   split at h2
   ·rename_i v vs1 e1 e2
    cases h2
    obtain⟨vs',g1,g2⟩:=zEF hr hf hr' e2
    split at e1
    ·rename_i a hta
     obtain⟨a',v',q1,q2,q3⟩:=zNl hr ha (by rw[←hta];exact hf.rel i) e1
     exact⟨v'::vs',by simp[List.mapM_cons,zDV,g1,q1,asAddr,q2],.cons q3 g2⟩
    ·cases e1
   ·cases h2
  ·cases h1
theorem zOY {vs vs':List Value} (hl:LRel ρ vs vs'):VRel ρ (zDa vs) (if h:vs'.toArray.size=1 then vs'.toArray[0] else .tuple vs'.toArray):=by
 cases hl with
 | nil=>exact VRel.tuple rfl (fun i h=>by simp at h)
 | cons h1 h2 =>
  cases h2 with
  | nil=>exact h1
  | cons h2 h3 =>
   simp only[zDa]
   rw[dif_neg (by simp)]
   exact VRel.tuple_ofL (.cons h1 (.cons h2 h3))
theorem zIG {N:Nat} {fn:Func} {tmps:Array Value} (hr:HRel P base ρ h w) (hf:FRel ρ N t tmps) {rs:List XR} {v:Value} (h1:resC P fn.results.toList=some rs) (h2:z0 t h rs=some v):∃v',(results fn tmps).run P w=.ok v' w∧VRel ρ v v':=by
 unfold z0 at h2
 split at h2
 ·rename_i vs hvs
  cases h2
  obtain⟨vs',g1,g2⟩:=zEF hr hf h1 hvs
  refine⟨_,?_,zOY g2⟩
  have:results fn tmps=(do let vs ←fn.results.mapM (zDV tmps);pure (if h:vs.size=1 then vs[0] else .tuple vs)):=by
   unfold results
   congr 1
  rw[this,Array.mapM_eq_mapM_toList]
  simp[g1]
 ·cases h2
theorem zHX:∀ (vs:List Value) (k:Nat) (t:Fr) (i:Nat),(zs vs k t).get i=if k≤i∧i<k+vs.length then vs.getD (i - k) (.tuple #[]) else t.get i
 | [],k,t,i=>by simp only[zs,List.length_nil];rw[if_neg (by omega)]
 | v::vs,k,t,i=>by
  simp only[zs]
  rw[zHX vs (k+1),Fr.get_set]
  by_cases h1:k+1≤i∧i<k+1+vs.length
  ·rw[if_pos h1,if_pos (by simp;omega)]
   rw[show i - k=(i - (k+1))+1 by omega];rfl
  ·rw[if_neg h1]
   by_cases h2:i=k
   ·subst h2;rw[if_pos rfl,if_pos (by simp)];simp
   ·rw[if_neg h2,if_neg (by simp;omega)]
theorem zHY {N:Nat} {args args':List Value} (hl:LRel ρ args args') (hn:args.length≤N):FRel ρ N (zs args 0 .leaf) (args'.toArray++Array.replicate (N - args'.toArray.size) undef):=by
 have hlen:=hl.length
 refine⟨by simp;omega,fun i=>?_⟩
 rw[zHX]
 have hrep:∀k,VRel ρ (.tuple #[]) ((Array.replicate (N - args'.toArray.size) undef).getD k undef):=fun k=>by
  rw[Array.getD_eq_getD_getElem?,Array.getElem?_replicate]
  split<;>exact VRel.undef
 by_cases h1:i<args.length
 ·rw[if_pos (by omega)]
  have h2:i<args'.length:=by omega
  have:=hl.get i h1 h2
  rw[Array.getD_eq_getD_getElem?,Array.getElem?_append_left (by simpa using h2)]
  simpa [List.getD,h1,h2] using this
 ·rw[if_neg (by omega)]
  have:=hrep (i - args'.toArray.size)
  rw[Array.getD_eq_getD_getElem?] at this ⊢
  rw[Array.getElem?_append_right (by simp;omega)]
  simpa [Fr.get,PT.get_leaf] using this
theorem zFM (hr:HRel P base ρ h w) (wf:HWF h) {A:Nat} {L:Loc} {r r':XL} {q q':Loop} (hb:h.blks.get A=some (.loop r)) (hL:ρ A=some L) (hq:w.heap[L.b]?=some (.loop q)) (hbase:base≤L.b) (hok:LoopOK P ρ r' q') :
  HRel P base ρ (h.setBlk A (.loop r')) (w.putObj L.b (.loop q'))∧HWF (h.setBlk A (.loop r'))∧Ext base ρ h w ρ (h.setBlk A (.loop r')) (w.putObj L.b (.loop q')):=by
 have hlt:L.b<w.heap.size:=(Array.getElem?_eq_some_iff.1 hq).1
 have hsame:∀k,k≠L.b→(w.putObj L.b (.loop q')).heap[k]?=w.heap[k]?:=fun k hk=>World.putObj_heap_other hk
 have hblk:∀B,(h.setBlk A (.loop r')).blks.get B=if B=A then some (.loop r') else h.blks.get B:=fun B=>by simp only[Heap.setBlk,PT.get_set]
 have hcell:∀B c,(h.setBlk A (.loop r')).blks.get B=some (.cells c)→h.blks.get B=some (.cells c):=fun B c hc=>by
  rw[hblk] at hc
  split at hc
  ·cases hc
  ·exact hc
 have hmap:∀B c st,(h.setBlk A (.loop r')).blks.get B=some (.map c st)→h.blks.get B=some (.map c st):=fun B c st hc=>by
  rw[hblk] at hc
  split at hc
  ·cases hc
  ·exact hc
 have hok':∀B c,(h.setBlk A (.loop r')).okCells B=some c→h.okCells B=some c:=fun B c hc=>by
  obtain⟨h1,f,h2,h3⟩:=okCells_iff.1 hc
  exact okCells_iff.2 ⟨hcell B c h1,f,h2,h3⟩
 have hnc:∀B c l,h.okCells B=some c→ρ B=some l→l.b≠L.b:=fun B c l hc hl eb=>by
  obtain⟨cs,T,fz,q1,_⟩:=hr.cells B c l hc hl
  rw[eb,hq] at q1;cases q1
 have hnm:∀B c st l,h.blks.get B=some (.map c st)→ρ B=some l→l.b≠L.b:=fun B c st l hc hl eb=>by
  obtain⟨es,cl,q1,_⟩:=hr.maps B l c st hc hl
  rw[eb,hq] at q1;cases q1
 have hsz:(w.putObj L.b (.loop q')).heap.size=w.heap.size:=World.putObj_size
 refine⟨⟨by rw[hsz];exact hr.le,fun B l hB=>by rw[hsz];exact hr.bnd B l hB,fun B c hc=>hr.found B c (hcell B c hc),fun B c l hc hl=>?_,fun B C c d l m hne hc hd=>hr.alias B C c d l m hne (hok' B c hc) (hok' C d hd),
  fun B l es st hm hl=>?_,fun B C es st fs su l m hne h1 h2=>hr.malias B C es st fs su l m hne (hmap B es st h1) (hmap C fs su h2),hr.fin,fun B c f l hc hf h0 hro hl=>?_,⟨fun B l s hs hl=>?_,fun B l s hs hl=>?_,fun B C b c l m hne h1 s1 h2 s2 hl hm=>?_,fun B l hR hl=>hr.loops.root B l (by obtain⟨c,k1,k2⟩:=hR;exact⟨c,hcell B c k1,k2⟩) hl,fun B l es st es' cl hm hl hh=>hr.loops.stamps B l es st es' cl (hmap B es st hm) hl (by rw[←hsame l.b (hnm B es st l (hmap B es st hm) hl)];exact hh)⟩⟩,⟨fun B hB=>?_,fun B c hc=>wf.fam B c (hcell B c hc),fun B c f hc hf=>wf.top B c f (hok' B c hc) hf⟩,?_⟩
 ·rw[hsame l.b (hnc B c l (hok' B c hc) hl)];exact hr.cells B c l (hok' B c hc) hl
 ·rw[hsame l.b (hnm B es st l (hmap B es st hm) hl)];exact hr.maps B l es st (hmap B es st hm) hl
 ·exact (hr.mark B c f l (hok' B c hc) hf h0 hro hl).same (hsame l.b (hnc B c l (hok' B c hc) hl))
 ·rw[hblk] at hs
  split at hs
  ·rename_i e
   subst e;cases hs
   rw[hL] at hl;cases hl
   exact⟨q',World.putObj_heap_same hlt,hbase,hok⟩
  ·rename_i hne
   rw[hsame l.b (hr.loops.apart B A _ _ l L hne hs trivial hb trivial hl hL)]
   exact hr.loops.recd B l s hs hl
 ·rw[hblk] at hs
  split at hs
  ·cases hs
  ·rename_i hne
   rw[hsame l.b (hr.loops.apart B A _ _ l L hne hs trivial hb trivial hl hL)]
   exact hr.loops.iter B l s hs hl
 ·have key:∀B b,(h.setBlk A (.loop r')).blks.get B=some b→b.special→∃b0,h.blks.get B=some b0∧b0.special:=fun B b hs hp=>by
   rw[hblk] at hs
   split at hs
   ·rename_i e;subst e;exact⟨_,hb,trivial⟩
   ·exact⟨b,hs,hp⟩
  obtain⟨b0,k1,p1⟩:=key B b h1 s1
  obtain⟨c0,k2,p2⟩:=key C c h2 s2
  exact hr.loops.apart B C b0 c0 l m hne k1 p1 k2 p2 hl hm
 ·have hA:=wf.lt hb
  exact⟨by rw[hblk,if_neg (by have:h.next≤B:=hB;omega)];exact (wf.fresh B hB).1,(wf.fresh B hB).2⟩
 ·refine⟨fun _ _ h=>h,fun A h=>absurd rfl h,Nat.le_refl _,fun B hB hs=>?_,fun B hB hn=>?_,⟨rfl,rfl,rfl,by rw[hsz];exact Nat.le_refl _,fun k hk=>hsame k (by omega)⟩,fun k hk hno=>?_,fun A l h1 h2=>by rw[h2] at h1;cases h1⟩
  ·rw[hblk] at hs
   split at hs
   ·rename_i e;subst e;rw[hb];rfl
   ·exact hs
  ·refine⟨?_,rfl⟩
   rw[hblk]
   split
   ·rename_i e;subst e;rw[hL] at hn;cases hn
   ·rfl
  ·exact hsame k fun e=>hno A L hL (by rw[hb];rfl) e.symm
theorem zN2 (hr:HRel P base ρ h w) (wf:HWF h) (hρ:ρ h.next=none) {r:XL} {q:Loop} (hok:LoopOK P ρ r q) :
  HRel P base (upd ρ h.next ⟨w.heap.size+1,0,0⟩) (h.pushLoop r) ((w.alloc (.deferred (some []))).alloc (.loop q))∧HWF (h.pushLoop r)∧Ext base ρ h w (upd ρ h.next ⟨w.heap.size+1,0,0⟩) (h.pushLoop r) ((w.alloc (.deferred (some []))).alloc (.loop q)):=by
 have hm:=zBU (l:=(⟨w.heap.size+1,0,0⟩:Loc)) hρ
 have hsz:((w.alloc (.deferred (some []))).alloc (.loop q)).heap.size=w.heap.size+2:=by simp
 have hold:∀k,k<w.heap.size→((w.alloc (.deferred (some []))).alloc (.loop q)).heap[k]?=w.heap[k]?:=fun k hk =>
  (Below.heap_alloc _ _ k (by simp;omega)).trans (Below.heap_alloc w _ k hk)
 have hnew:((w.alloc (.deferred (some []))).alloc (.loop q)).heap[w.heap.size+1]?=some (.loop q):=by
  have:=World.alloc_heap_new (w.alloc (.deferred (some []))) (.loop q);rwa [World.size_alloc] at this
 have hblk:∀B,(h.pushLoop r).blks.get B=if B=h.next then some (.loop r) else h.blks.get B:=fun B=>by simp only[Heap.pushLoop,PT.get_set]
 have hcell:∀B c,(h.pushLoop r).blks.get B=some (.cells c)→B≠h.next∧h.blks.get B=some (.cells c):=fun B c hc=>by
  rw[hblk] at hc
  split at hc
  ·cases hc
  ·exact⟨‹_›,hc⟩
 have hmap:∀B c st,(h.pushLoop r).blks.get B=some (.map c st)→B≠h.next∧h.blks.get B=some (.map c st):=fun B c st hc=>by
  rw[hblk] at hc
  split at hc
  ·cases hc
  ·exact⟨‹_›,hc⟩
 have hok':∀B c,(h.pushLoop r).okCells B=some c→B≠h.next∧h.okCells B=some c:=fun B c hc=>by
  obtain⟨h1,f,h2,h3⟩:=okCells_iff.1 hc
  exact⟨(hcell B c h1).1,okCells_iff.2 ⟨(hcell B c h1).2,f,h2,h3⟩⟩
 have hcase:∀A l,upd ρ h.next ⟨w.heap.size+1,0,0⟩ A=some l→(A=h.next∧l=⟨w.heap.size+1,0,0⟩)∨(A≠h.next∧ρ A=some l):=fun A l hA=>by
  by_cases e:A=h.next
  ·subst e;rw[z8] at hA;exact .inl ⟨rfl,(Option.some.inj hA).symm⟩
  ·rw[zl e] at hA;exact .inr ⟨e,hA⟩
 have hb:∀A l,A≠h.next→upd ρ h.next ⟨w.heap.size+1,0,0⟩ A=some l→ρ A=some l:=fun A l hne hA=>by rwa [zl hne] at hA
 refine⟨⟨by rw[hsz];have:=hr.le;omega,fun A l hA=>?_,fun A c hc hs=>?_,fun A c l hc hA=>?_,fun A B c d l m hne hc hd hA hB=>hr.alias A B c d l m hne (hok' A c hc).2 (hok' B d hd).2 (hb A l (hok' A c hc).1 hA) (hb B m (hok' B d hd).1 hB),
  fun A l es st hc hA=>?_,fun A B es st fs su l m hne hc hd hA hB=>hr.malias A B es st fs su l m hne (hmap A es st hc).2 (hmap B fs su hd).2 (hb A l (hmap A es st hc).1 hA) (hb B m (hmap B fs su hd).1 hB),zDb hr.fin,fun A c f l hc hf h0 hro hA=>?_,⟨fun A l s hs hA=>?_,fun A l s hs hA=>?_,fun A B b c l m hne h1 s1 h2 s2 hA hB=>?_,fun A l hR hA=>?_,fun A l es st es' cl hm' hA hh=>?_⟩⟩,
  ⟨fun A hA=>?_,fun A c hc=>?_,fun A c f hc hf=>wf.top A c f (hok' A c hc).2 hf⟩,?_⟩
 ·rcases hcase A l hA with ⟨_,rfl⟩|⟨_,hA⟩
  ·rw[hsz];simp
  ·have:=hr.bnd A l hA;omega
 ·obtain⟨hne,hc'⟩:=hcell A c hc
  rw[zl hne] at hs
  obtain⟨l,hl⟩:=Option.isSome_iff_exists.1 (hr.found A c hc' hs)
  rw[hm _ _ hl];rfl
 ·obtain⟨hne,hc'⟩:=hok' A c hc
  have hA':=hb A l hne hA
  obtain⟨cs,T,fz,g1,g2,g3,g4,g5⟩:=hr.cells A c l hc' hA'
  exact⟨cs,T,fz,by rw[hold _ (hr.bnd A l hA')];exact g1,g2,g3,g4.mono hm,g5⟩
 ·obtain⟨hne,hc'⟩:=hmap A es st hc
  have hA':=hb A l hne hA
  obtain⟨es',cl,g1,g2,g3⟩:=hr.maps A l es st hc' hA'
  exact⟨es',cl,by rw[hold _ (hr.bnd A l hA')];exact g1,g2,g3.mono fun a b hab=>⟨hab.1.mono hm,hab.2.mono hm⟩⟩
 ·obtain⟨hne,hc'⟩:=hok' A c hc
  have hA':=hb A l hne hA
  exact (hr.mark A c f l hc' hf h0 hro hA').same (hold _ (hr.bnd A l hA'))
 ·rcases hcase A l hA with ⟨rfl,rfl⟩|⟨hne,hA⟩
  ·rw[hblk,if_pos rfl] at hs
   cases hs
   exact⟨q,hnew,by simp only;have:=hr.le;omega,hok.mono hm⟩
  ·rw[hblk,if_neg hne] at hs
   obtain⟨q2,g1,g2,g3⟩:=hr.loops.recd A l s hs hA
   exact⟨q2,by rw[hold _ (hr.bnd A l hA)];exact g1,g2,g3.mono hm⟩
 ·rcases hcase A l hA with ⟨rfl,rfl⟩|⟨hne,hA⟩
  ·rw[hblk,if_pos rfl] at hs
   cases hs
  ·rw[hblk,if_neg hne] at hs
   obtain⟨q2,g1,g2,g4,g3⟩:=hr.loops.iter A l s hs hA
   exact⟨q2,by rw[hold _ (hr.bnd A l hA)];exact g1,g2,g4,g3.mono hm⟩
 ·rcases hcase A l hA with ⟨rfl,rfl⟩|⟨hne1,hA⟩
  ·rcases hcase B m hB with ⟨rfl,_⟩|⟨_,hB⟩
   ·exact absurd rfl hne
   ·have:=hr.bnd B m hB;simp only;omega
  ·rcases hcase B m hB with ⟨rfl,rfl⟩|⟨hne2,hB⟩
   ·have:=hr.bnd A l hA;simp only;omega
   ·rw[hblk,if_neg hne1] at h1
    rw[hblk,if_neg hne2] at h2
    exact hr.loops.apart A B b c l m hne h1 s1 h2 s2 hA hB
 ·obtain⟨c,k1,k2⟩:=hR
  exact hr.loops.root A l ⟨c,(hcell A c k1).2,k2⟩ (hb A l (hcell A c k1).1 hA)
 ·have hA':=hb A l (hmap A es st hm').1 hA
  exact hr.loops.stamps A l es st es' cl (hmap A es st hm').2 hA' (by rw[←hold _ (hr.bnd A l hA')];exact hh)
 ·have hA':h.next+1≤A:=hA
  exact⟨by rw[hblk,if_neg (by omega)];exact (wf.fresh A (by omega)).1,(wf.fresh A (by omega)).2⟩
 ·obtain⟨hne,hc'⟩:=hcell A c hc
  have:=wf.fam A c hc'
  exact⟨by show c.fam<h.next+1;omega,this.2⟩
 ·refine⟨hm,fun A hne=>?_,by show h.next≤h.next+1;omega,fun A hA hs=>?_,fun A hA _=>⟨?_,rfl⟩,⟨rfl,rfl,rfl,by rw[hsz];have:=hr.le;omega,fun k hk=>hold k (by have:=hr.le;omega)⟩,fun k hk _=>hold k hk,fun A l hA hn=>?_⟩
  ·by_cases e:A=h.next
   ·subst e;exact⟨Nat.le_refl _,by show h.next<h.next+1;omega⟩
   ·exact absurd (zl e) hne
  ·rwa [hblk,if_neg (by omega)] at hs
  ·rw[hblk,if_neg (by omega)]
  ·rcases hcase A l hA with ⟨_,rfl⟩|⟨_,hA⟩
   ·exact .inl (by simp)
   ·rw[hn] at hA;cases hA
theorem zIX {N:Nat}:∀ (ps:List Nat) (args args':List Value) (t:Fr) (tmps:Array Value),FRel ρ N t tmps→LRel ρ args args'→(∀p∈ps,p<N)→FRel ρ N (zBT ps args t) ((ps.zip args').foldl (fun tm (x:Nat×Value)=>tm.setIfInBounds x.1 x.2) tmps)
 | [],_,_,t,tmps,hf,_,_=>by simpa [zBT] using hf
 | p::ps,[],_,t,tmps,hf,hl,_=>by cases hl;simpa [zBT] using hf
 | p::ps,v::vs,_,t,tmps,hf,hl,hp=>by
  cases hl with
  | cons h1 h2 =>
   simp only[zBT,List.zip_cons_cons,List.foldl_cons]
   exact zIX ps vs _ _ _ (hf.put (dst:=some p) (a:=⟨tmps,[]⟩) (fun d hd=>by cases hd;exact hp p (by simp)) h1) h2 (fun x hx=>hp x (by simp[hx]))
theorem jump_run {F:Fence} {n:Nat} {Q:Exit→Act→World→Prop} {a:Act} {e:XE} (h:Q (zA0 e) a w):e.code.wpIn F n P Q a w:=by
 cases e with
 | normal=>exact wpIn_skip h
 | exit id=>exact wpIn_exit h
 | ret=>exact wpIn_ret h
theorem zMh (ok:XOK P Pg) {rn:XC→Fr→Heap→Option (XE×Fr×Heap)} (hn:∀c t h e t' h',rn c t h=some (e,t',h')→h.next≤h'.next) {f:Nat} {args:List Value} {v:Value} {h h':Heap} (hx:zAM Pg rn f args h=some (v,h')):h.next≤h'.next:=by
 unfold zAM at hx
 split at hx
 ·rename_i g hg;exact (ok.prim f g hg args h v h' hx).2.1
 ·split at hx
  ·split at hx
   ·split at hx
    ·rename_i hr
     split at hx
     ·cases hx;exact hn _ _ _ _ _ _ hr
     ·cases hx
    ·rename_i hr
     split at hx
     ·cases hx;exact hn _ _ _ _ _ _ hr
     ·cases hx
    ·cases hx
   ·cases hx
  ·cases hx
theorem zMT {rn:XC→Fr→Heap→Option (XE×Fr×Heap)} (hn:∀c t h e t' h',rn c t h=some (e,t',h')→h.next≤h'.next) {A:Nat} {args:List Value} {v:Value} {h h':Heap} (hx:zA9 rn A args h=some (v,h')):h.next≤h'.next:=by
 unfold zA9 at hx
 split at hx
 ·split at hx
  ·split at hx
   ·rename_i h1
    split at hx
    ·split at hx
     ·split at hx
      ·rename_i h2
       split at hx
       ·simp only[Option.some.injEq,Prod.mk.injEq] at hx
        obtain⟨_,rfl⟩:=hx
        have a:=hn _ _ _ _ _ _ h1
        have b:=hn _ _ _ _ _ _ h2
        exact Nat.le_trans a b
       ·cases hx
      ·cases hx
     ·cases hx
    ·cases hx
   ·cases hx
  ·cases hx
 ·cases hx
theorem zHB {A:Nat} {t t':Fr} {h h':Heap} {e:XE} (hx:endX A t h=some (e,t',h')):h'.next=h.next∧t'=t:=by
 unfold endX at hx
 repeat' split at hx
 all_goals first|(cases hx;done)|(cases hx;exact⟨rfl,rfl⟩)
theorem zIP (ok:XOK P Pg):∀ (n:Nat) (c:XC) (t:Fr) (h:Heap) (e:XE) (t':Fr) (h':Heap),run Pg n c t h=some (e,t',h')→h.next≤h'.next
 | 0,c,t,h,e,t',h',hr=>by cases hr
 | n+1,c,t,h,e,t',h',hr=>by
  have ih:=zIP ok n
  have hcf:zCK (zAc Pg (run Pg n)):=⟨fun f args h v h' hx=>zMh ok ih hx,fun A args h v h' hx=>zMT ih hx⟩
  cases c<;>simp only[run] at hr
  case ops l =>
   split at hr
   ·rename_i ho;cases hr;exact zFb hcf ho
   ·cases hr
  case draw l cs =>
   split at hr
   ·rename_i tr ho
    cases hchk:zAN l tr cs<;>rw[hchk] at hr
    ·cases hr
    ·simp only[cond_true] at hr
     split at hr
     ·rename_i hl
      cases hr
      obtain⟨x,tr',rfl,hall⟩:=zHs hcf ho
      exact hall _ (List.mem_of_getLast? hl)
     ·cases hr
   ·cases hr
  case seq a b =>
   split at hr
   ·rename_i ha;exact Nat.le_trans (ih _ _ _ _ _ _ ha) (ih _ _ _ _ _ _ hr)
   ·exact ih _ _ _ _ _ _ hr
  case cond x a b =>
   split at hr
   ·exact ih _ _ _ _ _ _ hr
   ·exact ih _ _ _ _ _ _ hr
   ·cases hr
  case block id c =>
   split at hr
   ·rename_i ha
    split at hr<;>cases hr<;>exact ih _ _ _ _ _ _ ha
   ·exact ih _ _ _ _ _ _ hr
  case loop c =>
   split at hr
   ·rename_i ha;exact Nat.le_trans (ih _ _ _ _ _ _ ha) (ih _ _ _ _ _ _ hr)
   ·exact ih _ _ _ _ _ _ hr
  case scope c=>exact ih _ _ _ _ _ _ hr
  case rng f ps k asg body =>
   split at hr
   ·split at hr
    ·rename_i ha
     have h1:=hcf.fn _ _ _ _ _ ha
     rw[←(zHB hr).1] at h1
     exact Nat.le_trans (Nat.le_succ _) h1
    ·cases hr
   ·cases hr
  all_goals (cases hr;exact Nat.le_refl _)
theorem yield_ok {n:Nat} (hn:∀c t h e t' h',run Pg n c t h=some (e,t',h')→h.next≤h'.next) (hc:zDc P Pg n) {A:Nat} {args:List Value} {v:Value} {h':Heap} (hx:zA9 (run Pg n) A args h=some (v,h')):h.next≤h'.next∧zGY P A args h v h':=by
 refine⟨zMT hn hx,?_⟩
 unfold zA9 at hx
 split at hx
 ·rename_i r hr
  split at hx
  ·rename_i hlen
   split at hx
   ·rename_i t2 h2 hra
    split at hx
    ·rename_i r2 hr2
     split at hx
     ·rename_i hst
      split at hx
      ·rename_i e t3 h3 hrb
       split at hx
       ·rename_i r3 hr3
        simp only[Option.some.injEq,Prod.mk.injEq] at hx
        obtain⟨rfl,rfl⟩:=hx
        have n1:=hn _ _ _ _ _ _ hra
        have n2:=hn _ _ _ _ _ _ hrb
        intro base ρ w args' l hA hrel wf hpre hargs
        obtain⟨q,hq,hb,hok⟩:=hrel.loops.recd A l r hr hA
        have hal:=hargs.length
        have hps:q.params.size=r.ps.length:=by rw[←hok.ps];simp
        refine⟨q.fn,_,q.assign,q.body,run_yield hq (by simp[hps,←hal,hlen]),roundIn_of_wpIn trivial ?_⟩
        have hfr:FRel ρ r.n (zBT r.ps args r.t) ((q.params.zip args'.toArray).foldl (fun tmps (x:Nat×Value)=>tmps.setIfInBounds x.1 x.2) q.tmps):=by
         have:=zIX r.ps args args' r.t q.tmps hok.fr hargs hok.pb
         rw[←Array.foldl_toList,Array.toList_zip,hok.ps]
         exact this
        have n3:(h3.setBlk A (.loop { r3 with st:=if e.jump.isNone then .ready else .done,pend:=e.jump })).next=h3.next:=rfl
        rw[n3] at hpre
        refine (hc _ _ _ _ _ _ _ _ hok.asg hra).2 (some l.b) (.inr hok.nra) base w.heap.size ρ [] _ w _ hfr rfl (Nat.le_refl _) (zFO _ _ _ _) hrel wf (fun B k1 k2=>hpre B k1 (Nat.lt_of_lt_of_le k2 n2)) fun a1 w1 ρ1 D1 p1 p2 p3 p4 p5 p6 p7=>?_
        have hA1:=p7.mono A l hA
        obtain⟨q2,hq2,hb2,hok2⟩:=p5.loops.recd A l r2 hr2 hA1
        have hst2:q2.state=.ready:=hok2.st.trans hst
        refine⟨_,run_beginRound hq2 hst2,?_⟩
        obtain⟨s1,s2,s3⟩:=zFM (r':={ r2 with st:=.busy }) (q':={ q2 with state:=.busy }) p5 p6 hr2 hA1 hq2 hb2 ⟨hok2.fr,hok2.ps,hok2.pb,hok2.asg,hok2.body,hok2.nra,hok2.nrb,rfl,hok2.pend⟩
        have hpre1:∀B,h2.next≤B→B<h3.next→ρ1 B=none:=p7.pre hpre
        refine (hc _ _ _ _ _ _ _ _ hok.body hrb).2 (some l.b) (.inr hok.nrb) base w.heap.size ρ1 D1 a1 _ _ p1 p2 (by simpa using p3) (p4.ext s3 s2 (fun B k1 k2=>hpre1 B k1 (Nat.lt_of_lt_of_le k2 n2))) s1 s2 hpre1 fun a3 w3 ρ3 D3 u1 u2 u3 u4 u5 u6 u7=>?_
        have hA3:=u7.mono A l hA1
        obtain⟨q3,hq3,hb3,hok3⟩:=u5.loops.recd A l r3 hr3 hA3
        have e1:Ext base ρ h w ρ3 h3 w3:=Ext.trans p6 hpre p7 (Ext.trans s2 hpre1 s3 u7)
        have fin:∀ (jp:Option XE),e.jump=jp→(Instr.endRound l.b (jp.map XE.code)).run P w3=.ok (.bool (jp.map XE.code).isNone) (w3.putObj l.b (.loop { q3 with state:=if (jp.map XE.code).isNone then .ready else .done,pending:=jp.map XE.code })) ∧
          ∃v' ρ',(.returned (.bool (jp.map XE.code).isNone):Ending)=.returned v'∧HRel P base ρ' (h3.setBlk A (.loop { r3 with st:=if e.jump.isNone then .ready else .done,pend:=e.jump })) (w3.putObj l.b (.loop { q3 with state:=if (jp.map XE.code).isNone then .ready else .done,pending:=jp.map XE.code })) ∧
           HWF (h3.setBlk A (.loop { r3 with st:=if e.jump.isNone then .ready else .done,pend:=e.jump }))∧Ext base ρ h w ρ' (h3.setBlk A (.loop { r3 with st:=if e.jump.isNone then .ready else .done,pend:=e.jump })) (w3.putObj l.b (.loop { q3 with state:=if (jp.map XE.code).isNone then .ready else .done,pending:=jp.map XE.code }))∧VRel ρ' (.bool e.jump.isNone) v':=fun jp hjp=>by
         refine⟨run_endRound _ hq3,_,ρ3,rfl,?_⟩
         have hin:(jp.map XE.code).isNone=jp.isNone:=by cases jp<;>rfl
         rw[hjp,hin]
         obtain⟨z1,z2,z3⟩:=zFM (r':={ r3 with st:=if jp.isNone then .ready else .done,pend:=jp }) (q':={ q3 with state:=if jp.isNone then .ready else .done,pending:=jp.map XE.code }) u5 u6 hr3 hA3 hq3 hb3 ⟨hok3.fr,hok3.ps,hok3.pb,hok3.asg,hok3.body,hok3.nra,hok3.nrb,rfl,rfl⟩
         exact⟨z1,z2,Ext.trans u6 hpre e1 z3,.bool _⟩
        cases e with
        | normal=>exact⟨_,_,(fin none rfl).1,(fin none rfl).2⟩
        | exit id=>exact⟨_,_,(fin (some (.exit id)) rfl).1,(fin (some (.exit id)) rfl).2⟩
        | ret=>exact⟨_,_,(fin (some .ret) rfl).1,(fin (some .ret) rfl).2⟩
       ·cases hx
      ·cases hx
     ·cases hx
    ·cases hx
   ·cases hx
  ·cases hx
 ·cases hx
theorem zGw (ok:XOK P Pg) {n:Nat} (hc:zDc P Pg n):CFOk P (zAc Pg (run Pg n)):=by
 have hn:=zIP ok n
 refine⟨fun f args h v h' hx=>?_,fun A args h v h' hx=>yield_ok hn hc hx⟩
 change zAM Pg (run Pg n) f args h=some (v,h') at hx
 unfold zAM at hx
 split at hx
 ·rename_i g hg;exact ok.prim f g hg args h v h' hx
 ·split at hx
  ·rename_i F hF
   obtain⟨fn,hfn,hfc⟩:=ok.code f F hF
   unfold zt at hfc
   split at hfc
   ·rename_i c hbody
    split at hfc
    ·rename_i x r hx' hr'
     split at hfc
     ·rename_i hsz
      cases hfc
      simp only at hx
      split at hx
      ·rename_i hlen
       have key:∀e t' h1,run Pg n x (zs args 0 .leaf) h=some (e,t',h1)→(e=.normal∨e=.ret)→z0 t' h1 r=some v→h1=h'→zBW P f∧h.next≤h'.next∧zBV P f args h v h':=by
        rintro e t' h1 hrun he hres rfl
        obtain⟨hnx,hw⟩:=hc _ _ _ _ _ _ _ _ hx' hrun
        refine⟨⟨fn,hfn,hsz.2,by rw[hbody];rfl⟩,hnx,fun base ρ w args' hrel wf hpre hargs=>?_⟩
        refine (callsIn_wide (n:=0)).1 (callsIn_of_wp_marks hfn hbody trivial (hw none (.inl rfl) base w.heap.size ρ [] _ w _ (zHY hargs (by omega)) rfl (Nat.le_refl _) (zFO _ _ _ _) hrel wf hpre fun a' w' ρ' D' q1 q2 _ qm q3 q4 q5=>?_))
        obtain⟨ds,rfl,d1,d2⟩:=qm
        have fin:=zFJ (F:=Fence.wide) (n:=0) (P:=P) (fn:=fn) (tmps:=a'.tmps) (R:=fun e w'=>∃v' ρ',e=.returned v'∧HRel P base ρ' h1 w'∧HWF h1∧Ext base ρ h w ρ' h1 w'∧VRel ρ' v v') hrel.le (Nat.le_refl _) (fun w2 k1 k2=>by
         obtain⟨v',g1,g2⟩:=zIG k1 q1 hr' hres
         exact⟨v',g1,v',ρ',rfl,k1,q4,k2,g2⟩) ds w' d1 d2 q3 q5
        rcases he with rfl|rfl
        ·simp only[zA0,bodyPostM];rw[q2];exact fin
        ·simp only[zA0,bodyPostM];rw[q2];exact fin
       split at hx
       ·rename_i t' h1 hrun
        split at hx
        ·rename_i v1 hres
         cases hx
         exact key _ _ _ hrun (.inl rfl) hres rfl
        ·cases hx
       ·rename_i t' h1 hrun
        split at hx
        ·rename_i v1 hres
         cases hx
         exact key _ _ _ hrun (.inr rfl) hres rfl
        ·cases hx
       ·cases hx
      ·cases hx
     ·cases hfc
    ·cases hfc
   ·cases hfc
  ·cases hx
def zEY (P:Program) (Pg:Prog) (n:Nat):Prop:=∀N c xc t h e t' h',zr P N c=some xc→run Pg n (.loop xc) t h=some (e,t',h')→h.next≤h'.next ∧
 ∀ (rd:Option Nat),(rd=none∨zx xc=true)→∀ (base lo:Nat) (ρ:Ren) (D:List Deferred) (a:Act) (w:World) (Q:Exit→Act→World→Prop),FRel ρ N t a.tmps→a.defers=D→lo≤w.heap.size→Marks lo ρ h w D→HRel P base ρ h w→HWF h→(∀A,h.next≤A→A<h'.next→ρ A=none) →
  (∀a' w' ρ' D',FRel ρ' N t' a'.tmps→a'.defers=D'→lo≤w'.heap.size→Marks lo ρ' h' w' D'→HRel P base ρ' h' w'→HWF h'→Ext base ρ h w ρ' h' w'→Q (zA0 e) a' w')→Code.roundsIn (Wd rd) 0 P c Q n a w
theorem zHi {n:Nat} (ih:zDc P Pg n) (il:zEY P Pg n):zEY P Pg (n+1):=by
 intro N c xc t h e t' h' hc hr
 simp only[run] at hr
 split at hr
 ·rename_i t1 h1 hr1
  obtain⟨g1,g2⟩:=ih _ _ _ _ _ _ _ _ hc hr1
  obtain⟨g3,g4⟩:=il _ _ _ _ _ _ _ _ hc hr
  refine⟨Nat.le_trans g1 g3,fun rd hrd base lo ρ D a w Q hf hd hlo hmk hrel wf hpre hq=>?_⟩
  rw[roundsIn_succ]
  refine g2 rd hrd base lo ρ D a w _ hf hd hlo hmk hrel wf (fun A h2 h3=>hpre A h2 (by omega)) fun a1 w1 ρ1 D1 q1 q2 ql qm q3 q4 q5=>?_
  exact g4 rd hrd base lo ρ1 D1 a1 w1 Q q1 q2 ql qm q3 q4 (q5.pre hpre) fun a2 w2 ρ2 D2 r1 r2 rl rm r3 r4 r5=>hq a2 w2 ρ2 D2 r1 r2 rl rm r3 r4 (Ext.trans q4 hpre q5 r5)
 ·rename_i hne
  obtain⟨g1,g2⟩:=ih _ _ _ _ _ _ _ _ hc hr
  refine⟨g1,fun rd hrd base lo ρ D a w Q hf hd hlo hmk hrel wf hpre hq=>?_⟩
  rw[roundsIn_succ]
  refine g2 rd hrd base lo ρ D a w _ hf hd hlo hmk hrel wf hpre fun a1 w1 ρ1 D1 q1 q2 ql qm q3 q4 q5=>?_
  have:=hq a1 w1 ρ1 D1 q1 q2 ql qm q3 q4 q5
  cases e with
  | normal=>exact absurd hr (hne t' h')
  | exit i=>exact this
  | ret=>exact this
theorem zG8 (ok:XOK P Pg):∀n,zDc P Pg n∧zEY P Pg n:=by
 intro n
 induction n with
 | zero=>exact⟨fun N c xc t h e t' h' _ hr=>(by cases hr),fun N c xc t h e t' h' _ hr=>(by cases hr)⟩
 | succ n ihn =>
  obtain⟨ih,il⟩:=ihn
  have hcf:=zGw ok ih
  refine⟨?_,zHi ih il⟩
  intro N c xc t h e t' h' hc hr
  cases c<;>unfold zr at hc<;>try dsimp only at hc
  case skip =>
   cases hc;simp only[run,Option.some.injEq,Prod.mk.injEq] at hr
   obtain⟨rfl,rfl,rfl⟩:=hr
   exact⟨Nat.le_refl _,fun rd hrd base lo ρ D a w Q hf hd hlo hmk hrel wf hpre hq=>wpIn_skip (hq a w ρ D hf hd hlo hmk hrel wf (Ext.refl _ _ _ _))⟩
  case label l =>
   cases hc;simp only[run,Option.some.injEq,Prod.mk.injEq] at hr
   obtain⟨rfl,rfl,rfl⟩:=hr
   exact⟨Nat.le_refl _,fun rd hrd base lo ρ D a w Q hf hd hlo hmk hrel wf hpre hq=>wpIn_label (hq a w ρ D hf hd hlo hmk hrel wf (Ext.refl _ _ _ _))⟩
  case exit id =>
   cases hc;simp only[run,Option.some.injEq,Prod.mk.injEq] at hr
   obtain⟨rfl,rfl,rfl⟩:=hr
   exact⟨Nat.le_refl _,fun rd hrd base lo ρ D a w Q hf hd hlo hmk hrel wf hpre hq=>wpIn_exit (hq a w ρ D hf hd hlo hmk hrel wf (Ext.refl _ _ _ _))⟩
  case ret =>
   cases hc;simp only[run,Option.some.injEq,Prod.mk.injEq] at hr
   obtain⟨rfl,rfl,rfl⟩:=hr
   exact⟨Nat.le_refl _,fun rd hrd base lo ρ D a w Q hf hd hlo hmk hrel wf hpre hq=>wpIn_ret (hq a w ρ D hf hd hlo hmk hrel wf (Ext.refl _ _ _ _))⟩
  case region id ops d =>
   cases d with
   | true =>
    dsimp only at hc
    split at hc
    ·rename_i l cs hdc
     split at hc
     ·rename_i hb
      cases hc
      rw[Bool.and_eq_true] at hb
      simp only[run] at hr
      split at hr
      ·rename_i tr htr
       cases hchk:zAN l tr cs with
       | false=>rw[hchk] at hr;cases hr
       | true =>
        rw[hchk] at hr
        simp only[cond_true] at hr
        split at hr
        ·rename_i t1 h1 hlast
         simp only[Option.some.injEq,Prod.mk.injEq] at hr
         obtain⟨rfl,rfl,rfl⟩:=hr
         refine⟨?_,fun rd hrd base lo ρ D a w Q hf hd hlo hmk hrel wf hpre hq=>zM9 hcf ok.mixed hdc hb.1 hb.2 htr hchk hlast hf hd hrel wf hpre fun a' w' ρ' q1 q2 q3 q4 q5=>hq a' w' ρ' D q1 q2 (Nat.le_trans hlo q5.below_size) (hmk.ext q5 q4 hpre) q3 q4 q5⟩
         obtain⟨c,_⟩:=DCtx.of hcf hdc hb.1 hb.2 htr
         have:=c.mono_next (Nat.zero_le _) (Nat.le_refl _)
         rwa [(zDZ htr).2.2.1,(zIn htr hlast).2] at this
        ·cases hr
      ·cases hr
     ·cases hc
    ·cases hc
   | false =>
    dsimp only at hc
    split at hc
    ·rename_i l hl
     split at hc
     ·rename_i hb
      cases hc
      rw[Bool.and_eq_true] at hb
      simp only[run] at hr
      split at hr
      ·rename_i t1 h1 hops
       simp only[Option.some.injEq,Prod.mk.injEq] at hr
       obtain⟨rfl,rfl,rfl⟩:=hr
       refine⟨zHx hcf hops,fun rd hrd base lo ρ D a w Q hf hd hlo hmk hrel wf hpre hq=>wpIn_region ?_⟩
       have:=zFc (rd:=rd) hcf hb.2 (Q:=Q) l ops.toList 0 ρ t h a w rfl hl hb.1 hops hf hd hrel wf hpre fun a' w' ρ' q1 q2 q3 q4 q5=>hq a' w' ρ' D q1 q2 (Nat.le_trans hlo q5.below_size) (hmk.ext q5 q4 hpre) q3 q4 q5
       simpa using this
      ·cases hr
     ·cases hc
    ·cases hc
  case seq x y =>
   split at hc
   ·rename_i xa xb h1 h2
    cases hc
    simp only[run] at hr
    split at hr
    ·rename_i t1 h1' hr1
     obtain⟨g1,g2⟩:=ih _ _ _ _ _ _ _ _ h1 hr1
     obtain⟨g3,g4⟩:=ih _ _ _ _ _ _ _ _ h2 hr
     refine⟨Nat.le_trans g1 g3,fun rd hrd base lo ρ D a w Q hf hd hlo hmk hrel wf hpre hq=>wpIn_seq ?_⟩
     have hra:(rd=none∨zx xa=true)∧(rd=none∨zx xb=true):=by simp only[zx,Bool.and_eq_true] at hrd;exact⟨hrd.imp id (·.1),hrd.imp id (·.2)⟩
     refine g2 rd hra.1 base lo ρ D a w _ hf hd hlo hmk hrel wf (fun A h2 h3=>hpre A h2 (by omega)) fun a1 w1 ρ1 D1 q1 q2 ql qm q3 q4 q5=>?_
     exact g4 rd hra.2 base lo ρ1 D1 a1 w1 Q q1 q2 ql qm q3 q4 (q5.pre hpre) fun a2 w2 ρ2 D2 r1 r2 rl rm r3 r4 r5=>hq a2 w2 ρ2 D2 r1 r2 rl rm r3 r4 (Ext.trans q4 hpre q5 r5)
    ·rename_i hne
     obtain⟨g1,g2⟩:=ih _ _ _ _ _ _ _ _ h1 hr
     refine⟨g1,fun rd hrd base lo ρ D a w Q hf hd hlo hmk hrel wf hpre hq=>wpIn_seq ?_⟩
     have hra:(rd=none∨zx xa=true)∧(rd=none∨zx xb=true):=by simp only[zx,Bool.and_eq_true] at hrd;exact⟨hrd.imp id (·.1),hrd.imp id (·.2)⟩
     refine g2 rd hra.1 base lo ρ D a w _ hf hd hlo hmk hrel wf hpre fun a1 w1 ρ1 D1 q1 q2 ql qm q3 q4 q5=>?_
     have:=hq a1 w1 ρ1 D1 q1 q2 ql qm q3 q4 q5
     cases e with
     | normal=>exact absurd hr (hne t' h')
     | exit i=>exact this
     | ret=>exact this
   ·cases hc
  case cond cc x y =>
   split at hc
   ·rename_i xa xb h1 h2
    split at hc
    ·rename_i hok
     cases hc
     simp only[run] at hr
     split at hr
     ·rename_i hb
      obtain⟨g1,g2⟩:=ih _ _ _ _ _ _ _ _ h1 hr
      refine⟨g1,fun rd hrd base lo ρ D a w Q hf hd hlo hmk hrel wf hpre hq=>?_⟩
      have hra:(rd=none∨zx xa=true)∧(rd=none∨zx xb=true):=by simp only[zx,Bool.and_eq_true] at hrd;exact⟨hrd.imp id (·.1),hrd.imp id (·.2)⟩
      have he:=hf.eval hok
      rw[hb] at he
      cases hev:a.eval cc<;>rw[hev] at he<;>cases he
      exact wpIn_cond_true hev (g2 rd hra.1 base lo ρ D a w Q hf hd hlo hmk hrel wf hpre hq)
     ·rename_i hb
      obtain⟨g1,g2⟩:=ih _ _ _ _ _ _ _ _ h2 hr
      refine⟨g1,fun rd hrd base lo ρ D a w Q hf hd hlo hmk hrel wf hpre hq=>?_⟩
      have hra:(rd=none∨zx xa=true)∧(rd=none∨zx xb=true):=by simp only[zx,Bool.and_eq_true] at hrd;exact⟨hrd.imp id (·.1),hrd.imp id (·.2)⟩
      have he:=hf.eval hok
      rw[hb] at he
      cases hev:a.eval cc<;>rw[hev] at he<;>cases he
      exact wpIn_cond_false hev (g2 rd hra.2 base lo ρ D a w Q hf hd hlo hmk hrel wf hpre hq)
     ·cases hr
    ·cases hc
   ·cases hc
  case block id x =>
   split at hc
   ·rename_i xa h1
    cases hc
    simp only[run] at hr
    split at hr
    ·rename_i i t1 h1' hr1
     obtain⟨g1,g2⟩:=ih _ _ _ _ _ _ _ _ h1 hr1
     split at hr
     ·rename_i hi
      simp only[Option.some.injEq,Prod.mk.injEq] at hr
      obtain⟨rfl,rfl,rfl⟩:=hr
      refine⟨g1,fun rd hrd base lo ρ D a w Q hf hd hlo hmk hrel wf hpre hq=>wpIn_block (g2 rd hrd base lo ρ D a w _ hf hd hlo hmk hrel wf hpre fun a1 w1 ρ1 D1 q1 q2 ql qm q3 q4 q5=>?_)⟩
      simp only[zA0,Exit.inBlock,if_pos hi]
      exact hq a1 w1 ρ1 D1 q1 q2 ql qm q3 q4 q5
     ·rename_i hi
      simp only[Option.some.injEq,Prod.mk.injEq] at hr
      obtain⟨rfl,rfl,rfl⟩:=hr
      refine⟨g1,fun rd hrd base lo ρ D a w Q hf hd hlo hmk hrel wf hpre hq=>wpIn_block (g2 rd hrd base lo ρ D a w _ hf hd hlo hmk hrel wf hpre fun a1 w1 ρ1 D1 q1 q2 ql qm q3 q4 q5=>?_)⟩
      simp only[zA0,Exit.inBlock,if_neg hi]
      exact hq a1 w1 ρ1 D1 q1 q2 ql qm q3 q4 q5
    ·rename_i hne
     obtain⟨g1,g2⟩:=ih _ _ _ _ _ _ _ _ h1 hr
     refine⟨g1,fun rd hrd base lo ρ D a w Q hf hd hlo hmk hrel wf hpre hq=>wpIn_block (g2 rd hrd base lo ρ D a w _ hf hd hlo hmk hrel wf hpre fun a1 w1 ρ1 D1 q1 q2 ql qm q3 q4 q5=>?_)⟩
     have:=hq a1 w1 ρ1 D1 q1 q2 ql qm q3 q4 q5
     cases e with
     | normal=>exact this
     | exit i=>exact absurd hr (hne i t' h')
     | ret=>exact this
   ·cases hc
  case loop x =>
   split at hc
   ·rename_i xa h1
    cases hc
    obtain⟨g1,g2⟩:=zHi ih il _ _ _ _ _ _ _ _ h1 hr
    exact⟨g1,fun rd hrd base lo ρ D a w Q hf hd hlo hmk hrel wf hpre hq=>wpIn_loop_rounds (n+1) (g2 rd hrd base lo ρ D a w Q hf hd hlo hmk hrel wf hpre hq)⟩
   ·cases hc
  case scope x =>
   split at hc
   ·rename_i xa h1
    cases hc
    simp only[run] at hr
    obtain⟨g1,g2⟩:=ih _ _ _ _ _ _ _ _ h1 hr
    refine⟨g1,fun rd hrd base lo ρ D a w Q hf hd hlo hmk hrel wf hpre hq=>zOi (g2 rd hrd base lo ρ D a w _ hf hd hlo hmk hrel wf hpre fun a1 w1 ρ1 D1 q1 q2 ql qm q3 q4 q5=>?_)⟩
    have:=hq a1 w1 ρ1 D1 q1 q2 ql qm q3 q4 q5
    cases e<;>exact this
   ·cases hc
  case rangeFunc f ps x y =>
   split at hc
   ·rename_i xa xb hxa hxb
    split at hc
    ·rename_i hb
     cases hc
     simp only[Bool.and_eq_true] at hb
     obtain⟨⟨⟨hb1,hb2⟩,hb3⟩,hb4⟩:=hb
     simp only[run] at hr
     split at hr
     ·rename_i g first caps hfv
      split at hr
      ·rename_i vv h2 hcall
       obtain⟨hnx,ht⟩:=zHB hr
       subst ht
       obtain⟨⟨fn,hfn,hname,hbody⟩,hnx1,hcr⟩:=hcf.fn _ _ _ _ _ hcall
       have hnx1':h.next+1≤h2.next:=hnx1
       refine⟨by omega,fun rd hrd base lo ρ D a w Q hf hd hlo hmk hrel wf hpre hq=>?_⟩
       obtain rfl:rd=none:=by
        rcases hrd with h|h
        ·exact h
        ·cases h
       have hρ:ρ h.next=none:=hpre h.next (Nat.le_refl _) (by omega)
       have he:=hf.eval hb1
       rw[hfv] at he
       cases hev:a.eval f<;>rw[hev] at he<;>cases he
       rename_i first' caps' ha1 hb1' ha2 hb2'
       refine wpIn_rangeFunc fun fno _=>?_
       let q0:Loop:={ state:=.ready,pending:=none,fn:=fno,tmps:=a.tmps,params:=ps,assign:=x,body:=y,defers:=w.heap.size }
       have hok0:LoopOK P ρ ⟨t',N,ps.toList,xa,xb,.ready,none⟩ q0:=⟨hf,rfl,fun p hp=>by
        rw[List.all_eq_true] at hb2
        exact Nat.le_of_ble_eq_true (hb2 p hp),hxa,hxb,hb3,hb4,rfl,rfl⟩
       obtain⟨s1,s2,s3⟩:=zN2 hrel wf hρ hok0
       have hL:upd ρ h.next ⟨w.heap.size+1,0,0⟩ h.next=some ⟨w.heap.size+1,0,0⟩:=z8
       have hpre1:∀B,(h.pushLoop ⟨t',N,ps.toList,xa,xb,.ready,none⟩).next≤B→B<h2.next→upd ρ h.next ⟨w.heap.size+1,0,0⟩ B=none:=fun B k1 k2=>s3.pre (h2:=h2) (fun A k3 k4=>hpre A k3 (by omega)) B k1 k2
       have hargs:LRel (upd ρ h.next ⟨w.heap.size+1,0,0⟩) (first.toList++[(.func (.yield h.next) #[] #[]:Value)]++caps.toList) (first'.toList++[(.func (.yield (w.heap.size+1)) #[] #[]:Value)]++caps'.toList) :=
        (((zBK ha1 hb1').mono s3.mono).append (.cons (VRel.yield (l:=⟨w.heap.size+1,0,0⟩) hL) .nil)).append ((zBK ha2 hb2').mono s3.mono)
       refine⟨w.heap.size+1,[zCe w.heap.size],(w.alloc (.deferred (some []))).alloc (.loop q0),{ target:=.fn (.func g) caps',args:=first'++#[(.func (.yield (w.heap.size+1)) #[] #[]:Value)] },(w.alloc (.deferred (some []))).alloc (.loop q0),g,
        (first'.toList++[(.func (.yield (w.heap.size+1)) #[] #[]:Value)]++caps'.toList).toArray,(w.alloc (.deferred (some []))).alloc (.loop q0),run_enterLoop_outer _ _ _ _ _,?_,fun _ _=>trivial,?_,fun hdp=>(by cases hdp),?_⟩
       ·have hmap:Array.map a.eval #[Operand.const (Value.func (Fn.yield (w.heap.size+1)) #[] #[])]=#[(.func (.yield (w.heap.size+1)) #[] #[]:Value)]:=by simp[Act.eval]
        simp only[resolve,hev,Deferred.ofValue,Sem.run_pure,hmap]
       ·have hmk':(first'++#[(.func (.yield (w.heap.size+1)) #[] #[]:Value)]++caps')=(first'.toList++[(.func (.yield (w.heap.size+1)) #[] #[]:Value)]++caps'.toList).toArray:=by
         apply Array.ext';simp
        simp only[invoke,callFunc,Sem.run_bind,run_program,Result.andThen_ok,hfn,hmk']
        rw[if_neg (by simpa using hname),if_neg (by cases hbb:fn.body<;>simp_all)]
        rfl
       ·refine (callsIn_wide (n:=0 - 1)).2 ((hcr base _ _ _ s1 s2 hpre1 hargs).mono fun e2 w2 hq2=>?_)
        obtain⟨v',ρ2,rfl,p1,p2,p3,p4⟩:=hq2
        have hA2:=p3.mono _ _ hL
        unfold endX at hr
        split at hr
        ·rename_i r2 hr2
         split at hr
         ·cases hr
         ·rename_i hnb
          simp only[Option.some.injEq,Prod.mk.injEq] at hr
          obtain⟨rfl,-,rfl⟩:=hr
          obtain⟨q2,hq2,hbs,hok2⟩:=p1.loops.recd _ _ r2 hr2 hA2
          obtain⟨z1,z2,z3⟩:=zFM (r':={ r2 with st:=.exhausted }) (q':={ q2 with state:=.exhausted }) p1 p2 hr2 hA2 hq2 hbs ⟨hok2.fr,hok2.ps,hok2.pb,hok2.asg,hok2.body,hok2.nra,hok2.nrb,rfl,hok2.pend⟩
          have hpre':∀B,h.next≤B→B<h2.next→ρ B=none:=fun B k1 k2=>hpre B k1 k2
          have x1:Ext base ρ h w ρ2 h2 w2:=Ext.trans s2 hpre' s3 p3
          have x2:=Ext.trans p2 hpre x1 z3
          have hmark0:MarkAt lo (upd ρ h.next ⟨w.heap.size+1,0,0⟩) (h.pushLoop ⟨t',N,ps.toList,xa,xb,.ready,none⟩) ((w.alloc (.deferred (some []))).alloc (.loop q0)) w.heap.size:=by
           refine⟨hlo,?_,fun A l hA hs=>?_⟩
           ·exact (Below.heap_alloc _ _ _ (by simp)).trans (World.alloc_heap_new w _)
           ·by_cases e:A=h.next
            ·subst e;rw[z8] at hA;cases hA;simp
            ·rw[zl e] at hA
             have:=hrel.bnd A l hA;omega
          have hpre2:∀B,h2.next≤B→B<(h2.setBlk h.next (.loop { r2 with st:=.exhausted })).next→ρ2 B=none:=fun B k1 k2=>absurd k2 (Nat.not_lt.2 k1)
          have hmarks:Marks lo ρ2 (h2.setBlk h.next (.loop { r2 with st:=.exhausted })) (w2.putObj (w.heap.size+1) (.loop { q2 with state:=.exhausted })) (zCe w.heap.size::D):=by
           obtain⟨ds,d1,d2,d3⟩:=hmk
           refine⟨w.heap.size::ds,by rw[d1];rfl,List.nodup_cons.2 ⟨fun hin=>?_,d2⟩,fun d hdm=>?_⟩
           ·have:=(Array.getElem?_eq_some_iff.1 (d3 _ hin).2.1).1
            omega
           ·rcases List.mem_cons.1 hdm with rfl|hdm
            ·exact (hmark0.ext p3 p2 hpre1).ext z3 z2 hpre2
            ·exact ((d3 d hdm).ext x1 p2 hpre').ext z3 z2 hpre2
          refine⟨_,_,run_endLoop hq2 (by rw[hok2.st];exact hnb),?_⟩
          have key:Q (zA0 (r2.pend.getD .normal)) { a with defers:=[zCe w.heap.size]++a.defers } (w2.putObj (w.heap.size+1) (.loop { q2 with state:=.exhausted })) :=
           hq _ _ ρ2 (zCe w.heap.size::D) (hf.mono x1.mono) (by simp[hd]) (Nat.le_trans hlo x2.below_size) hmarks z1 z2 x2
          rw[hok2.pend] at key ⊢
          cases hpd:r2.pend with
          | none=>rw[hpd] at key;exact key
          | some e1=>rw[hpd] at key;exact jump_run key
        ·cases hr
      ·cases hr
     ·cases hr
    ·cases hc
   ·cases hc
  all_goals cases hc
theorem zGx (ok:XOK P Pg) (n:Nat):CFOk P (call Pg n):=zGw ok (zG8 ok n).1
theorem zNa (w:World):HRel P w.heap.size (fun _=>none) Heap.empty w∧HWF Heap.empty:=by
 have hb:∀A,Heap.empty.blks.get A=none:=fun A=>PT.get_leaf A
 have hok:∀A c,¬Heap.empty.okCells A=some c:=fun A c h=>by have:=(okCells_iff.1 h).1;rw[hb] at this;cases this
 refine⟨⟨Nat.le_refl _,fun A l h=>(by cases h),fun A c h=>(by rw[hb] at h;cases h),fun A c l h=>absurd h (hok A c),fun A B c d l m _ h=>absurd h (hok A c),fun A l es st h=>(by rw[hb] at h;cases h),fun A B es st fs su l m _ h=>(by rw[hb] at h;cases h),⟨0,fun _ _=>rfl⟩,fun A c f l h=>absurd h (hok A c),⟨fun A l r h=>(by rw[hb] at h;cases h),fun A l r h=>(by rw[hb] at h;cases h),fun A B r s l m _ h=>(by rw[hb] at h;cases h),fun A l ⟨c,h,_⟩=>(by rw[hb] at h;cases h),fun A l es st es' cl h=>(by rw[hb] at h;cases h)⟩⟩,
  ⟨fun A _=>⟨hb A,PT.get_leaf A⟩,fun A c h=>(by rw[hb] at h;cases h),fun A c f h=>absurd h (hok A c)⟩⟩
theorem zG0 (ok:XOK P Pg) {n f:Nat} {args args':List Value} {v:Value} {h':Heap} (hc:call Pg n f args Heap.empty=some (v,h')) (ha:LRel (fun _=>none) args args') (w:World) :
  Calls P f args'.toArray w fun e w'=>∃v' ρ',e=.returned v'∧HRel P w.heap.size ρ' h' w'∧VRel ρ' v v'∧Below w.heap.size w w':=by
 obtain⟨_,_,h3⟩:=(zGx ok n).fn f args Heap.empty v h' hc
 obtain⟨h1,h2⟩:=zNa w
 refine (h3 w.heap.size _ w args' h1 h2 (fun _ _ _=>rfl) ha).mono fun e w' hq=>?_
 obtain⟨v',ρ',rfl,q1,q2,q3,q4⟩:=hq
 exact⟨v',ρ',rfl,q1,q4,q3.below⟩
end
end Go.X
end
