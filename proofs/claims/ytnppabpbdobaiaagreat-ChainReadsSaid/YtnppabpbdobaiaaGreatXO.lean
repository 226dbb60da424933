/- A chain is taken; any bytes are one, or refused. -/
import Derived.Test.YtnppabpbdobaiaaGreatXH
import Derived.Test.YtnppabpbdobaiaaGreatXI
import Derived.Test.YtnppabpbdobaiaaGreatXN
set_option linter.unusedSimpArgs false
set_option linter.unusedVariables false
set_option maxHeartbeats 2000000
open Nat renaming reduceLeDiff → zam, reduceEqDiff → zan, reduceAdd → zao
open Int renaming reduceBEq → zap, reduceLT → zaq, reduceLE → zar, reduceGT → zas, reduceGE → zat, reduceEq → zau, reduceAdd → zav, reduceSub → zaw, reduceMul → zax
section
open Go Go.X Go.Proofs Go.RowKit
namespace Go.X
set_option linter.unusedVariables false
set_option maxRecDepth 100000 in
theorem CD_run {pr:Prog} (T:ChTab pr) {h:Heap} {s:List UInt8} (hs:s.length≤9223372036854775807) :
  ∃w h',cfi pr 32 [.string (strOf s)] h=some (w,h')∧zGd h s w h':=by
 refine zj T.cd T.cdC rfl ?_
 unfold xq32
 dsimp only[zW]
 refine wpk.out (k:=[]) ?_
 have TW:=T.w
 obtain⟨ga,ea,ra,ka⟩:=zJV TW h s hs
 have na:h.next<ga.next:=ra.2.1
 obtain⟨gb,eb,rb,kb⟩:=zFG TW ra 32 (by omega)
 have ta:=zGR ⟨s,0,0⟩ 32
 have la:=zGS ⟨s,0,0⟩ 32
 obtain⟨a,ha⟩:∃a,zBV ⟨s,0,0⟩ 32=a:=⟨_,rfl⟩
 rw[ha] at eb rb ta la
 have eb:cfi pr 87 [.pointer (some ⟨h.next,0,none⟩),.int .i64 32] ga=some (.string (strOf a.2),gb):=eb
 obtain⟨v1,gc,ec,rc,oc,fc,kc⟩:=TM_run T.mem rb
 have tb:=zMM a.1
 have lb:=zLA a.1
 obtain⟨b,hb⟩:∃b,zAn a.1=b:=⟨_,rfl⟩
 rw[hb] at rc oc fc tb lb
 obtain⟨av,cv,rfl,_⟩:=oc.shape
 have nb:=kb.next
 have nc:=kc.next
 have kac:Keeps (fun A=>A=h.next) ga gc:=kb.trans kc (fun _ _ e=>e)
 have Gc:Grows h gc:=ka.then kac (fun A hA e=>by omega)
 obtain⟨C0,hC0⟩:∃C0:List Value,C0=[.string (strOf a.2),.slice av b.2.length cv,.slice none 0 0,.int .u64 0,.int .u64 0,.string (strOf []),.slice none 0 0,.pointer none,.pointer none]:=⟨_,rfl⟩
 have fl:zt [.string (strOf []),.slice none 0 0,.slice none 0 0,.int .u64 0,.int .u64 0,.string (strOf []),.slice none 0 0,.pointer none,.pointer none] [(0,1,.string (strOf a.2)),(1,1,.slice av b.2.length cv)]=some C0:=by rw[hC0];rfl
 have cp:zl (Value.agg C0.toArray)=C0:=by rw[hC0];rfl
 obtain⟨gd,hgd,vd,kd,nd⟩:=box5 (h:=gc) C0
 obtain⟨ge,hge,ve,ke,ne⟩:=box5 (h:=gd) [.pointer none]
 rw[nd] at ve
 have se:zAG ge 1 (.pointer (some ⟨gc.next+1,0,none⟩)) (.pointer (some ⟨gc.next,0,none⟩))=some (.tuple #[],ge.wr (gc.next+1) [.pointer (some ⟨gc.next,0,none⟩)]):=by rw[zY rfl,ve.store1 (by simp) rfl];rfl
 obtain⟨gf,hgf⟩:∃gf,ge.wr (gc.next+1) [.pointer (some ⟨gc.next,0,none⟩)]=gf:=⟨_,rfl⟩
 have vf:Var gf (gc.next+1) [.pointer (some ⟨gc.next,0,none⟩)]:=by rw[←hgf];exact ve.wr
 have kf:Keeps (fun A=>A=gc.next+1) ge gf:=by rw[←hgf];exact Keeps.wr
 have nf:=kf.next
 rw[hgf] at se
 have kcf:Grows gc gf:=(kd.trans ke).then kf (fun A hA e=>by omega)
 have Gf:Grows h gf:=Gc.trans kcf
 have vK:=(vd.grow ke).keep kf (fun e=>by omega)
 have rf:=rc.grow kcf
 obtain⟨gg,eg,rg,kg⟩:=zFF TW rf 8 (by decide)
 have tg:=zGQ b.1 8
 have lg:(zb b.1 8).2<18446744073709551616:=zFy b.1 (k:=8) (by decide)
 obtain⟨c,hc⟩:∃c,zb b.1 8=c:=⟨_,rfl⟩
 rw[hc] at eg rg tg lg
 have eg:cfi pr 89 [.pointer (some ⟨h.next,0,none⟩),.int .i64 8] gf=some (uw .u64 c.2,gg):=eg
 rw[←zCp lg] at eg
 obtain⟨gh,eh,rh,kh⟩:=zXC TW rg
 have th:=zZl c.1
 obtain⟨d,hd⟩:∃d,zd c.1 32=d:=⟨_,rfl⟩
 rw[hd] at eh rh th
 obtain⟨v2,gi,ei,ri,oi,fi,ki⟩:=TM_run T.mem rh
 have ti:=zMM d.1
 have li:=zLA d.1
 obtain⟨e,he⟩:∃e,zAn d.1=e:=⟨_,rfl⟩
 rw[he] at ri oi fi ti li
 obtain⟨aw,cw,rfl,_⟩:=oi.shape
 have ng:=kg.next
 have nh:=kh.next
 have ni:=ki.next
 have kfi:Keeps (fun A=>A=h.next) gf gi:=(kg.trans kh (fun _ _ e=>e)).trans ki (fun _ _ e=>e)
 have vKi:=vK.keep kfi (fun e=>by omega)
 have vf1:=vf.keep kg (fun e=>by omega)
 have vf2:=vf1.keep kh (fun e=>by omega)
 have vf3:=vf2.keep ki (fun e=>by omega)
 obtain⟨C1,hC1⟩:∃C1:List Value,C1=[.string (strOf a.2),.slice av b.2.length cv,.slice none 0 0,.int .u64 0,.int .u64 (c.2:Int),.string (strOf d.2),.slice aw e.2.length cw,.pointer none,.pointer none]:=⟨_,rfl⟩
 have fl3:zt [.int .u64 0,.string (strOf []),.slice none 0 0] [(0,1,.int .u64 (c.2:Int)),(1,1,.string (strOf d.2)),(2,1,.slice aw e.2.length cw)]=some [.int .u64 (c.2:Int),.string (strOf d.2),.slice aw e.2.length cw]:=rfl
 have si:zAG gi 3 (.pointer (some ⟨gc.next,4,none⟩)) (.agg [.int .u64 (c.2:Int),.string (strOf d.2),.slice aw e.2.length cw].toArray)=some (.tuple #[],gi.wr gc.next C1):=by
  rw[zMB (n:=3) (cs:=[.int .u64 (c.2:Int),.string (strOf d.2),.slice aw e.2.length cw]) rfl (by decide),vKi.store (by rw[hC0];show 4+3≤9;decide) rfl,hC0,hC1];rfl
 obtain⟨gj,hgj⟩:∃gj,gi.wr gc.next C1=gj:=⟨_,rfl⟩
 have vj:Var gj gc.next C1:=by rw[←hgj];exact vKi.wr
 have kj:Keeps (fun A=>A=gc.next) gi gj:=by rw[←hgj];exact Keeps.wr
 have nj:=kj.next
 rw[hgj] at si
 have rj:=ri.keep kj (fun e=>by omega)
 have vfj:=vf3.keep kj (fun e=>by omega)
 obtain⟨gk,ek,rk,kk⟩:=zFG TW rj 1048576 (by omega)
 have tk:=zGR e.1 1048576
 have lk:=zGS e.1 1048576
 obtain⟨f,hf⟩:∃f,zBV e.1 1048576=f:=⟨_,rfl⟩
 rw[hf] at ek rk tk lk
 have ek:cfi pr 87 [.pointer (some ⟨h.next,0,none⟩),.int .i64 1048576] gj=some (.string (strOf f.2),gk):=ek
 obtain⟨gl,el,rl,kl⟩:=zJa TW rk
 have kjl:Keeps (fun A=>A=h.next) gj gl:=kk.trans kl (fun _ _ e=>e)
 have nl:=kjl.next
 have vl:=vj.keep kjl (fun e=>by omega)
 have vfl:=vfj.keep kjl (fun e=>by omega)
 have o1:=((((oc.bound.grow kcf).keep kfi (fun A hA e=>by have:=hA.1;omega)).keep kj (fun A hA e=>by have:=hA.2;omega)).keep kjl (fun A hA e=>by have:=hA.1;omega))
 have o2:=(((oi.bound).keep kj (fun A hA e=>by have:=hA.1;omega)).keep kjl (fun A hA e=>by have:=hA.1;omega))
 have r1:RdInts gl (.slice av b.2.length cv) b.2:=o1.rdInts fun x hx=>by have:=fc x hx;omega
 have r2:RdInts gl (.slice aw e.2.length cw) e.2:=o2.rdInts fun x hx=>by have:=fi x hx;omega
 have Gl:Grows h gl:=((Gf.then kfi (fun A hA e=>by omega)).then kj (fun A hA e=>by omega)).then kjl (fun A hA e=>by omega)
 have tAll:Takes ⟨s,0,0⟩ f.1 (zA4 a.2++zBB b.2++numB c.2 8++zBO d.2++zBB e.2++zA4 f.2):=((((ta.trans tb).trans tg).trans th).trans ti).trans tk
 have p0:∀sp,gf.load ⟨gc.next+1,0,sp⟩=some (.pointer (some ⟨gc.next,0,none⟩)):=fun sp=>vf.load
 have p1:∀sp,gg.load ⟨gc.next+1,0,sp⟩=some (.pointer (some ⟨gc.next,0,none⟩)):=fun sp=>vf1.load
 have p2:∀sp,gh.load ⟨gc.next+1,0,sp⟩=some (.pointer (some ⟨gc.next,0,none⟩)):=fun sp=>vf2.load
 have p3:∀sp,gi.load ⟨gc.next+1,0,sp⟩=some (.pointer (some ⟨gc.next,0,none⟩)):=fun sp=>vf3.load
 have pl:∀sp,gl.load ⟨gc.next+1,0,sp⟩=some (.pointer (some ⟨gc.next,0,none⟩)):=fun sp=>vfl.load
 (repeat (first|refine zP ?_|refine zL ?_|refine zO ?_|refine zC ?_|refine zB ?_|refine zJ ?_|refine zK ?_|refine zM ?_|refine zF ?_|refine zH ?_|refine zG ?_|refine zI (by decide) ?_|refine zN ?_|((first|refine zE ?_|refine zQ ?_|refine zR rfl ?_|refine zD ?_);simp only[yq32.down,zA,lemS.down,lemC.down,zap,zao,zam,reduceIte,zan,zaq,zar,zas,zat,zau,zav,zaw,zax,reduceCtorEq,lemH.down,ea,eb,ec,fl,cp,hgd,hge,se,p0,eg,eh,ei,fl3,si])))
 refine⟨?_,?_,?_,?_⟩
 ·(refine zAa rfl rfl rfl ?_ ?_<;>simp only[yq32.down,zA,lemS.down,lemC.down,zap,zao,zam,reduceIte,zan,zaq,zar,zas,zat,zau,zav,zaw,zax,reduceCtorEq,lemH.down,p0,p1,p2,p3,zAA,zz,zAB,z8,zw,Option.isSome_some])
 ·(refine zAa rfl rfl rfl ?_ ?_<;>simp only[yq32.down,zA,lemS.down,lemC.down,zap,zao,zam,reduceIte,zan,zaq,zar,zas,zat,zau,zav,zaw,zax,reduceCtorEq,lemH.down,p0,p1,p2,p3,zAA,zz,zAB,z8,zw,Option.isSome_some])
 ·(refine zAa rfl rfl rfl ?_ ?_<;>simp only[yq32.down,zA,lemS.down,lemC.down,zap,zao,zam,reduceIte,zan,zaq,zar,zas,zat,zau,zav,zaw,zax,reduceCtorEq,lemH.down,p0,p1,p2,p3,zAA,zz,zAB,z8,zw,Option.isSome_some])
 refine kont_gen (P:=fun u=>u.get 4=.pointer (some ⟨h.next,0,none⟩)∧u.get 5=.pointer (some ⟨gc.next+1,0,none⟩)) ⟨by simp only[yq32.down,zA,lemS.down,lemC.down,zap,zao,zam,reduceIte,zan,zaq,zar,zas,zat,zau,zav,zaw,zax,reduceCtorEq],by simp only[yq32.down,zA,lemS.down,lemC.down,zap,zao,zam,reduceIte,zan,zaq,zar,zas,zat,zau,zav,zaw,zax,reduceCtorEq]⟩ ?_
 rintro u ⟨t4,t5⟩
 obtain⟨E,hE⟩:∃E,(endR f.1).err=E:=⟨_,rfl⟩
 rw[hE] at el
 by_cases e0:¬E=0
 ·have b0:((E:Int)==0)=false:=by rw[beq_eq_false_iff_ne];omega
  (repeat (first|refine zP ?_|refine zL ?_|refine zO ?_|refine zC ?_|refine zB ?_|refine zJ ?_|refine zK ?_|refine zM ?_|refine zF ?_|refine zH ?_|refine zG ?_|refine zI (by decide) ?_|refine zN ?_|((first|refine zE ?_|refine zQ ?_|refine zR rfl ?_|refine zD ?_);simp only[yq32.down,zA,lemS.down,lemC.down,zap,zao,zam,reduceIte,zan,zaq,zar,zas,zat,zau,zav,zaw,zax,reduceCtorEq,lemH.down,t4,t5,ek,el,b0,Bool.not_false])))
  exact⟨.inr rfl,_,by simp only[yq32.down,zA,lemS.down,lemC.down,zap,zao,zam,reduceIte,zan,zaq,zar,zas,zat,zau,zav,zaw,zax,reduceCtorEq],Gl,.inl ⟨E,e0,rfl⟩⟩
 have e0:E=0:=Decidable.not_not.1 e0
 have b0:((E:Int)==0)=true:=by rw[e0];rfl
 have tA:=zMK tAll (hE.trans e0)
 obtain⟨w,gm,em,km,dm⟩:=SDec_run T.dec (h:=gl) (s:=f.2) (by omega)
 rcases dm with ⟨z,hz,rfl⟩|⟨X,R,l,st,hX,hR,rfl,vX,mR,rise,ll,lq,tS⟩
 ·have bz:((z:Int)==0)=false:=by rw[beq_eq_false_iff_ne];omega
  (repeat (first|refine zP ?_|refine zL ?_|refine zO ?_|refine zC ?_|refine zB ?_|refine zJ ?_|refine zK ?_|refine zM ?_|refine zF ?_|refine zH ?_|refine zG ?_|refine zI (by decide) ?_|refine zN ?_|((first|refine zE ?_|refine zQ ?_|refine zR rfl ?_|refine zD ?_);simp only[yq32.down,zA,lemS.down,lemC.down,zap,zao,zam,reduceIte,zan,zaq,zar,zas,zat,zau,zav,zaw,zax,reduceCtorEq,lemH.down,t4,t5,ek,el,b0,em,bz,Bool.not_true,Bool.not_false])))
  exact⟨.inr rfl,_,by simp only[yq32.down,zA,lemS.down,lemC.down,zap,zao,zam,reduceIte,zan,zaq,zar,zas,zat,zau,zav,zaw,zax,reduceCtorEq],Gl.trans km,.inl ⟨z,hz,rfl⟩⟩
 unfold ptr at em
 (repeat (first|refine zP ?_|refine zL ?_|refine zO ?_|refine zC ?_|refine zB ?_|refine zJ ?_|refine zK ?_|refine zM ?_|refine zF ?_|refine zH ?_|refine zG ?_|refine zI (by decide) ?_|refine zN ?_|((first|refine zE ?_|refine zD ?_);simp only[yq32.down,zA,lemS.down,lemC.down,zap,zao,zam,reduceIte,zan,zaq,zar,zas,zat,zau,zav,zaw,zax,reduceCtorEq,lemH.down,t4,t5,ek,el,b0,em,Bool.not_true])))
 refine zIl (P:=fun u=>u.get 5=.pointer (some ⟨gc.next+1,0,none⟩)∧u.get 8=.pointer (some ⟨X,0,none⟩)) ⟨by simp only[yq32.down,zA,lemS.down,lemC.down,zap,zao,zam,reduceIte,zan,zaq,zar,zas,zat,zau,zav,zaw,zax,reduceCtorEq,t5],by simp only[yq32.down,zA,lemS.down,lemC.down,zap,zao,zam,reduceIte,zan,zaq,zar,zas,zat,zau,zav,zaw,zax,reduceCtorEq]⟩ ?_
 clear t4 t5
 rintro u ⟨t5,t8⟩
 have vK2:=vl.grow km
 have vC2:=vfl.grow km
 have pm:∀sp,gm.load ⟨gc.next+1,0,sp⟩=some (.pointer (some ⟨gc.next,0,none⟩)):=fun sp=>vC2.load
 have q4:∀sp,gm.load ⟨gc.next,4,sp⟩=some (.int .u64 (c.2:Int)):=fun sp=>by rw[vK2.load,hC1];rfl
 have l2:b.2.length≤1000000:=by omega
 have rm1:RdInts gm (.slice av b.2.length cv) b.2:=r1.grow km
 have rm2:RdInts gm (.slice aw e.2.length cw) e.2:=r2.grow km
 have nl2:=km.next
 have sAll:chB a.2 b.2 c.2 d.2 e.2 l=s:=by rw[←tA,chB,tS]
 have tail:=fun (u:Fr) (g:Heap) (t5:u.get 5=.pointer (some ⟨gc.next+1,0,none⟩)) (t8:u.get 8=.pointer (some ⟨X,0,none⟩)) (kg:Grows gm g) =>
  CD_tail T (h:=h) (s:=s) t5 t8 (vC2.grow kg) (by have:=vK2.grow kg;rw[hC1] at this;exact this) lg (by omega) ((o1.grow km).grow kg) fc (fun A hA=>by have:=hA.2;have:=(km.trans kg).next;omega) (by omega) ((o2.grow km).grow kg) fi (fun A hA=>by have:=hA.1;have:=hA.2;have:=(km.trans kg).next;omega) (by omega) (vX.grow kg) (mR.grow kg) rise ll lq sAll ((Gl.trans km).trans kg) (by omega) (by omega) (by omega) (by omega)
 by_cases c0:¬c.2=0
 ·have b2:((c.2:Int)==0)=false:=by rw[beq_eq_false_iff_ne];omega
  (repeat (first|refine zP ?_|refine zL ?_|refine zO ?_|refine zC ?_|refine zB ?_|refine zJ ?_|refine zK ?_|refine zM ?_|refine zF ?_|refine zH ?_|refine zG ?_|refine zI (by decide) ?_|refine zN ?_|((first|refine zE ?_|refine zQ ?_|refine zR rfl ?_|refine zD ?_);simp only[yq32.down,zA,lemS.down,lemC.down,zap,zao,zam,reduceIte,zan,zaq,zar,zas,zat,zau,zav,zaw,zax,reduceCtorEq,lemH.down,t5,t8,Bool.not_true,pm,q4,b2,zo])))
  refine⟨⟨?_,?_⟩,?_⟩
  ·refine zKC rfl rfl rfl ?_
   simp only[yq32.down,zA,lemS.down,lemC.down,zap,zao,zam,reduceIte,zan,zaq,zar,zas,zat,zau,zav,zaw,zax,reduceCtorEq,zo]
  ·refine zKC rfl rfl rfl ?_
   simp only[yq32.down,zA,lemS.down,lemC.down,zap,zao,zam,reduceIte,zan,zaq,zar,zas,zat,zau,zav,zaw,zax,reduceCtorEq,zo]
  refine zB ?_
  refine zD ?_
  simp only[yq32.down,zA,lemS.down,lemC.down,zap,zao,zam,reduceIte,zan,zaq,zar,zas,zat,zau,zav,zaw,zax,reduceCtorEq]
  refine zC ?_
  exact tail _ _ (by simp only[yq32.down,zA,lemS.down,lemC.down,zap,zao,zam,reduceIte,zan,zaq,zar,zas,zat,zau,zav,zaw,zax,reduceCtorEq,t5]) (by simp only[yq32.down,zA,lemS.down,lemC.down,zap,zao,zam,reduceIte,zan,zaq,zar,zas,zat,zau,zav,zaw,zax,reduceCtorEq,t8]) (Grows.refl _)
 have c0:c.2=0:=Decidable.not_not.1 c0
 have b2:((c.2:Int)==0)=true:=by rw[c0];rfl
 obtain⟨gs,gn,en,kn⟩:=CGen_run T vK2 (name:=a.2) (v1:=.slice av b.2.length cv) (m1:=b.2) (by rw[hC1];rfl) (by rw[hC1];rfl) (by omega) rm1 (by omega)
 have vK3:=vK2.grow kn
 have pn:∀sp,gn.load ⟨gc.next+1,0,sp⟩=some (.pointer (some ⟨gc.next,0,none⟩)):=fun sp=>(vC2.grow kn).load
 have q5:∀sp,gm.load ⟨gc.next,5,sp⟩=some (.string (strOf d.2)):=fun sp=>by rw[vK2.load,hC1];rfl
 have q51:∀sp,gn.load ⟨gc.next,5,sp⟩=some (.string (strOf d.2)):=fun sp=>by rw[vK3.load,hC1];rfl
 have n1:∀sp,gn.load ⟨gc.next,1,sp⟩=some (.slice av b.2.length cv):=fun sp=>by rw[vK3.load,hC1];rfl
 have n6:∀sp,gn.load ⟨gc.next,6,sp⟩=some (.slice aw e.2.length cw):=fun sp=>by rw[vK3.load,hC1];rfl
 have sl:=zJc T.dec.enc (vX.grow kn) (mR.grow kn)
 have bad:Grows h gn→zGd h s (.tuple #[.pointer none,.int .i64 6]) gn:=fun k=>⟨k,.inl ⟨6,by decide,rfl⟩⟩
 have Gn:Grows h gn:=(Gl.trans km).trans kn
 by_cases c3:¬d.2=gs
 ·have b3:(d.2==gs)=false:=by rw[beq_eq_false_iff_ne];exact c3
  (repeat (first|refine zP ?_|refine zL ?_|refine zO ?_|refine zC ?_|refine zB ?_|refine zJ ?_|refine zK ?_|refine zM ?_|refine zF ?_|refine zH ?_|refine zG ?_|refine zI (by decide) ?_|refine zN ?_|((first|refine zE ?_|refine zQ ?_|refine zR rfl ?_|refine zD ?_);simp only[yq32.down,zA,lemS.down,lemC.down,zap,zao,zam,reduceIte,zan,zaq,zar,zas,zat,zau,zav,zaw,zax,reduceCtorEq,lemH.down,t5,t8,Bool.not_true,Bool.not_false,pm,pn,q4,b2,q5,en,b3,zo])))
  refine⟨⟨?_,?_⟩,?_⟩
  ·(refine zCb rfl rfl rfl ?_ ?_<;>simp only[yq32.down,zA,lemS.down,lemC.down,zap,zao,zam,reduceIte,zan,zaq,zar,zas,zat,zau,zav,zaw,zax,reduceCtorEq,lemH.down,t5,pm,pn,q4,q5,q51,zAA,zz,zAB,z8,zw,Option.isSome_some])
  ·(refine zCb rfl rfl rfl ?_ ?_<;>simp only[yq32.down,zA,lemS.down,lemC.down,zap,zao,zam,reduceIte,zan,zaq,zar,zas,zat,zau,zav,zaw,zax,reduceCtorEq,lemH.down,t5,pm,pn,q4,q5,q51,zAA,zz,zAB,z8,zw,Option.isSome_some])
  (repeat (first|refine zP ?_|refine zL ?_|refine zO ?_|refine zC ?_|refine zB ?_|refine zJ ?_|refine zK ?_|refine zM ?_|refine zF ?_|refine zH ?_|refine zG ?_|refine zI (by decide) ?_|refine zN ?_|((first|refine zE ?_|refine zQ ?_|refine zR rfl ?_|refine zD ?_);simp only[yq32.down,zA,lemS.down,lemC.down,zap,zao,zam,reduceIte,zan,zaq,zar,zas,zat,zau,zav,zaw,zax,reduceCtorEq,lemH.down])))
  exact⟨.inr rfl,_,by simp only[yq32.down,zA,lemS.down,lemC.down,zap,zao,zam,reduceIte,zan,zaq,zar,zas,zat,zau,zav,zaw,zax,reduceCtorEq],bad Gn⟩
 have c3:d.2=gs:=Decidable.not_not.1 c3
 have b3:(d.2==gs)=true:=by rw[c3];simp
 by_cases c4:0<l.length
 ·have b4:decide ((l.length:Int)>0)=true:=decide_eq_true (by omega)
  (repeat (first|refine zP ?_|refine zL ?_|refine zO ?_|refine zC ?_|refine zB ?_|refine zJ ?_|refine zK ?_|refine zM ?_|refine zF ?_|refine zH ?_|refine zG ?_|refine zI (by decide) ?_|refine zN ?_|((first|refine zE ?_|refine zQ ?_|refine zR rfl ?_|refine zD ?_);simp only[yq32.down,zA,lemS.down,lemC.down,zap,zao,zam,reduceIte,zan,zaq,zar,zas,zat,zau,zav,zaw,zax,reduceCtorEq,lemH.down,t5,t8,Bool.not_true,Bool.not_false,pm,pn,q4,b2,q5,en,b3,sl,b4,zo])))
  refine⟨⟨?_,?_⟩,?_⟩
  ·(refine zCb rfl rfl rfl ?_ ?_<;>simp only[yq32.down,zA,lemS.down,lemC.down,zap,zao,zam,reduceIte,zan,zaq,zar,zas,zat,zau,zav,zaw,zax,reduceCtorEq,lemH.down,t5,pm,pn,q4,q5,q51,zAA,zz,zAB,z8,zw,Option.isSome_some])
  ·(refine zCb rfl rfl rfl ?_ ?_<;>simp only[yq32.down,zA,lemS.down,lemC.down,zap,zao,zam,reduceIte,zan,zaq,zar,zas,zat,zau,zav,zaw,zax,reduceCtorEq,lemH.down,t5,pm,pn,q4,q5,q51,zAA,zz,zAB,z8,zw,Option.isSome_some])
  (repeat (first|refine zP ?_|refine zL ?_|refine zO ?_|refine zC ?_|refine zB ?_|refine zJ ?_|refine zK ?_|refine zM ?_|refine zF ?_|refine zH ?_|refine zG ?_|refine zI (by decide) ?_|refine zN ?_|((first|refine zE ?_|refine zQ ?_|refine zR rfl ?_|refine zD ?_);simp only[yq32.down,zA,lemS.down,lemC.down,zap,zao,zam,reduceIte,zan,zaq,zar,zas,zat,zau,zav,zaw,zax,reduceCtorEq,lemH.down])))
  exact⟨.inr rfl,_,by simp only[yq32.down,zA,lemS.down,lemC.down,zap,zao,zam,reduceIte,zan,zaq,zar,zas,zat,zau,zav,zaw,zax,reduceCtorEq],bad Gn⟩
 have b4:decide ((l.length:Int)>0)=false:=decide_eq_false (by omega)
 obtain⟨bq,eqr⟩:=zW9 T (rm1.grow kn) (rm2.grow kn) (by omega)
 cases bq with
 | false =>
  (repeat (first|refine zP ?_|refine zL ?_|refine zO ?_|refine zC ?_|refine zB ?_|refine zJ ?_|refine zK ?_|refine zM ?_|refine zF ?_|refine zH ?_|refine zG ?_|refine zI (by decide) ?_|refine zN ?_|((first|refine zE ?_|refine zQ ?_|refine zR rfl ?_|refine zD ?_);simp only[yq32.down,zA,lemS.down,lemC.down,zap,zao,zam,reduceIte,zan,zaq,zar,zas,zat,zau,zav,zaw,zax,reduceCtorEq,lemH.down,t5,t8,Bool.not_true,Bool.not_false,pm,pn,q4,b2,q5,en,b3,sl,b4,n1,n6,eqr,zo])))
  refine⟨⟨?_,?_⟩,?_⟩
  ·(refine zCb rfl rfl rfl ?_ ?_<;>simp only[yq32.down,zA,lemS.down,lemC.down,zap,zao,zam,reduceIte,zan,zaq,zar,zas,zat,zau,zav,zaw,zax,reduceCtorEq,lemH.down,t5,pm,pn,q4,q5,q51,zAA,zz,zAB,z8,zw,Option.isSome_some])
  ·(refine zCb rfl rfl rfl ?_ ?_<;>simp only[yq32.down,zA,lemS.down,lemC.down,zap,zao,zam,reduceIte,zan,zaq,zar,zas,zat,zau,zav,zaw,zax,reduceCtorEq,lemH.down,t5,pm,pn,q4,q5,q51,zAA,zz,zAB,z8,zw,Option.isSome_some])
  (repeat (first|refine zP ?_|refine zL ?_|refine zO ?_|refine zC ?_|refine zB ?_|refine zJ ?_|refine zK ?_|refine zM ?_|refine zF ?_|refine zH ?_|refine zG ?_|refine zI (by decide) ?_|refine zN ?_|((first|refine zE ?_|refine zQ ?_|refine zR rfl ?_|refine zD ?_);simp only[yq32.down,zA,lemS.down,lemC.down,zap,zao,zam,reduceIte,zan,zaq,zar,zas,zat,zau,zav,zaw,zax,reduceCtorEq,lemH.down])))
  exact⟨.inr rfl,_,by simp only[yq32.down,zA,lemS.down,lemC.down,zap,zao,zam,reduceIte,zan,zaq,zar,zas,zat,zau,zav,zaw,zax,reduceCtorEq],bad Gn⟩
 | true =>
  (repeat (first|refine zP ?_|refine zL ?_|refine zO ?_|refine zC ?_|refine zB ?_|refine zJ ?_|refine zK ?_|refine zM ?_|refine zF ?_|refine zH ?_|refine zG ?_|refine zI (by decide) ?_|refine zN ?_|((first|refine zE ?_|refine zQ ?_|refine zR rfl ?_|refine zD ?_);simp only[yq32.down,zA,lemS.down,lemC.down,zap,zao,zam,reduceIte,zan,zaq,zar,zas,zat,zau,zav,zaw,zax,reduceCtorEq,lemH.down,t5,t8,Bool.not_true,Bool.not_false,pm,pn,q4,b2,q5,en,b3,sl,b4,n1,n6,eqr,zo])))
  refine⟨⟨?_,?_⟩,?_⟩
  ·(refine zCb rfl rfl rfl ?_ ?_<;>simp only[yq32.down,zA,lemS.down,lemC.down,zap,zao,zam,reduceIte,zan,zaq,zar,zas,zat,zau,zav,zaw,zax,reduceCtorEq,lemH.down,t5,pm,pn,q4,q5,q51,zAA,zz,zAB,z8,zw,Option.isSome_some])
  ·(refine zCb rfl rfl rfl ?_ ?_<;>simp only[yq32.down,zA,lemS.down,lemC.down,zap,zao,zam,reduceIte,zan,zaq,zar,zas,zat,zau,zav,zaw,zax,reduceCtorEq,lemH.down,t5,pm,pn,q4,q5,q51,zAA,zz,zAB,z8,zw,Option.isSome_some])
  refine zB ?_
  refine zD ?_
  simp only[yq32.down,zA,lemS.down,lemC.down,zap,zao,zam,reduceIte,zan,zaq,zar,zas,zat,zau,zav,zaw,zax,reduceCtorEq]
  refine zC ?_
  exact tail _ _ (by simp only[yq32.down,zA,lemS.down,lemC.down,zap,zao,zam,reduceIte,zan,zaq,zar,zas,zat,zau,zav,zaw,zax,reduceCtorEq,t5]) (by simp only[yq32.down,zA,lemS.down,lemC.down,zap,zao,zam,reduceIte,zan,zaq,zar,zas,zat,zau,zav,zaw,zax,reduceCtorEq,t8]) kn
end Go.X
end
section
open Go Go.X Go.Proofs Go.RowKit
namespace Go.X
set_option linter.unusedVariables false
def zKT (off:Nat) (v:Value):Option Value:=match v with|.agg cs=>cs.toList[off]?|_=>none
theorem p_field1 {t:Fr} {off:Nat} {x:Operand}:zT t (.field1 off x)=zKT off (t.eval x):=rfl
theorem zYD {a b c:Value}:zKT 0 (.agg #[a,b,c])=some a:=rfl
structure Law10 (pr:Prog):Prop where
 ch:ChTab pr
 aw:pr.prim 22=some (za trueS)
theorem zXx (pr:Prog) (T:Law10 pr) (s:List UInt8) (hs:s.length≤9223372036854775807) (h:Heap):Comes pr xq6 [.string (strOf s)] h (.bool true):=by
 apply Comes.of
 unfold xq6
 dsimp only[zW]
 obtain⟨w,h1,e1,g1,hd⟩:=CD_run T.ch (h:=h) hs
 have aw:cfi pr 22 [] h1=some (.bool true,h1):=zBy T.aw (zEq rfl)
 rcases hd with ⟨e,he,rfl⟩|⟨K,rfl,name,m1,n,hash,m2,l,v1,v2,X,R,t,st,vK,hn,ln,r1,l1,r2,l2,vX,mR,rise,ll,lq,hs2⟩
 ·have b0:((e:Int)==0)=false:=by rw[beq_eq_false_iff_ne];omega
  (repeat (first|refine zP ?_|refine zL ?_|refine zO ?_|refine zC ?_|refine zB ?_|refine zJ ?_|refine zK ?_|refine zM ?_|refine zF ?_|refine zH ?_|refine zG ?_|refine zI (by decide) ?_|refine zN ?_|((first|refine zE ?_|refine zQ ?_|refine zS rfl rfl ?_|refine zR rfl ?_|refine zD ?_);simp only[yq6.down,zA,lemS.down,lemC.down,zap,zao,zam,reduceIte,zan,zaq,zar,zas,zat,zau,zav,zaw,zax,reduceCtorEq,lemH.down,e1,aw,b0,Bool.not_true,Bool.not_false,zBN])))
  exact⟨.inr rfl,by simp only[yq6.down,zA,lemS.down,lemC.down,zap,zao,zam,reduceIte,zan,zaq,zar,zas,zat,zau,zav,zaw,zax,reduceCtorEq],g1⟩
 ·obtain⟨h2,e2,g2⟩:=CEnc_run T.ch vK hn ln r1 l1 r2 l2 vX mR rise ll lq
  rw[hs2] at e2
  have e3:=zW7 T.ch (vK.grow g2) (v:=.int .u64 (n:Int)) rfl
  obtain⟨v,h3,e4,g4⟩:=CTip_run T.ch (vK.grow g2) (r2.grow g2) (by omega)
  have bs:(s==s)=true:=by simp
  have bn:((n:Int)==(n:Int))=true:=by simp
  (repeat (first|refine zP ?_|refine zL ?_|refine zO ?_|refine zC ?_|refine zB ?_|refine zJ ?_|refine zK ?_|refine zM ?_|refine zF ?_|refine zH ?_|refine zG ?_|refine zI (by decide) ?_|refine zN ?_|((first|refine zE ?_|refine zQ ?_|refine zS rfl rfl ?_|refine zR rfl ?_|refine zD ?_);simp only[yq6.down,zA,lemS.down,lemC.down,zap,zao,zam,reduceIte,zan,zaq,zar,zas,zat,zau,zav,zaw,zax,reduceCtorEq,lemH.down,e1,aw,Bool.not_true,e2,bs,e3,e4,p_field1,zYD,bn])))
  exact⟨.inr rfl,by simp only[yq6.down,zA,lemS.down,lemC.down,zap,zao,zam,reduceIte,zan,zaq,zar,zas,zat,zau,zav,zaw,zax,reduceCtorEq],g1.trans (g2.trans g4)⟩
end Go.X
end
section
open Go Go.X Go.Proofs Go.RowKit
namespace Go.X
set_option linter.unusedVariables false
theorem Tab.closedT {P:Program} {l:List (Nat×Prim)} {Pg:Prog} (okP:XOK P Pg) (ok:XOK P (Tab P l)) {f n:Nat} {v:Value} {h2:Heap} (hv:zy v=true) (hc:call Pg n f [] Heap.empty=some (v,h2)) {s:List Value→Option Value} (hs:∀args w,s args=some w→args=[]∧w=v):XOK P (Tab P ((f,za s)::l)):=by
 refine Tab.cons ok fun args h w h' hr=>?_
 unfold za at hr
 split at hr
 ·rename_i v1 hv1
  cases hr
  obtain⟨rfl,rfl⟩:=hs args _ hv1
  exact⟨zJ8 okP hc,Nat.le_refl _,zJ9 okP hc rfl hv h⟩
 ·cases hr
def G1:List (Nat×Prim):=(136,za zEF)::Z2
def G2:List (Nat×Prim):=(56,zEh)::G1
def G3:List (Nat×Prim):=(190,za bitS)::G2
def G4:List (Nat×Prim):=(22,za trueS)::G3
theorem gk1:XOK Tryz.prog (Tab Tryz.prog G1):=Tab.pure zk2 Tryz.func136 cq136 fun args v h=>⟨(zIk h).1,(zIk h).2.1,fun g=>(zIk h).2.2 _ g⟩
theorem gk2:XOK Tryz.prog (Tab Tryz.prog G2):=Tab.read gk1 Tryz.func56 cq56 fun args h v h' hr=>by
 unfold zEh at hr
 split at hr
 ·split at hr
  ·split at hr
   ·rename_i hs hl;cases hr;exact⟨rfl,rfl,rfl,fun n wf=>zYo _ (h.at n) _ _ hs hl⟩
   ·cases hr
  ·cases hr
 ·cases hr
theorem zGt {args:List Value} {v:Value} (h:bitS args=some v):args.length=2∧zy v=true∧∀pr g,Comes pr xq190 args g v:=by
 unfold bitS at h
 split at h
 ·rename_i s i
  split at h
  ·rename_i hc
   cases h
   refine⟨rfl,rfl,fun pr g=>?_⟩
   have:=bit_ok pr s.data.toList i.toNat hc.1 (by omega) g
   rw[zEB,Int.toNat_of_nonneg hc.2.1] at this
   exact this
  ·cases h
 ·cases h
theorem gk3:XOK Tryz.prog (Tab Tryz.prog G3):=Tab.pure gk2 Tryz.func190 cq190 fun args v h=>⟨(zGt h).1,(zGt h).2.1,fun g=>(zGt h).2.2 _ g⟩
set_option maxRecDepth 100000 in
theorem kz2_ok:K.KPOk KZ2.P KZ2.l:=kl_ok
theorem kis_gen {k:K.KP} (hK:K.KPOk k.P k.l) {n f:Nat} {args:List Value} {h:Heap} {v:Value} {p:Prop} (hp:p=K.kis k n f args h v) (e:p=True):∃h',call k.P n f args h=some (v,h'):=K.kis_ok hK (by rw[←hp,e];trivial)
theorem kaw:∃h',call KZ2.P 600 22 [] Heap.empty=some (.bool true,h'):=by
 have:=run10
 generalize hp:K.kis KZ2 600 22 [] Heap.empty (.bool true)=p at this
 exact @kis_gen KZ2 kz2_ok 600 22 [] Heap.empty (.bool true) p hp.symm this
theorem gk4:XOK Tryz.prog (Tab Tryz.prog G4):=by
 obtain⟨h',e⟩:=kaw
 refine Tab.closedT (Pg:=KZ2.P) (K.TabT.ok zk2) gk3 (v:=.bool true) rfl e fun args w hw=>?_
 unfold trueS at hw
 split at hw
 ·cases hw;exact⟨rfl,rfl⟩
 ·cases hw
theorem wireG:zAN (Tab Tryz.prog G4):=⟨rfl,rfl,ze Tryz.func75 cq75,rfl,ze Tryz.func147 cq147,rfl,ze Tryz.func78 cq78,rfl,ze Tryz.func121 cq121,rfl,ze Tryz.func76 cq76,rfl,ze Tryz.func79 cq79,rfl,ze Tryz.func81 cq81,rfl,ze Tryz.func86 cq86,rfl,ze Tryz.func89 cq89,rfl,ze Tryz.func150 cq150,rfl,ze Tryz.func108 cq108,rfl,ze Tryz.func87 cq87,rfl,ze Tryz.func90 cq90,rfl,ze Tryz.func91 cq91,rfl,ze Tryz.func151 cq151,rfl,ze Tryz.func152 cq152,rfl,ze Tryz.func109 cq109,rfl,ze Tryz.func149 cq149⟩
theorem memG:zGf (Tab Tryz.prog G4):=⟨wireG,rfl,rfl,ze Tryz.func88 cq88⟩
theorem stG:StTab (Tab Tryz.prog G4):=⟨wireG,rfl,ze Tryz.func153 cq153⟩
theorem allG:zFB (Tab Tryz.prog G4):=⟨rfl,ze Tryz.func155 cq155,rfl,rfl,ze Tryz.func154 cq154⟩
theorem encG:zEJ (Tab Tryz.prog G4):=⟨stG,allG,rfl,ze Tryz.func94 cq94,rfl,ze Tryz.func95 cq95,rfl,ze Tryz.func80 cq80⟩
theorem decG:zFD (Tab Tryz.prog G4):=⟨encG,rfl,ze Tryz.func17 cq17,rfl,ze Tryz.func92 cq92⟩
theorem smtG:STab (Tab Tryz.prog G4):=⟨rfl,rfl,rfl,ze Tryz.func210 cq210,rfl,ze Tryz.func191 cq191,rfl,ze Tryz.func211 cq211,rfl,ze Tryz.func130 cq130,rfl,ze Tryz.func131 cq131,rfl,ze Tryz.func193 cq193,rfl,ze Tryz.func192 cq192,rfl,ze Tryz.func157 cq157,rfl,ze Tryz.func158 cq158,rfl,ze Tryz.func159 cq159,rfl,ze Tryz.func156 cq156,rfl,ze Tryz.func96 cq96⟩
theorem chG:ChTab (Tab Tryz.prog G4):=⟨decG,memG,smtG,rfl,rfl,ze Tryz.func77 cq77,rfl,ze Tryz.func59 cq59,rfl,ze Tryz.func97 cq97,rfl,ze Tryz.func65 cq65,rfl,ze Tryz.func16 cq16,rfl,ze Tryz.func32 cq32,rfl,ze Tryz.func25 cq25,rfl,ze Tryz.func93 cq93,rfl,ze Tryz.func33 cq33,rfl,ze Tryz.func29 cq29⟩
theorem lawG:Law10 (Tab Tryz.prog G4):=⟨chG,rfl⟩
theorem walkChainReads (s:ByteArray) (hs:s.size≤maxLen) (w:World):Calls Tryz.prog 6 #[.string s] w fun e w'=>e=.returned (.bool true)∧Below w.heap.size w w':=by
 have hl:s.data.toList.length≤9223372036854775807:=by
  have:s.data.toList.length=s.size:=rfl
  unfold maxLen at hs
  omega
 have:=zXx _ lawG s.data.toList hl Heap.empty
 rw[zEB] at this
 exact zXV gk4 rfl (ze Tryz.func6 cq6) rfl rfl rfl this w
end Go.X
end
