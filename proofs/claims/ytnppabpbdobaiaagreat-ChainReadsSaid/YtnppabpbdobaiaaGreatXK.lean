/- Headers and who takes part are taken. -/
import Derived.Test.YtnppabpbdobaiaaGreatProg
import Derived.KernelRfl
import Derived.Test.YtnppabpbdobaiaaGreatXC
import Derived.Test.YtnppabpbdobaiaaGreatXJ
set_option linter.unusedSimpArgs false
set_option linter.unusedVariables false
set_option maxHeartbeats 2000000
open Nat renaming reduceLeDiff → zam, reduceEqDiff → zan, reduceAdd → zao
open Int renaming reduceBEq → zap, reduceLT → zaq, reduceLE → zar, reduceGT → zas, reduceGE → zat, reduceEq → zau, reduceAdd → zav, reduceSub → zaw, reduceMul → zax
section
namespace Go.X
open Go.Proofs
abbrev zUy:List XO:=[
 ⟨some 2,.p (.mov (C (.bool false))),none⟩]
def xq56_0:List XO:=zUy
theorem xq56_0e:E3 xq56_0 zUy:=E3.rfl
abbrev zUz:List XO:=[
 ⟨some 5,.p (.mov (T 0)),none⟩,
 ⟨some 6,.p (.lenV (T 5)),none⟩,
 ⟨some 7,.p (.mov (C (.int .i64 0))),none⟩]
def xq56_1:List XO:=zUz
theorem xq56_1e:E3 xq56_1 zUz:=E3.rfl
abbrev zU0:List XO:=[
 ⟨some 8,.p (.bin .lss (T 7) (T 6)),none⟩]
def xq56_2:List XO:=zU0
theorem xq56_2e:E3 xq56_2 zU0:=E3.rfl
abbrev zU1:List XO:=[
 ⟨some 9,.p (.mov (T 7)),none⟩,
 ⟨some 10,.p (.iaddrS 1 (T 5) (T 7)),none⟩,
 ⟨some 11,.r (.load1 (T 10)),none⟩,
 ⟨some 3,.p (.mov (T 9)),none⟩,
 ⟨some 4,.p (.mov (T 11)),none⟩]
def xq56_3:List XO:=zU1
theorem xq56_3e:E3 xq56_3 zU1:=E3.rfl
abbrev zU2:List XO:=[
 ⟨some 12,.p (.mov (T 4)),none⟩,
 ⟨some 13,.p (.bin .lss (T 12) (C (.int .i64 0))),none⟩,
 ⟨some 14,.p (.mov (T 13)),none⟩,
 ⟨some 15,.p (.mov (T 4)),some (14,false)⟩,
 ⟨some 16,.p (.bin .geq (T 15) (C (.int .i64 16))),some (14,false)⟩,
 ⟨some 17,.p (.pick (T 14) (C (.bool true)) (T 16)),none⟩,
 ⟨some 18,.p (.mov (T 17)),none⟩,
 ⟨some 19,.p (.mov (T 3)),some (18,false)⟩,
 ⟨some 20,.p (.bin .gtr (T 19) (C (.int .i64 0))),some (18,false)⟩,
 ⟨some 21,.p (.mov (T 20)),some (18,false)⟩,
 ⟨some 22,.p (.mov (T 0)),some (21,true)⟩,
 ⟨some 23,.p (.mov (T 3)),some (21,true)⟩,
 ⟨some 24,.p (.bin .sub (T 23) (C (.int .i64 1))),some (21,true)⟩,
 ⟨some 25,.p (.iaddrS 1 (T 22) (T 24)),some (21,true)⟩,
 ⟨some 26,.r (.load1 (T 25)),some (21,true)⟩,
 ⟨some 27,.p (.mov (T 4)),some (21,true)⟩,
 ⟨some 28,.p (.bin .geq (T 26) (T 27)),some (21,true)⟩,
 ⟨some 29,.p (.pick (T 21) (T 28) (C (.bool false))),some (18,false)⟩,
 ⟨some 30,.p (.pick (T 18) (C (.bool true)) (T 29)),none⟩]
def xq56_4:List XO:=zU2
theorem xq56_4e:E3 xq56_4 zU2:=E3.rfl
abbrev zU3:List XO:=[
 ⟨some 2,.p (.mov (C (.bool false))),none⟩]
def xq56_5:List XO:=zU3
theorem xq56_5e:E3 xq56_5 zU3:=E3.rfl
abbrev zU4:List XO:=[
 ⟨some 31,.p (.bin .add (T 7) (C (.int .i64 1))),none⟩,
 ⟨some 7,.p (.mov (T 31)),none⟩]
def xq56_6:List XO:=zU4
theorem xq56_6e:E3 xq56_6 zU4:=E3.rfl
def zJM:XC :=
 .seq (.ops xq56_2) (.seq (.cond (T 8) (.skip) (.exit 0)) (.seq (.block 1 (.seq (.ops xq56_3) (.seq (.ops xq56_4) (.cond (T 30) (.seq (.ops xq56_5) (.ret)) (.skip))))) (.ops xq56_6)))
def xq56_7:XC:=zJM
theorem xq56_7k {pr:Prog} {k:List KI} {Q:XE→Fr→Heap→Prop} {t:Fr} {h:Heap} (hw:wpk pr zJM k Q t h):wpk pr xq56_7 k Q t h:=hw
abbrev zU5:List XO:=[
 ⟨some 32,.p (.mov (T 0)),none⟩,
 ⟨some 33,.p (.lenV (T 32)),none⟩,
 ⟨some 34,.p (.bin .geq (T 33) (C (.int .i64 1))),none⟩,
 ⟨some 2,.p (.mov (T 34)),none⟩]
def xq56_8:List XO:=zU5
theorem xq56_8e:E3 xq56_8 zU5:=E3.rfl
def xq56:XF:=⟨1,[.tmp 2],
 .seq (.ops xq56_0) (.seq (.seq (.ops xq56_1) (.block 0 (.loop xq56_7))) (.seq (.ops xq56_8) (.ret)))⟩
def yq56:=PLift.up (And.intro (And.intro (And.intro (@xq56_0e) (@xq56_1e)) (And.intro (@xq56_2e) (@xq56_3e))) (And.intro (And.intro (@xq56_4e) (@xq56_5e)) (And.intro (@xq56_6e) (@xq56_8e))))
theorem cq56:zX Tryz.prog Tryz.f56=some xq56:=by kernel_rfl
abbrev zVP:List XO:=[
 ⟨some 6,.p (.mov (T 0)),none⟩,
 ⟨some 7,.p (.mov (T 1)),none⟩,
 ⟨some 8,.p (.lenV (T 7)),none⟩,
 ⟨some 9,.p (.cint .u64 (T 8)),none⟩,
 ⟨some 10,.call (.func 78) [(T 6),(T 9),(C (.int .i64 1))],none⟩]
def xq77_0:List XO:=zVP
theorem xq77_0e:E3 xq77_0 zVP:=E3.rfl
abbrev zVQ:List XO:=[
 ⟨some 11,.p (.mov (T 1)),none⟩,
 ⟨some 12,.p (.lenV (T 11)),none⟩,
 ⟨some 13,.p (.mov (C (.int .i64 0))),none⟩]
def xq77_1:List XO:=zVQ
theorem xq77_1e:E3 xq77_1 zVQ:=E3.rfl
abbrev zVR:List XO:=[
 ⟨some 14,.p (.bin .lss (T 13) (T 12)),none⟩]
def xq77_2:List XO:=zVR
theorem xq77_2e:E3 xq77_2 zVR:=E3.rfl
abbrev zVS:List XO:=[
 ⟨some 15,.p (.iaddrS 1 (T 11) (T 13)),none⟩,
 ⟨some 16,.r (.load1 (T 15)),none⟩,
 ⟨some 5,.p (.mov (T 16)),none⟩]
def xq77_3:List XO:=zVS
theorem xq77_3e:E3 xq77_3 zVS:=E3.rfl
abbrev zVT:List XO:=[
 ⟨some 17,.p (.mov (T 0)),none⟩,
 ⟨some 18,.p (.mov (T 5)),none⟩,
 ⟨some 19,.p (.cint .u64 (T 18)),none⟩,
 ⟨some 20,.call (.func 78) [(T 17),(T 19),(C (.int .i64 1))],none⟩]
def xq77_4:List XO:=zVT
theorem xq77_4e:E3 xq77_4 zVT:=E3.rfl
abbrev zVU:List XO:=[
 ⟨some 21,.p (.bin .add (T 13) (C (.int .i64 1))),none⟩,
 ⟨some 13,.p (.mov (T 21)),none⟩]
def xq77_5:List XO:=zVU
theorem xq77_5e:E3 xq77_5 zVU:=E3.rfl
def zJO:XC :=
 .seq (.ops xq77_2) (.seq (.cond (T 14) (.skip) (.exit 0)) (.seq (.block 1 (.seq (.ops xq77_3) (.ops xq77_4))) (.ops xq77_5)))
def xq77_6:XC:=zJO
theorem xq77_6k {pr:Prog} {k:List KI} {Q:XE→Fr→Heap→Prop} {t:Fr} {h:Heap} (hw:wpk pr zJO k Q t h):wpk pr xq77_6 k Q t h:=hw
def xq77:XF:=⟨2,[],
 .seq (.ops xq77_0) (.seq (.ops xq77_1) (.block 0 (.loop xq77_6)))⟩
def yq77:=PLift.up (And.intro (And.intro (@xq77_0e) (And.intro (@xq77_1e) (@xq77_2e))) (And.intro (@xq77_3e) (And.intro (@xq77_4e) (@xq77_5e))))
theorem cq77:zX Tryz.prog Tryz.f77=some xq77:=by kernel_rfl
end Go.X
end
section
open Go Go.X
namespace Go.X
set_option linter.unusedVariables false
def zDs:List Value→Option (List Int)
 | []=>some []
 | .int .i64 x::r=>if -9223372036854775808≤x∧x<9223372036854775808 then (match zDs r with|some l=>some (x::l)|none=>none) else none
 | _::_=>none
def zAM (l:List Int):List Value:=l.map fun x=>.int .i64 x
theorem zG9 (l:List Int):(zAM l).length=l.length:=by simp[zAM]
theorem zHg:∀ {cs:List Value} {l:List Int},zDs cs=some l→cs=zAM l∧∀x∈l,-9223372036854775808≤x∧x<9223372036854775808
 | [],l,h=>by cases h;exact⟨rfl,by simp⟩
 | c::cs,l,h=>by
  unfold zDs at h
  split at h
  ·rename_i heq;cases heq
  ·rename_i s r heq
   cases heq
   split at h
   ·rename_i hr
    split at h
    ·rename_i q hq
     cases h
     obtain⟨h1,h2⟩:=zHg hq
     refine⟨by rw[h1];rfl,fun x hx=>?_⟩
     rcases List.mem_cons.1 hx with rfl|hx
     ·exact hr
     ·exact h2 x hx
    ·cases h
   ·cases h
  ·cases h
theorem zKo:∀ {l:List Int},(∀x∈l,-9223372036854775808≤x∧x<9223372036854775808)→zDs (zAM l)=some l
 | [],_=>rfl
 | x::l,h=>by
  have:=zKo (l:=l) (fun y hy=>h y (by simp[hy]))
  unfold zAM at this ⊢
  simp only[List.map_cons,zDs,this]
  rw[if_pos (h x (by simp))]
def zAe (h:Heap):Value→Option (List Int)
 | .slice none n _=>if n=0 then some [] else none
 | .slice (some a) n _=>if n=0 then some [] else (match h.loadN a n with|some cs=>zDs cs|none=>none)
 | _=>none
theorem zKp {h h':Heap} (wf:HWF h) (g:Grows h h') {v:Value} {l:List Int} (hs:zAe h v=some l):zAe h' v=some l:=by
 unfold zAe at hs ⊢
 split at hs
 ·exact hs
 ·split at hs
  ·rename_i h0;rw[if_pos h0];exact hs
  ·rename_i h0
   rw[if_neg h0]
   split at hs
   ·rename_i cs hcs;rw[g.loadN wf hcs];exact hs
   ·cases hs
 ·cases hs
theorem zDK {h:Heap} {v:Value} {l:List Int} (hs:zAe h v=some l):(∀x∈l,-9223372036854775808≤x∧x<9223372036854775808)∧∃a cap,v=.slice a l.length cap∧∀i,i<l.length→∃B o,(∀k:IntKind,zA9 1 v (.int k (i:Int))=some (.pointer (some ⟨B,o,none⟩)))∧h.load ⟨B,o,none⟩=some (.int .i64 (l.getD i 0)):=by
 unfold zAe at hs
 split at hs
 ·rename_i n c
  split at hs
  ·rename_i h0
   cases hs
   subst h0
   exact⟨by simp,none,c,rfl,fun i hi=>by simp at hi⟩
  ·cases hs
 ·rename_i a n c
  split at hs
  ·rename_i h0
   cases hs
   subst h0
   exact⟨by simp,some a,c,rfl,fun i hi=>by simp at hi⟩
  ·split at hs
   ·rename_i cs hcs
    obtain⟨rfl,hb⟩:=zHg hs
    have hn:l.length=n:=by
     have:=zFu hcs
     rw[zG9] at this
     exact this
    subst hn
    refine⟨hb,some a,c,rfl,fun i hi=>⟨a.block,a.off+i,fun k=>zCi hi,zEf hcs ?_⟩⟩
    simp[zAM,List.getElem?_eq_getElem hi,List.getD_eq_getElem?_getD]
   ·cases hs
 ·cases hs
def zBA (l:List Int) (i:Nat):Bool:=!(decide (l.getD i 0<0)||decide (l.getD i 0≥16)||(decide (0<i)&&decide (l.getD (i - 1) 0≥l.getD i 0)))
def zAx (l:List Int):Bool:=(List.range l.length).all (zBA l)&&decide (1≤l.length)
def zEh:Prim:=fun args h=>match args with
 | [v]=>match zAe h v with|some l=>if l.length≤9223372036854775807 then some (.bool (zAx l),h) else none|none=>none
 | _=>none
theorem zYl {h:Heap} {v:Value} {l:List Int} (hs:zAe h v=some l) (hl:l.length≤9223372036854775807):zEh [v] h=some (.bool (zAx l),h):=by simp only[zEh,hs,if_pos hl]
theorem zHv {l:List Int} {i:Nat} (hi:i<l.length) (h:zBA l i=false):zAx l=false:=by
 unfold zAx
 rw[Bool.and_eq_false_iff]
 left
 rw[List.all_eq_false]
 exact⟨i,by simpa using hi,by simp[h]⟩
theorem zYn {l:List Int} (h:∀j,j<l.length→zBA l j=true):zAx l=decide (1≤l.length):=by
 unfold zAx
 have:(List.range l.length).all (zBA l)=true:=by
  rw[List.all_eq_true]
  intro j hj
  exact h j (by simpa using hj)
 rw[this,Bool.true_and]
theorem zYo (pr:Prog) (h:Heap) (v:Value) (l:List Int) (hs:zAe h v=some l) (hl:l.length≤9223372036854775807):Comes pr xq56 [v] h (.bool (zAx l)):=by
 apply Comes.of
 unfold xq56
 dsimp only[zW]
 have hr64:zU=140737488355328:=rfl
 obtain⟨hb,a,cap,rfl,hel⟩:=zDK hs
 (repeat (first|refine zP ?_|refine zL ?_|refine zO ?_|refine zC ?_|refine zB ?_|refine zJ ?_|refine zK ?_|refine zM ?_|refine zF ?_|refine zH ?_|refine zG ?_|refine zI (by decide) ?_|refine zN ?_|((first|refine zE ?_|refine zQ ?_|refine zS rfl rfl ?_|refine zR rfl ?_|refine zD ?_);simp only[yq56.down,zA,lemS.down,lemC.down,zap,zao,zam,reduceIte,zan,zaq,zar,zas,zat,zau,zav,zaw,zax,reduceCtorEq,lemH.down])))
 refine zAY (fun m t g=>∃i,m=l.length - i∧i≤l.length∧g=h∧(∀j,j<i→zBA l j=true)∧t.get 0=.slice a l.length cap∧t.get 5=.slice a l.length cap∧t.get 6=.int .i64 (l.length:Int)∧t.get 7=.int .i64 (i:Int)) ?_ l.length _ _ ⟨0,rfl,by omega,rfl,by simp,by simp only[yq56.down,zA,lemS.down,lemC.down,zap,zao,zam,reduceIte,zan,zaq,zar,zas,zat,zau,zav,zaw,zax,reduceCtorEq],by simp only[yq56.down,zA,lemS.down,lemC.down,zap,zao,zam,reduceIte,zan,zaq,zar,zas,zat,zau,zav,zaw,zax,reduceCtorEq],by simp only[yq56.down,zA,lemS.down,lemC.down,zap,zao,zam,reduceIte,zan,zaq,zar,zas,zat,zau,zav,zaw,zax,reduceCtorEq],by (simp only[yq56.down,zA,lemS.down,lemC.down,zap,zao,zam,reduceIte,zan,zaq,zar,zas,zat,zau,zav,zaw,zax,reduceCtorEq])<;>rfl⟩
 rintro m t g ⟨i,rfl,hi,rfl,hall,t0,t5,t6,t7⟩ hnext
 refine xq56_7k ?_
 dsimp only[zJM]
 (repeat (first|refine zP ?_|refine zL ?_|refine zO ?_|refine zC ?_|refine zB ?_|refine zJ ?_|refine zK ?_|refine zM ?_|refine zF ?_|refine zH ?_|refine zG ?_|refine zI (by decide) ?_|refine zN ?_|((first|refine zE ?_|refine zQ ?_|refine zS rfl rfl ?_|refine zR rfl ?_|refine zD ?_);simp only[yq56.down,zA,lemS.down,lemC.down,zap,zao,zam,reduceIte,zan,zaq,zar,zas,zat,zau,zav,zaw,zax,reduceCtorEq,lemH.down,t0,t5,t6,t7])))
 refine⟨fun hlt=>?_,fun hge=>?_⟩
 ·have hi':i<l.length:=by omega
  obtain⟨B,o,ia,ld⟩:=hel i hi'
  have ld:∀sp,g.load ⟨B,o,sp⟩=some (.int .i64 (l.getD i 0)):=fun sp=>ld
  have w1:IntKind.i64.wrap ((i:Int)+1)=((i+1:Nat):Int):=by rw[wrap_i64 (by omega) (by omega)];omega
  have w2:IntKind.i64.wrap ((i:Int) - 1)=(i:Int) - 1:=by rw[wrap_i64 (by omega) (by omega)]
  have fin:=fun (hm:zBA l i=true) (t':Fr) (s0:t'.get 0=.slice a l.length cap) (s5:t'.get 5=.slice a l.length cap) (s6:t'.get 6=.int .i64 (l.length:Int)) (s7:t'.get 7=.int .i64 ((i+1:Nat):Int))=>hnext (l.length - (i+1)) t' g (by omega) ⟨i+1,rfl,by omega,rfl,fun j hj=>by
   rcases Nat.lt_or_ge j i with h|h
   ·exact hall j h
   ·obtain rfl:j=i:=by omega
    exact hm,s0,s5,s6,s7⟩
  by_cases c1:l.getD i 0<0
  ·have d1:decide (l.getD i 0<0)=true:=by simpa using c1
   (repeat (first|refine zP ?_|refine zL ?_|refine zO ?_|refine zC ?_|refine zB ?_|refine zJ ?_|refine zK ?_|refine zM ?_|refine zF ?_|refine zH ?_|refine zG ?_|refine zI (by decide) ?_|refine zN ?_|((first|refine zE ?_|refine zQ ?_|refine zS rfl rfl ?_|refine zR rfl ?_|refine zD ?_);simp only[yq56.down,zA,lemS.down,lemC.down,zap,zao,zam,reduceIte,zan,zaq,zar,zas,zat,zau,zav,zaw,zax,reduceCtorEq,lemH.down,t0,t5,t6,t7,zBT,ia,ld,d1,zo])))
   refine⟨.inr rfl,?_,Grows.refl _⟩
   rw[zHv hi' (by simp only[zBA,d1];rfl)]
   simp only[yq56.down,zA,lemS.down,lemC.down,zap,zao,zam,reduceIte,zan,zaq,zar,zas,zat,zau,zav,zaw,zax,reduceCtorEq]
  have d1:decide (l.getD i 0<0)=false:=by simpa using c1
  by_cases c2:l.getD i 0≥16
  ·have d2:decide (l.getD i 0≥16)=true:=by simpa using c2
   (repeat (first|refine zP ?_|refine zL ?_|refine zO ?_|refine zC ?_|refine zB ?_|refine zJ ?_|refine zK ?_|refine zM ?_|refine zF ?_|refine zH ?_|refine zG ?_|refine zI (by decide) ?_|refine zN ?_|((first|refine zE ?_|refine zQ ?_|refine zS rfl rfl ?_|refine zR rfl ?_|refine zD ?_);simp only[yq56.down,zA,lemS.down,lemC.down,zap,zao,zam,reduceIte,zan,zaq,zar,zas,zat,zau,zav,zaw,zax,reduceCtorEq,lemH.down,t0,t5,t6,t7,zBT,ia,ld,d1,d2,zo])))
   refine⟨.inr rfl,?_,Grows.refl _⟩
   rw[zHv hi' (by simp only[zBA,d1,d2];rfl)]
   simp only[yq56.down,zA,lemS.down,lemC.down,zap,zao,zam,reduceIte,zan,zaq,zar,zas,zat,zau,zav,zaw,zax,reduceCtorEq]
  have d2:decide (l.getD i 0≥16)=false:=by simp only[ge_iff_le,decide_eq_false_iff_not];exact c2
  by_cases c3:0<i
  ·have d3:decide ((i:Int)>0)=true:=by simp;omega
   have d3':decide (0<i)=true:=by simpa using c3
   obtain⟨B2,o2,ia2,ld2⟩:=hel (i - 1) (by omega)
   have e:((i - 1:Nat):Int)=(i:Int) - 1:=by omega
   rw[e] at ia2
   have ld2:∀sp,g.load ⟨B2,o2,sp⟩=some (.int .i64 (l.getD (i - 1) 0)):=fun sp=>ld2
   cases d4:decide (l.getD (i - 1) 0≥l.getD i 0)
   ·(repeat (first|refine zP ?_|refine zL ?_|refine zO ?_|refine zC ?_|refine zB ?_|refine zJ ?_|refine zK ?_|refine zM ?_|refine zF ?_|refine zH ?_|refine zG ?_|refine zI (by decide) ?_|refine zN ?_|((first|refine zE ?_|refine zQ ?_|refine zS rfl rfl ?_|refine zR rfl ?_|refine zD ?_);simp only[yq56.down,zA,lemS.down,lemC.down,zap,zao,zam,reduceIte,zan,zaq,zar,zas,zat,zau,zav,zaw,zax,reduceCtorEq,lemH.down,t0,t5,t6,t7,zBT,ia,ld,d1,d2,d3,w2,ia2,ld2,d4,zo,w1])))
    exact fin (by simp only[zBA,d1,d2,d3',d4];rfl) _ (by simp only[yq56.down,zA,lemS.down,lemC.down,zap,zao,zam,reduceIte,zan,zaq,zar,zas,zat,zau,zav,zaw,zax,reduceCtorEq,t0]) (by simp only[yq56.down,zA,lemS.down,lemC.down,zap,zao,zam,reduceIte,zan,zaq,zar,zas,zat,zau,zav,zaw,zax,reduceCtorEq,t5]) (by simp only[yq56.down,zA,lemS.down,lemC.down,zap,zao,zam,reduceIte,zan,zaq,zar,zas,zat,zau,zav,zaw,zax,reduceCtorEq,t6]) (by simp only[yq56.down,zA,lemS.down,lemC.down,zap,zao,zam,reduceIte,zan,zaq,zar,zas,zat,zau,zav,zaw,zax,reduceCtorEq])
   ·(repeat (first|refine zP ?_|refine zL ?_|refine zO ?_|refine zC ?_|refine zB ?_|refine zJ ?_|refine zK ?_|refine zM ?_|refine zF ?_|refine zH ?_|refine zG ?_|refine zI (by decide) ?_|refine zN ?_|((first|refine zE ?_|refine zQ ?_|refine zS rfl rfl ?_|refine zR rfl ?_|refine zD ?_);simp only[yq56.down,zA,lemS.down,lemC.down,zap,zao,zam,reduceIte,zan,zaq,zar,zas,zat,zau,zav,zaw,zax,reduceCtorEq,lemH.down,t0,t5,t6,t7,zBT,ia,ld,d1,d2,d3,w2,ia2,ld2,d4,zo])))
    refine⟨.inr rfl,?_,Grows.refl _⟩
    rw[zHv hi' (by simp only[zBA,d1,d2,d3',d4];rfl)]
    simp only[yq56.down,zA,lemS.down,lemC.down,zap,zao,zam,reduceIte,zan,zaq,zar,zas,zat,zau,zav,zaw,zax,reduceCtorEq]
  ·have d3:decide ((i:Int)>0)=false:=by simp;omega
   have d3':decide (0<i)=false:=by simpa using c3
   (repeat (first|refine zP ?_|refine zL ?_|refine zO ?_|refine zC ?_|refine zB ?_|refine zJ ?_|refine zK ?_|refine zM ?_|refine zF ?_|refine zH ?_|refine zG ?_|refine zI (by decide) ?_|refine zN ?_|((first|refine zE ?_|refine zQ ?_|refine zS rfl rfl ?_|refine zR rfl ?_|refine zD ?_);simp only[yq56.down,zA,lemS.down,lemC.down,zap,zao,zam,reduceIte,zan,zaq,zar,zas,zat,zau,zav,zaw,zax,reduceCtorEq,lemH.down,t0,t5,t6,t7,zBT,ia,ld,d1,d2,d3,zo,w1])))
   exact fin (by simp only[zBA,d1,d2,d3'];rfl) _ (by simp only[yq56.down,zA,lemS.down,lemC.down,zap,zao,zam,reduceIte,zan,zaq,zar,zas,zat,zau,zav,zaw,zax,reduceCtorEq,t0]) (by simp only[yq56.down,zA,lemS.down,lemC.down,zap,zao,zam,reduceIte,zan,zaq,zar,zas,zat,zau,zav,zaw,zax,reduceCtorEq,t5]) (by simp only[yq56.down,zA,lemS.down,lemC.down,zap,zao,zam,reduceIte,zan,zaq,zar,zas,zat,zau,zav,zaw,zax,reduceCtorEq,t6]) (by simp only[yq56.down,zA,lemS.down,lemC.down,zap,zao,zam,reduceIte,zan,zaq,zar,zas,zat,zau,zav,zaw,zax,reduceCtorEq])
 ·obtain rfl:i=l.length:=by omega
  have d5:decide ((l.length:Int)≥1)=decide (1≤l.length):=by rw[Bool.eq_iff_iff];simp;omega
  (repeat (first|refine zP ?_|refine zL ?_|refine zO ?_|refine zC ?_|refine zB ?_|refine zJ ?_|refine zK ?_|refine zM ?_|refine zF ?_|refine zH ?_|refine zG ?_|refine zI (by decide) ?_|refine zN ?_|((first|refine zE ?_|refine zQ ?_|refine zS rfl rfl ?_|refine zR rfl ?_|refine zD ?_);simp only[yq56.down,zA,lemS.down,lemC.down,zap,zao,zam,reduceIte,zan,zaq,zar,zas,zat,zau,zav,zaw,zax,reduceCtorEq,lemH.down,t0,t5,t6,t7,d5])))
  refine⟨.inr rfl,?_,Grows.refl _⟩
  rw[zYn hall]
  simp only[yq56.down,zA,lemS.down,lemC.down,zap,zao,zam,reduceIte,zan,zaq,zar,zas,zat,zau,zav,zaw,zax,reduceCtorEq]
end Go.X
end
section
open Go Go.X
namespace Go.X
set_option linter.unusedVariables false
structure Hdr where
 n:Nat
 p:List UInt8
 t:List UInt8
 s:List UInt8
 m:List Int
def zBk (x:Hdr) (mv:Value):List Value:=[.int .u64 (x.n:Int),.string (strOf x.p),.string (strOf x.t),.string (strOf x.s),mv]
def HdAt (h:Heap) (x:Hdr) (mv:Value):Prop:=x.n<18446744073709551616∧zAe h mv=some x.m∧x.m.length≤1000000∧x.p.length+10000000≤zU∧x.t.length+10000000≤zU∧x.s.length+10000000≤zU
theorem HdAt.grow {h h':Heap} {x:Hdr} {mv:Value} (hx:HdAt h x mv) (wf:HWF h) (g:Grows h h'):HdAt h' x mv:=⟨hx.1,zKp wf g hx.2.1,hx.2.2⟩
def headE (x:Hdr):Nat:=if x.n<1∨x.p.length≠32∨x.t.length≠32∨x.s.length≠32∨zAx x.m=false then 80 else 0
def HdW (h:Heap) (x:Hdr) (mv:Value):Prop:=x.n<18446744073709551616∧zAe h mv=some x.m∧x.m.length≤9223372036854775807
theorem HdAt.w {h:Heap} {x:Hdr} {mv:Value} (hx:HdAt h x mv):HdW h x mv:=⟨hx.1,hx.2.1,by have:=hx.2.2.1;omega⟩
theorem HdW.grow {h h':Heap} {x:Hdr} {mv:Value} (hx:HdW h x mv) (wf:HWF h) (g:Grows h h'):HdW h' x mv:=⟨hx.1,zKp wf g hx.2.1,hx.2.2⟩
theorem zK6 {l:List Int} (h:∀j,j<l.length→zBA l j=true):∀i,i<l.length→(i:Int)≤l.getD i 0∧l.getD i 0<16
 | 0,hi=>by
  have:=h 0 hi
  simp only[zBA,Bool.not_eq_true',Bool.or_eq_false_iff,decide_eq_false_iff_not] at this
  omega
 | i+1,hi=>by
  have a:=zK6 h i (by omega)
  have:=h (i+1) hi
  simp only[zBA,Bool.not_eq_true',Bool.or_eq_false_iff,Bool.and_eq_false_iff,decide_eq_false_iff_not,Nat.add_sub_cancel] at this
  omega
theorem zYm {l:List Int} (h:zAx l=true):l.length≤16:=by
 unfold zAx at h
 rw[Bool.and_eq_true,List.all_eq_true] at h
 by_cases h0:l.length=0
 ·omega
 ·have:=zK6 (fun j hj=>h.1 j (by simpa using hj)) (l.length - 1) (by omega)
  omega
theorem HdW.small {h:Heap} {x:Hdr} {mv:Value} (hx:HdW h x mv) (he:headE x=0):HdAt h x mv:=by
 unfold headE at he
 split at he
 ·cases he
 ·rename_i hc
  have hr64:zU=140737488355328:=rfl
  have hm:zAx x.m=true:=by
   cases q:zAx x.m
   ·exact absurd (.inr (.inr (.inr (.inr q)))) hc
   ·rfl
  have:=zYm hm
  refine⟨hx.1,hx.2.1,by omega,?_,?_,?_⟩<;>omega
end Go.X
end
section
open Go Go.X
namespace Go.X
set_option linter.unusedVariables false
def w64 (m:Int):Nat:=(m % 18446744073709551616).toNat
theorem w64_lt (m:Int):w64 m<18446744073709551616:=by unfold w64;omega
theorem cint_u64 (m:Int):zAi .u64 (.int .i64 m)=some (uw .u64 (w64 m)):=by
 rw[zA,←zCp (w64_lt m)]
 congr 2
 unfold w64
 have:IntKind.u64.wrap m=m % 18446744073709551616:=by
  simp[IntKind.wrap,IntKind.signed,IntKind.bits]
 rw[this]
 omega
def zBC (l:List Int):List UInt8:=l.flatMap fun m=>numB (w64 m) 1
def zBB (l:List Int):List UInt8:=numB l.length 1++zBC l
theorem zFx (l:List Int):(zBC l).length=l.length:=by
 induction l with
 | nil=>rfl
 | cons x l ih=>unfold zBC at ih ⊢;simp only[List.flatMap_cons,List.length_append,zAc,ih,List.length_cons];omega
theorem zYp {l:List Int} {i:Nat} (hi:i<l.length):zBC (l.take (i+1))=zBC (l.take i)++numB (w64 (l.getD i 0)) 1:=by
 unfold zBC
 rw[List.take_succ_eq_append_getElem hi,List.flatMap_append,List.flatMap_cons,List.flatMap_nil,List.append_nil]
 simp[List.getD_eq_getElem?_getD,List.getElem?_eq_getElem hi]
theorem zGh {pr:Prog} (T:zAN pr) (hp:pr.prim 77=none) (hc:pr.code 77=some xq77) {h0 h:Heap} (hg:Grows h0 h) {W:Nat} {S:Nat→Prop} {b:List UInt8} (hS0:∀A,A<h0.next→¬S A) (hw:WrS h W S b) (hS:∀A,h.next≤A→S A) {mv:Value} {l:List Int} (st:∀h',Grows h0 h'→zAe h' mv=some l) (hl:l.length≤1000000) (hroom:b.length+2000000≤zU) :
  ∃h',cfi pr 77 [.pointer (some ⟨W,0,none⟩),mv] h=some (.tuple #[],h')∧WrS h' W S (b++zBB l)∧Keeps S h h':=by
 have hr64:zU=140737488355328:=rfl
 have hs:=st h0 (Grows.refl h0)
 have:∃v h',cfi pr 77 [.pointer (some ⟨W,0,none⟩),mv] h=some (v,h')∧v=.tuple #[]∧WrS h' W S (b++zBB l)∧Keeps S h h':=by
  refine zj hp hc rfl ?_
  unfold xq77
  dsimp only[zW]
  refine wpk.out (k:=[]) ?_
  obtain⟨hb,a,cap,rfl,_⟩:=zDK hs
  have c0:=zE2 (k:=.u64) (k':=.i64) zGV (n:=l.length)
  obtain⟨h1,e1,w1,k1⟩:=zFH T hw hS l.length 1 (by omega) (by decide) (by omega)
  have e1:cfi pr 78 [.pointer (some ⟨W,0,none⟩),uw .u64 l.length,.int .i64 1] h=some (.tuple #[],h1):=e1
  (repeat (first|refine zP ?_|refine zL ?_|refine zO ?_|refine zC ?_|refine zB ?_|refine zJ ?_|refine zK ?_|refine zM ?_|refine zF ?_|refine zH ?_|refine zG ?_|refine zI (by decide) ?_|refine zN ?_|((first|refine zE ?_|refine zQ ?_|refine zS rfl rfl ?_|refine zR rfl ?_|refine zD ?_);simp only[yq77.down,zA,lemS.down,lemC.down,zap,zao,zam,reduceIte,zan,zaq,zar,zas,zat,zau,zav,zaw,zax,reduceCtorEq,lemH.down,c0,e1])))
  refine zAY (fun m t g=>∃i,m=l.length - i∧i≤l.length∧WrS g W S (b++numB l.length 1++zBC (l.take i))∧Keeps S h g∧t.get 0=.pointer (some ⟨W,0,none⟩)∧t.get 11=.slice a l.length cap∧t.get 12=.int .i64 (l.length:Int)∧t.get 13=.int .i64 (i:Int)) ?_ l.length _ _ ⟨0,rfl,by omega,by simpa [zBC] using w1,k1,by simp only[yq77.down,zA,lemS.down,lemC.down,zap,zao,zam,reduceIte,zan,zaq,zar,zas,zat,zau,zav,zaw,zax,reduceCtorEq],by simp only[yq77.down,zA,lemS.down,lemC.down,zap,zao,zam,reduceIte,zan,zaq,zar,zas,zat,zau,zav,zaw,zax,reduceCtorEq],by simp only[yq77.down,zA,lemS.down,lemC.down,zap,zao,zam,reduceIte,zan,zaq,zar,zas,zat,zau,zav,zaw,zax,reduceCtorEq],by (simp only[yq77.down,zA,lemS.down,lemC.down,zap,zao,zam,reduceIte,zan,zaq,zar,zas,zat,zau,zav,zaw,zax,reduceCtorEq])<;>rfl⟩
  rintro m t g ⟨i,rfl,hi,gw,gk,t0,t11,t12,t13⟩ hnext
  refine xq77_6k ?_
  dsimp only[zJO]
  (repeat (first|refine zP ?_|refine zL ?_|refine zO ?_|refine zC ?_|refine zB ?_|refine zJ ?_|refine zK ?_|refine zM ?_|refine zF ?_|refine zH ?_|refine zG ?_|refine zI (by decide) ?_|refine zN ?_|((first|refine zE ?_|refine zQ ?_|refine zS rfl rfl ?_|refine zR rfl ?_|refine zD ?_);simp only[yq77.down,zA,lemS.down,lemC.down,zap,zao,zam,reduceIte,zan,zaq,zar,zas,zat,zau,zav,zaw,zax,reduceCtorEq,lemH.down,t0,t11,t12,t13])))
  refine⟨fun hlt=>?_,fun hge=>?_⟩
  ·have hi':i<l.length:=by omega
   have hgg:Grows h0 g:=hg.then gk hS0
   obtain⟨_,a',cap',ea,hel⟩:=zDK (st _ hgg)
   obtain⟨B,o,ia,ld⟩:=hel i hi'
   have ld:∀sp,g.load ⟨B,o,sp⟩=some (.int .i64 (l.getD i 0)):=fun sp=>ld
   have ww:IntKind.i64.wrap ((i:Int)+1)=((i+1:Nat):Int):=by rw[wrap_i64 (by omega) (by omega)];omega
   have cm:=cint_u64 (l.getD i 0)
   have hlen:(b++numB l.length 1++zBC (l.take i)).length+8≤zU:=by
    simp only[List.length_append,zAc,zFx,List.length_take];omega
   obtain⟨g2,e2,w2,k2⟩:=zFH T gw (fun A hA=>hS A (Nat.le_trans gk.next hA)) (w64 (l.getD i 0)) 1 (w64_lt _) (by decide) hlen
   have e2:cfi pr 78 [.pointer (some ⟨W,0,none⟩),uw .u64 (w64 (l.getD i 0)),.int .i64 1] g=some (.tuple #[],g2):=e2
   (repeat (first|refine zP ?_|refine zL ?_|refine zO ?_|refine zC ?_|refine zB ?_|refine zJ ?_|refine zK ?_|refine zM ?_|refine zF ?_|refine zH ?_|refine zG ?_|refine zI (by decide) ?_|refine zN ?_|((first|refine zE ?_|refine zQ ?_|refine zS rfl rfl ?_|refine zR rfl ?_|refine zD ?_);simp only[yq77.down,zA,lemS.down,lemC.down,zap,zao,zam,reduceIte,zan,zaq,zar,zas,zat,zau,zav,zaw,zax,reduceCtorEq,lemH.down,t0,t11,t12,t13,zBT,ia,ld,cm,e2,ww])))
   exact hnext (l.length - (i+1)) _ g2 (by omega) ⟨i+1,rfl,by omega,by rw[zYp hi',←List.append_assoc];exact w2,gk.trans k2 (fun _ _ q=>q),by simp only[yq77.down,zA,lemS.down,lemC.down,zap,zao,zam,reduceIte,zan,zaq,zar,zas,zat,zau,zav,zaw,zax,reduceCtorEq,t0],by simp only[yq77.down,zA,lemS.down,lemC.down,zap,zao,zam,reduceIte,zan,zaq,zar,zas,zat,zau,zav,zaw,zax,reduceCtorEq,t11],by simp only[yq77.down,zA,lemS.down,lemC.down,zap,zao,zam,reduceIte,zan,zaq,zar,zas,zat,zau,zav,zaw,zax,reduceCtorEq,t12],by simp only[yq77.down,zA,lemS.down,lemC.down,zap,zao,zam,reduceIte,zan,zaq,zar,zas,zat,zau,zav,zaw,zax,reduceCtorEq]⟩
  ·obtain rfl:i=l.length:=by omega
   (repeat (first|refine zP ?_|refine zL ?_|refine zO ?_|refine zC ?_|refine zB ?_|refine zJ ?_|refine zK ?_|refine zM ?_|refine zF ?_|refine zH ?_|refine zG ?_|refine zI (by decide) ?_|refine zN ?_|((first|refine zE ?_|refine zQ ?_|refine zS rfl rfl ?_|refine zR rfl ?_|refine zD ?_);simp only[yq77.down,zA,lemS.down,lemC.down,zap,zao,zam,reduceIte,zan,zaq,zar,zas,zat,zau,zav,zaw,zax,reduceCtorEq,lemH.down,t0,t11,t12,t13])))
   refine⟨.inl rfl,_,rfl,rfl,?_,gk⟩
   rw[List.take_length,List.append_assoc] at gw
   exact gw
 obtain⟨v,h',e,rfl,r⟩:=this
 exact⟨h',e,r⟩
theorem zH4 {h:Heap} {a:List UInt8}:zBU (h.new [.string (strOf a)]) (.slice (some ⟨h.next,0,none⟩) 1 1)=some [a]:=by
 have hO:=Own.newSlice (h:=h) (l:=zBK [a]) (n:=1) (esz:=1) (sp:=none) rfl (.inl rfl)
 exact hO.strs
theorem zHT {a:List UInt8}:zt [.string (strOf [])] [(0,1,.string (strOf a))]=some [.string (strOf a)]:=rfl
end Go.X
end
section
open Go Go.X
namespace Go.X
set_option linter.unusedVariables false
abbrev TagL:=List (Int×List UInt8)
def zA1 (l:TagL):List Value:=l.flatMap fun q=>[.int .i64 q.1,.string (strOf q.2)]
theorem zXc (l:TagL):(zA1 l).length=l.length*2:=by
 induction l with
 | nil=>rfl
 | cons x l ih=>unfold zA1 at ih ⊢;simp only[List.flatMap_cons,List.length_append,ih,List.length_cons,List.length_nil];omega
theorem zXb (l:TagL) (i:Nat):(zA1 l).drop (i*2)=zA1 (l.drop i):=by
 induction l generalizing i with
 | nil=>simp[zA1]
 | cons x l ih =>
  cases i with
  | zero=>simp[zA1]
  | succ i =>
   have:=ih i
   unfold zA1 at this ⊢
   rw[show (i+1)*2=i*2+2 by omega]
   simp only[List.drop_succ_cons,List.flatMap_cons,List.cons_append,List.nil_append]
   rw[this]
abbrev inI (x:Int):Prop:=-9223372036854775808≤x∧x<9223372036854775808
def zDZ:List Value→Option TagL
 | []=>some []
 | .int .i64 x::.string s::r=>if inI x then (match zDZ r with|some l=>some ((x,s.data.toList)::l)|none=>none) else none
 | _::_=>none
theorem zMI:∀ {cs:List Value} {l:TagL},zDZ cs=some l→cs=zA1 l∧∀q∈l,inI q.1
 | [],l,h=>by cases h;exact⟨rfl,by simp⟩
 | [c],l,h=>by simp[zDZ] at h
 | c::d::cs,l,h=>by
  unfold zDZ at h
  split at h
  ·rename_i heq;cases heq
  ·rename_i x s r heq
   cases heq
   split at h
   ·rename_i hr
    split at h
    ·rename_i q hq
     cases h
     obtain⟨h1,h2⟩:=zMI hq
     refine⟨by rw[h1];simp[zA1,zEB],fun y hy=>?_⟩
     rcases List.mem_cons.1 hy with rfl|hy
     ·exact hr
     ·exact h2 y hy
    ·cases h
   ·cases h
  ·cases h
theorem zMH:∀ {l:TagL},(∀q∈l,inI q.1)→zDZ (zA1 l)=some l
 | [],_=>rfl
 | x::l,h=>by
  have:=zMH (l:=l) (fun y hy=>h y (by simp[hy]))
  unfold zA1 at this ⊢
  simp only[List.flatMap_cons,List.cons_append,List.nil_append,zDZ,this,zAk]
  rw[if_pos (h x (by simp))]
def zDa (h:Heap):Value→Option TagL
 | .slice none n _=>if n=0 then some [] else none
 | .slice (some a) n _=>if n=0 then some [] else (match h.loadN a (n*2) with|some cs=>zDZ cs|none=>none)
 | _=>none
theorem zMJ {h:Heap} {v:Value} {l:TagL} (hs:zDa h v=some l):(∀q∈l,inI q.1)∧∃a cap,v=.slice a l.length cap∧∀i,i<l.length→∃B o,(∀k:IntKind,zA9 2 v (.int k (i:Int))=some (.pointer (some ⟨B,o,none⟩)))∧(∀sp,h.loadN ⟨B,o,sp⟩ 2=some [.int .i64 (l.getD i (0,[])).1,.string (strOf (l.getD i (0,[])).2)])∧(∀sp,h.load ⟨B,o,sp⟩=some (.int .i64 (l.getD i (0,[])).1))∧(∀sp,h.load ⟨B,o+1,sp⟩=some (.string (strOf (l.getD i (0,[])).2))):=by
 unfold zDa at hs
 split at hs
 ·rename_i n c
  split at hs
  ·rename_i h0
   cases hs
   subst h0
   exact⟨by simp,none,c,rfl,fun i hi=>by simp at hi⟩
  ·cases hs
 ·rename_i a n c
  split at hs
  ·rename_i h0
   cases hs
   subst h0
   exact⟨by simp,some a,c,rfl,fun i hi=>by simp at hi⟩
  ·split at hs
   ·rename_i cs hcs
    obtain⟨rfl,hb⟩:=zMI hs
    have hn:l.length=n:=by
     have:=zFu hcs
     rw[zXc] at this
     omega
    subst hn
    have hp:∀i,i<l.length→((zA1 l).drop (i*2)).take 2=[.int .i64 (l.getD i (0,[])).1,.string (strOf (l.getD i (0,[])).2)]:=fun i hi=>by
     rw[zXb,List.drop_eq_getElem_cons hi,List.getD_eq_getElem?_getD,List.getElem?_eq_getElem hi,Option.getD_some]
     rfl
    have hg:∀i,i<l.length→∀j,j<2→(zA1 l)[i*2+j]?=[Value.int .i64 (l.getD i (0,[])).1,.string (strOf (l.getD i (0,[])).2)][j]?:=fun i hi j hj=>by
     rw[←hp i hi,List.getElem?_take,if_pos hj,List.getElem?_drop]
    refine⟨hb,some a,c,rfl,fun i hi=>⟨a.block,a.off+i*2,fun k=>zHb hi,fun sp=>?_,fun sp=>zEf hcs (by have:=hg i hi 0 (by decide);simpa using this),fun sp=>?_⟩⟩
    ·rw[zK1 hcs (by omega),hp i hi]
    ·have:=zEf hcs (i:=i*2+1) (sp:=sp) (by have:=hg i hi 1 (by decide);simpa using this)
     rw[←Nat.add_assoc] at this
     exact this
   ·cases hs
 ·cases hs
theorem Own.tags {h:Heap} {S:Nat→Prop} {v:Value} {n:Nat} {l:TagL} (ho:Own h S 2 v n (zA1 l)) (hb:∀q∈l,inI q.1):zDa h v=some l:=by
 obtain⟨a,cap,rfl,hs⟩:=ho.shape
 by_cases h0:n=0
 ·subst h0
  have:=ho.nil_of
  obtain rfl:l=[]:=by cases l with|nil=>rfl|cons x l=>simp[zA1] at this
  cases a<;>simp[zDa]
 ·obtain⟨B,off,sp,rfl,h1,_⟩:=hs h0
  simp only[zDa]
  rw[if_neg h0]
  simp only[h1,zMH hb]
def RdTags (h:Heap) (v:Value) (l:TagL):Prop:=∀h',Grows h h'→zDa h' v=some l
theorem RdTags.grow {h h':Heap} {v:Value} {l:TagL} (hr:RdTags h v l) (g:Grows h h'):RdTags h' v l:=fun h2 g2=>hr h2 (g.trans g2)
theorem RdTags.now {h:Heap} {v:Value} {l:TagL} (hr:RdTags h v l):zDa h v=some l:=hr h (Grows.refl h)
theorem RdTags.elim {h:Heap} {v:Value} {l:TagL} (hr:RdTags h v l) {i:Nat} (hi:i<l.length):∃B o,(∀k:IntKind,zA9 2 v (.int k (i:Int))=some (.pointer (some ⟨B,o,none⟩)))∧∀h',Grows h h'→(∀sp,h'.loadN ⟨B,o,sp⟩ 2=some [.int .i64 (l.getD i (0,[])).1,.string (strOf (l.getD i (0,[])).2)])∧(∀sp,h'.load ⟨B,o,sp⟩=some (.int .i64 (l.getD i (0,[])).1))∧(∀sp,h'.load ⟨B,o+1,sp⟩=some (.string (strOf (l.getD i (0,[])).2))):=by
 obtain⟨hb,a,cap,rfl,hel⟩:=zMJ hr.now
 obtain⟨B,o,ia,_⟩:=hel i hi
 refine⟨B,o,ia,fun h' g=>?_⟩
 obtain⟨_,a',cap',e,hel'⟩:=zMJ (hr h' g)
 cases e
 obtain⟨B',o',ia',ld'⟩:=hel' i hi
 have:=(ia .i64).symm.trans (ia' .i64)
 simp only[Option.some.injEq,Value.pointer.injEq,Addr.mk.injEq,and_true] at this
 obtain⟨rfl,rfl⟩:=this
 exact ld'
end Go.X
end
section
open Go Go.X
namespace Go.X
set_option linter.unusedVariables false
end Go.X
end
section
open Go Go.X
namespace Go.X
set_option linter.unusedVariables false
theorem zFz (r:RS):(zb r 1).2<256:=zFy r (by decide)
theorem zJ0 {r:RS} {n:Nat} (h:(zd r n).1.err=0):r.err=0∧r.pos+n≤r.s.length∧(zd r n).1=⟨r.s,r.pos+n,0⟩∧(zd r n).2=(r.s.drop r.pos).take n:=by
 unfold zd at h ⊢
 split at h
 ·rename_i q
  exact absurd h q
 ·rename_i q
  have q:r.err=0:=by omega
  split at h
  ·simp at h
  ·split at h
   ·simp at h
   ·rename_i a b
    refine⟨q,by omega,?_,?_⟩<;>rw[if_neg (by omega),if_neg a,if_neg b]
    ·rw[q];rfl
    ·rfl
theorem take_add {s:List UInt8} {p n:Nat}:s.take (p+n)=s.take p++(s.drop p).take n:=by rw[List.take_add]
theorem w64_nat {n:Nat} (h:n<18446744073709551616):w64 (n:Int)=n:=by unfold w64;omega
end Go.X
end
section
open Go Go.X
namespace Go.X
set_option linter.unusedVariables false
end Go.X
end
section
namespace Go.X
open Go.Proofs
abbrev zVu:List XO:=[
 ⟨some 2,.p (.mov (C (.slice none 0 0))),none⟩]
def xq88_0:List XO:=zVu
theorem xq88_0e:E3 xq88_0 zVu:=E3.rfl
abbrev zVz:List XO:=[
 ⟨some 3,.p (.mov (C (.slice none 0 0))),none⟩]
def xq88_1:List XO:=zVz
theorem xq88_1e:E3 xq88_1 zVz:=E3.rfl
abbrev zV0:List XO:=[
 ⟨some 5,.p (.mov (T 0)),none⟩,
 ⟨some 6,.call (.func 89) [(T 5),(C (.int .i64 1))],none⟩,
 ⟨some 4,.p (.mov (T 6)),none⟩]
def xq88_2:List XO:=zV0
theorem xq88_2e:E3 xq88_2 zV0:=E3.rfl
abbrev zV1:List XO:=[
 ⟨some 7,.p (.mov (T 4)),none⟩,
 ⟨some 8,.p (.bin .gtr (T 7) (C (.int .u64 0))),none⟩,
 ⟨some 9,.p (.mov (T 8)),none⟩,
 ⟨some 10,.p (.mov (T 0)),some (9,true)⟩,
 ⟨some 11,.call (.func 109) [(T 10)],some (9,true)⟩,
 ⟨some 12,.p (.eql false .int (T 11) (C (.int .i64 0))),some (9,true)⟩,
 ⟨some 13,.p (.pick (T 9) (T 12) (C (.bool false))),none⟩]
def xq88_3:List XO:=zV1
theorem xq88_3e:E3 xq88_3 zV1:=E3.rfl
abbrev zV2:List XO:=[
 ⟨some 16,.p (.mov (T 3)),none⟩,
 ⟨some 17,.p (.mov (T 0)),none⟩,
 ⟨some 18,.call (.func 89) [(T 17),(C (.int .i64 1))],none⟩,
 ⟨some 19,.p (.cint .i64 (T 18)),none⟩,
 ⟨some 20,.a (.bslice [(.int .i64 0)] 1 [(0,1,(T 19))]),none⟩,
 ⟨some 21,.e (.append 1 8 (T 16) (T 20)),none⟩,
 ⟨some 3,.p (.mov (T 21)),none⟩]
def xq88_4:List XO:=zV2
theorem xq88_4e:E3 xq88_4 zV2:=E3.rfl
abbrev zV3:List XO:=[
 ⟨some 14,.p (.mov (T 4)),none⟩,
 ⟨some 15,.p (.bin .sub (T 14) (C (.int .u64 1))),none⟩,
 ⟨some 4,.p (.mov (T 15)),none⟩]
def xq88_5:List XO:=zV3
theorem xq88_5e:E3 xq88_5 zV3:=E3.rfl
def zJP:XC :=
 .seq (.seq (.ops xq88_3) (.cond (T 13) (.skip) (.exit 0))) (.seq (.block 1 (.ops xq88_4)) (.ops xq88_5))
def xq88_6:XC:=zJP
theorem xq88_6k {pr:Prog} {k:List KI} {Q:XE→Fr→Heap→Prop} {t:Fr} {h:Heap} (hw:wpk pr zJP k Q t h):wpk pr xq88_6 k Q t h:=hw
abbrev zV4:List XO:=[
 ⟨some 22,.p (.mov (T 0)),none⟩,
 ⟨some 23,.call (.func 109) [(T 22)],none⟩,
 ⟨some 24,.p (.eql false .int (T 23) (C (.int .i64 0))),none⟩,
 ⟨some 25,.p (.mov (T 24)),none⟩,
 ⟨some 26,.p (.mov (T 3)),some (25,true)⟩,
 ⟨some 27,.call (.func 56) [(T 26)],some (25,true)⟩,
 ⟨some 28,.p (.un .not (T 27)),some (25,true)⟩,
 ⟨some 29,.p (.pick (T 25) (T 28) (C (.bool false))),none⟩]
def xq88_7:List XO:=zV4
theorem xq88_7e:E3 xq88_7 zV4:=E3.rfl
abbrev zV5:List XO:=[
 ⟨some 30,.p (.mov (T 0)),none⟩,
 ⟨some 31,.call (.func 151) [(T 30),(C (.int .i64 6))],none⟩]
def xq88_8:List XO:=zV5
theorem xq88_8e:E3 xq88_8 zV5:=E3.rfl
abbrev zV6:List XO:=[
 ⟨some 32,.p (.mov (T 0)),none⟩,
 ⟨some 33,.call (.func 109) [(T 32)],none⟩,
 ⟨some 34,.p (.eql true .int (T 33) (C (.int .i64 0))),none⟩]
def xq88_9:List XO:=zV6
theorem xq88_9e:E3 xq88_9 zV6:=E3.rfl
abbrev zVw:List XO:=[
 ⟨some 2,.p (.mov (C (.slice none 0 0))),none⟩]
def zVv:List XO:=zVw
theorem xq88_10e:E3 zVv zVw:=E3.rfl
abbrev zVy:List XO:=[
 ⟨some 35,.p (.mov (T 3)),none⟩,
 ⟨some 2,.p (.mov (T 35)),none⟩]
def zVx:List XO:=zVy
theorem xq88_11e:E3 zVx zVy:=E3.rfl
def xq88:XF:=⟨1,[.tmp 2],
 .seq (.ops xq88_0) (.seq (.ops xq88_1) (.seq (.seq (.ops xq88_2) (.block 0 (.loop xq88_6))) (.seq (.seq (.ops xq88_7) (.cond (T 29) (.ops xq88_8) (.skip))) (.seq (.seq (.ops xq88_9) (.cond (T 34) (.seq (.ops zVv) (.ret)) (.skip))) (.seq (.ops zVx) (.ret))))))⟩
def yq88:=PLift.up (And.intro (And.intro (And.intro (@xq88_0e) (@xq88_1e)) (And.intro (@xq88_2e) (And.intro (@xq88_3e) (@xq88_4e)))) (And.intro (And.intro (@xq88_5e) (And.intro (@xq88_7e) (@xq88_8e))) (And.intro (@xq88_9e) (And.intro (@xq88_10e) (@xq88_11e)))))
theorem cq88:zX Tryz.prog Tryz.f88=some xq88:=by kernel_rfl
end Go.X
end
section
open Go Go.X
namespace Go.X
set_option linter.unusedVariables false
def RdInts (h:Heap) (v:Value) (l:List Int):Prop:=∀h',Grows h h'→zAe h' v=some l
theorem RdInts.grow {h h':Heap} {v:Value} {l:List Int} (hr:RdInts h v l) (g:Grows h h'):RdInts h' v l:=fun h2 g2=>hr h2 (g.trans g2)
theorem RdInts.now {h:Heap} {v:Value} {l:List Int} (hr:RdInts h v l):zAe h v=some l:=hr h (Grows.refl h)
theorem Own.ints {h:Heap} {S:Nat→Prop} {v:Value} {n:Nat} {l:List Int} (ho:Own h S 1 v n (zAM l)) (hb:∀x∈l,-9223372036854775808≤x∧x<9223372036854775808):zAe h v=some l:=by
 obtain⟨a,cap,rfl,hs⟩:=ho.shape
 by_cases h0:n=0
 ·subst h0
  have:=ho.nil_of
  obtain rfl:l=[]:=by cases l with|nil=>rfl|cons x l=>simp[zAM] at this
  cases a<;>simp[zAe]
 ·obtain⟨B,off,sp,rfl,h1,_⟩:=hs h0
  rw[Nat.mul_one] at h1
  simp only[zAe]
  rw[if_neg h0]
  simp only[h1,zKo hb]
theorem Own.rdInts {h:Heap} {S:Nat→Prop} {v:Value} {n:Nat} {l:List Int} (ho:Own h S 1 v n (zAM l)) (hb:∀x∈l,-9223372036854775808≤x∧x<9223372036854775808):RdInts h v l:=fun _ g=>(ho.grow g).ints hb
theorem Own.pushI {g:Heap} {S:Nat→Prop} {v:Value} {n:Nat} {q:List Int} (hO:Own g S 1 v n (zAM q)) (x:Int) (hroom:(n+1)*8≤zU) :
  ∃v' g',zAt (g.new [.int .i64 x]) 1 8 v (.slice (some ⟨g.next,0,none⟩) 1 1)=some (v',g')∧Own g' (fun A=>S A∨g.next≤A) 1 v' (n+1) (zAM (q++[x]))∧Keeps S g g':=by
 have hO1:=hO.grow (Grows.new (l:=[.int .i64 x]))
 have hs1:=(Var.new_self (h:=g) (l:=[.int .i64 x])).src (n:=1) (esz:=1) (bytes:=8) (s:=v) (sp:=none) (c:=1) rfl (by decide)
 obtain⟨v',g2,e2,hO2,k2⟩:=hO1.append (bytes:=8) (m:=1) (new:=[.int .i64 x]) rfl rfl (by decide) (by decide) hroom
 have hk:Keeps S g g2:=(Keeps.new (W:=S)).trans k2 (fun _ _ e=>e)
 refine⟨v',g2,by rw[hs1,e2],?_,hk⟩
 have e:zAM q++[.int .i64 x]=zAM (q++[x]):=by simp[zAM]
 rw[e] at hO2
 exact hO2.mono fun A hA=>hA.imp id fun q=>by
  have:(g.new [.int .i64 x]).next=g.next+1:=rfl
  omega
def zAf:Nat→RS→List Int→RS×List Int
 | 0,r,acc=>(r,acc)
 | n+1,r,acc=>if r.err=0 then zAf n (zb r 1).1 (acc++[((zb r 1).2:Int)]) else (r,acc)
def memQ (p:RS×List Int):RS×List Int:=if p.1.err=0 then (if zAx p.2=true then p else (⟨p.1.s,p.1.pos,6⟩,[])) else (p.1,[])
def zAn (r:RS):RS×List Int:=memQ (zAf (zb r 1).2 (zb r 1).1 [])
structure zGf (pr:Prog):Prop where
 wire:zAN pr
 mem:pr.prim 56=some zEh
 tm:pr.prim 88=none
 tmC:pr.code 88=some xq88
theorem TM_run {pr:Prog} (T:zGf pr) {h:Heap} {R:Nat} {r:RS} (hr:Rd h R r) :
  ∃v h',cfi pr 88 [.pointer (some ⟨R,0,none⟩)] h=some (v,h')∧Rd h' R (zAn r).1∧Own h' (fun A=>h.next≤A) 1 v (zAn r).2.length (zAM (zAn r).2)∧(∀x∈(zAn r).2,0≤x∧x<256)∧Keeps (fun A=>A=R) h h':=by
 have hr64:zU=140737488355328:=rfl
 refine zj T.tm T.tmC rfl ?_
 unfold xq88
 dsimp only[zW]
 refine wpk.out (k:=[]) ?_
 have hR:R<h.next:=hr.2.1
 obtain⟨gc,ec,rdc,kc⟩:=zFF T.wire hr 1 (by decide)
 have hn0:=zFz r
 have eu:uw .u64 (zb r 1).2=.int .u64 ((zb r 1).2:Int):=(zCp (by omega)).symm
 rw[eu] at ec
 have ec:cfi pr 89 [.pointer (some ⟨R,0,none⟩),.int .i64 1] h=some (.int .u64 ((zb r 1).2:Int),gc):=ec
 have ntc:=kc.next
 (repeat (first|refine zP ?_|refine zL ?_|refine zO ?_|refine zC ?_|refine zB ?_|refine zJ ?_|refine zK ?_|refine zM ?_|refine zF ?_|refine zH ?_|refine zG ?_|refine zI (by decide) ?_|refine zN ?_|((first|refine zE ?_|refine zQ ?_|refine zS rfl rfl ?_|refine zR rfl ?_|refine zD ?_);simp only[yq88.down,zA,lemS.down,lemC.down,zap,zao,zam,reduceIte,zan,zaq,zar,zas,zat,zau,zav,zaw,zax,reduceCtorEq,lemH.down,ec])))
 refine zAY (fun m t g=>∃r2 acc v,m+acc.length≤256∧zAf m r2 acc=zAf (zb r 1).2 (zb r 1).1 []∧Rd g R r2∧Own g (fun A=>h.next≤A) 1 v acc.length (zAM acc)∧(∀x∈acc,0≤x∧x<256)∧Keeps (fun A=>A=R) h g∧h.next≤g.next∧t.get 0=.pointer (some ⟨R,0,none⟩)∧t.get 3=v∧t.get 4=.int .u64 (m:Int)) ?_ (zb r 1).2 _ _
   ⟨_,[],_,by simp;omega,rfl,rdc,Own.nil,by simp,kc,ntc,by simp only[yq88.down,zA,lemS.down,lemC.down,zap,zao,zam,reduceIte,zan,zaq,zar,zas,zat,zau,zav,zaw,zax,reduceCtorEq],by simp only[yq88.down,zA,lemS.down,lemC.down,zap,zao,zam,reduceIte,zan,zaq,zar,zas,zat,zau,zav,zaw,zax,reduceCtorEq],by simp only[yq88.down,zA,lemS.down,lemC.down,zap,zao,zam,reduceIte,zan,zaq,zar,zas,zat,zau,zav,zaw,zax,reduceCtorEq]⟩
 rintro m t g ⟨r2,acc,v,hm,hL,rd,oc,hin,kk,gn,t0,t3,t4⟩ hnext
 refine xq88_6k ?_
 dsimp only[zJP]
 have er:=zBt T.wire rd
 obtain⟨av,cv,rfl,_⟩:=oc.shape
 have eM:zAf m r2 acc=(r2,acc)→zAn r=memQ (r2,acc):=fun e=>by unfold zAn;rw[←hL,e]
 cases m with
 | zero =>
  have eQ:=eM rfl
  by_cases c0:r2.err=0
  ·have b0:((r2.err:Int)==0)=true:=by rw[c0];rfl
   have hi:zAe g (.slice av acc.length cv)=some acc:=oc.ints fun x hx=>by have:=hin x hx;omega
   have em:cfi pr 56 [.slice av acc.length cv] g=some (.bool (zAx acc),g):=zHB T.mem (zYl hi (by omega))
   cases hb:zAx acc with
   | true =>
    rw[hb] at em
    (repeat (first|refine zP ?_|refine zL ?_|refine zO ?_|refine zC ?_|refine zB ?_|refine zJ ?_|refine zK ?_|refine zM ?_|refine zF ?_|refine zH ?_|refine zG ?_|refine zI (by decide) ?_|refine zN ?_|((first|refine zE ?_|refine zQ ?_|refine zS rfl rfl ?_|refine zR rfl ?_|refine zD ?_);simp only[yq88.down,zA,lemS.down,lemC.down,zap,zao,zam,reduceIte,zan,zaq,zar,zas,zat,zau,zav,zaw,zax,reduceCtorEq,lemH.down,t0,t3,t4,zo,er,b0,em,Bool.not_true,Bool.not_false])))
    have eR:zAn r=(r2,acc):=by rw[eQ];simp only[memQ,if_pos c0,hb,if_true]
    rw[eR]
    exact⟨.inr rfl,_,by (simp only[yq88.down,zA,lemS.down,lemC.down,zap,zao,zam,reduceIte,zan,zaq,zar,zas,zat,zau,zav,zaw,zax,reduceCtorEq,zAI,zBF,resX,zB8])<;>rfl,rd,oc,hin,kk⟩
   | false =>
    rw[hb] at em
    obtain⟨g2,ef,rd2,k2⟩:=zFE T.wire rd 6
    have ef:cfi pr 151 [.pointer (some ⟨R,0,none⟩),.int .i64 6] g=some (.tuple #[],g2):=ef
    rw[if_pos c0] at rd2
    have er2:=zBt T.wire rd2
    (repeat (first|refine zP ?_|refine zL ?_|refine zO ?_|refine zC ?_|refine zB ?_|refine zJ ?_|refine zK ?_|refine zM ?_|refine zF ?_|refine zH ?_|refine zG ?_|refine zI (by decide) ?_|refine zN ?_|((first|refine zE ?_|refine zQ ?_|refine zS rfl rfl ?_|refine zR rfl ?_|refine zD ?_);simp only[yq88.down,zA,lemS.down,lemC.down,zap,zao,zam,reduceIte,zan,zaq,zar,zas,zat,zau,zav,zaw,zax,reduceCtorEq,lemH.down,t0,t3,t4,zo,er,b0,em,ef,er2,Bool.not_true,Bool.not_false])))
    have eR:zAn r=(⟨r2.s,r2.pos,6⟩,[]):=by rw[eQ];simp only[memQ,if_pos c0,hb];rfl
    rw[eR]
    exact⟨.inr rfl,_,by (simp only[yq88.down,zA,lemS.down,lemC.down,zap,zao,zam,reduceIte,zan,zaq,zar,zas,zat,zau,zav,zaw,zax,reduceCtorEq,zAI,zBF,resX,zB8])<;>rfl,rd2,Own.nil,by simp,kk.trans k2 (fun _ _ q=>q)⟩
  ·have b0:((r2.err:Int)==0)=false:=by rw[beq_eq_false_iff_ne];omega
   (repeat (first|refine zP ?_|refine zL ?_|refine zO ?_|refine zC ?_|refine zB ?_|refine zJ ?_|refine zK ?_|refine zM ?_|refine zF ?_|refine zH ?_|refine zG ?_|refine zI (by decide) ?_|refine zN ?_|((first|refine zE ?_|refine zQ ?_|refine zS rfl rfl ?_|refine zR rfl ?_|refine zD ?_);simp only[yq88.down,zA,lemS.down,lemC.down,zap,zao,zam,reduceIte,zan,zaq,zar,zas,zat,zau,zav,zaw,zax,reduceCtorEq,lemH.down,t0,t3,t4,zo,er,b0,Bool.not_true,Bool.not_false])))
   have eR:zAn r=(r2,[]):=by rw[eQ];simp only[memQ,if_neg c0]
   rw[eR]
   exact⟨.inr rfl,_,by (simp only[yq88.down,zA,lemS.down,lemC.down,zap,zao,zam,reduceIte,zan,zaq,zar,zas,zat,zau,zav,zaw,zax,reduceCtorEq,zAI,zBF,resX,zB8])<;>rfl,rd,Own.nil,by simp,kk⟩
 | succ m =>
  have d0:decide (((m+1:Nat):Int)>0)=true:=decide_eq_true (by omega)
  by_cases c0:r2.err=0
  ·have b0:((r2.err:Int)==0)=true:=by rw[c0];rfl
   obtain⟨g1,e1,rd1,k1⟩:=zFF T.wire rd 1 (by decide)
   have e1:cfi pr 89 [.pointer (some ⟨R,0,none⟩),.int .i64 1] g=some (uw .u64 (zb r2 1).2,g1):=e1
   have hn2:=zFz r2
   have ci:=ci64 (n:=(zb r2 1).2) (by omega)
   have oc1:=oc.keep k1 (fun A hA q=>by omega)
   obtain⟨v2,g2,e2,oc2,k2⟩:=oc1.pushI ((zb r2 1).2:Int) (by omega)
   have wn:IntKind.u64.wrap (((m+1:Nat):Int) - 1)=(m:Int):=by
    have:IntKind.u64.wrap (((m+1:Nat):Int) - 1)=(((m+1:Nat):Int) - 1) % 18446744073709551616:=by simp[IntKind.wrap,IntKind.signed,IntKind.bits]
    rw[this]
    omega
   have fl:zt [.int .i64 0] [(0,1,.int .i64 ((zb r2 1).2:Int))]=some [.int .i64 ((zb r2 1).2:Int)]:=rfl
   (repeat (first|refine zP ?_|refine zL ?_|refine zO ?_|refine zC ?_|refine zB ?_|refine zJ ?_|refine zK ?_|refine zM ?_|refine zF ?_|refine zH ?_|refine zG ?_|refine zI (by decide) ?_|refine zN ?_|((first|refine zE ?_|refine zQ ?_|refine zS rfl rfl ?_|refine zR rfl ?_|refine zD ?_);simp only[yq88.down,zA,lemS.down,lemC.down,zap,zao,zam,reduceIte,zan,zaq,zar,zas,zat,zau,zav,zaw,zax,reduceCtorEq,lemH.down,t0,t3,t4,d0,zo,er,b0,e1,ci,fl,e2,wn])))
   have n1:=k1.next
   have n2:=k2.next
   refine hnext m _ _ (Nat.lt_succ_self m) ⟨(zb r2 1).1,acc++[((zb r2 1).2:Int)],v2,by simp;omega,?_,rd1.keep k2 (fun q=>by omega),?_,?_,(kk.trans k1 (fun _ _ q=>q)).trans k2 (fun A hA q=>by omega),by omega,by simp only[yq88.down,zA,lemS.down,lemC.down,zap,zao,zam,reduceIte,zan,zaq,zar,zas,zat,zau,zav,zaw,zax,reduceCtorEq,t0],by simp only[yq88.down,zA,lemS.down,lemC.down,zap,zao,zam,reduceIte,zan,zaq,zar,zas,zat,zau,zav,zaw,zax,reduceCtorEq],by (simp only[yq88.down,zA,lemS.down,lemC.down,zap,zao,zam,reduceIte,zan,zaq,zar,zas,zat,zau,zav,zaw,zax,reduceCtorEq])<;>rfl⟩
   ·rw[←hL]
    conv=>rhs;unfold zAf
    rw[if_pos c0]
   ·rw[List.length_append]
    exact oc2.mono fun A hA=>by omega
   ·intro x hx
    rcases List.mem_append.1 hx with h|h
    ·exact hin x h
    ·rw[List.mem_singleton.1 h];omega
  ·have b0:((r2.err:Int)==0)=false:=by rw[beq_eq_false_iff_ne];omega
   have eQ:=eM (by unfold zAf;rw[if_neg c0])
   (repeat (first|refine zP ?_|refine zL ?_|refine zO ?_|refine zC ?_|refine zB ?_|refine zJ ?_|refine zK ?_|refine zM ?_|refine zF ?_|refine zH ?_|refine zG ?_|refine zI (by decide) ?_|refine zN ?_|((first|refine zE ?_|refine zQ ?_|refine zS rfl rfl ?_|refine zR rfl ?_|refine zD ?_);simp only[yq88.down,zA,lemS.down,lemC.down,zap,zao,zam,reduceIte,zan,zaq,zar,zas,zat,zau,zav,zaw,zax,reduceCtorEq,lemH.down,t0,t3,t4,d0,zo,er,b0,Bool.not_true,Bool.not_false])))
   have eR:zAn r=(r2,[]):=by rw[eQ];simp only[memQ,if_neg c0]
   rw[eR]
   exact⟨.inr rfl,_,by (simp only[yq88.down,zA,lemS.down,lemC.down,zap,zao,zam,reduceIte,zan,zaq,zar,zas,zat,zau,zav,zaw,zax,reduceCtorEq,zAI,zBF,resX,zB8])<;>rfl,rd,Own.nil,by simp,kk⟩
end Go.X
end
section
open Go Go.X
namespace Go.X
set_option linter.unusedVariables false
theorem box5 {h:Heap} (l:List Value):∃g,h.new l=g∧Var g h.next l∧Grows h g∧g.next=h.next+1:=⟨_,rfl,Var.new_self,Grows.new,rfl⟩
theorem zK8:∀ (n:Nat) (r:RS) (acc:List Int),(zAf n r acc).2.length≤acc.length+n
 | 0,r,acc=>by simp[zAf]
 | n+1,r,acc=>by
  unfold zAf
  split
  ·have:=zK8 n (zb r 1).1 (acc++[((zb r 1).2:Int)])
   rw[List.length_append] at this
   simp only[List.length_cons,List.length_nil] at this
   omega
  ·show acc.length≤_;omega
theorem zLA (r:RS):(zAn r).2.length≤256:=by
 have h1:=zK8 (zb r 1).2 (zb r 1).1 []
 have h2:=zFz r
 simp only[List.length_nil] at h1
 unfold zAn memQ
 split
 ·split
  ·omega
  ·exact Nat.zero_le _
 ·exact Nat.zero_le _
end Go.X
end
section
open Go Go.X
namespace Go.X
set_option linter.unusedVariables false
end Go.X
end
section
open Go Go.X
namespace Go.X
set_option linter.unusedVariables false
theorem Own.at {h:Heap} {S:Nat→Prop} {e n:Nat} {v:Value} {l:List Value} (ho:Own h S e v n l) {i:Nat} (hi:i<n) :
  ∃B o,(∀k:IntKind,zA9 e v (.int k (i:Int))=some (.pointer (some ⟨B,o,none⟩)))∧∀h',Own h' S e v n l→∀sp,h'.loadN ⟨B,o,sp⟩ e=some ((l.drop (i*e)).take e):=by
 obtain⟨a,cap,rfl,hs⟩:=ho.shape
 obtain⟨B,off,sp,rfl,_,_⟩:=hs (by omega)
 refine⟨B,off+i*e,fun k=>zHb hi,fun h' ho' sp'=>?_⟩
 obtain⟨a',cap',e',hs'⟩:=ho'.shape
 cases e'
 obtain⟨B',off',sp'',e'',hl,_⟩:=hs' (by omega)
 cases e''
 exact zK1 (a:=⟨B,off,sp⟩) hl (by
  have:(i+1)*e≤n*e:=Nat.mul_le_mul_right e hi
  rw[Nat.add_mul,Nat.one_mul] at this
  exact this)
end Go.X
end
section
open Go Go.X
namespace Go.X
set_option linter.unusedVariables false
end Go.X
end
section
open Go Go.X
namespace Go.X
set_option linter.unusedVariables false
end Go.X
end
section
open Go Go.X
namespace Go.X
set_option linter.unusedVariables false
theorem zKF (r:RS) (m:Nat):(zp r m).2≤m:=by
 unfold zp
 split
 ·exact Nat.zero_le _
 ·split
  ·exact Nat.zero_le _
  ·omega
theorem zGS (r:RS) (m:Nat):(zBV r m).2.length≤m:=Nat.le_trans (zGy _ _) (zKF r m)
end Go.X
end
section
open Go Go.X
namespace Go.X
set_option linter.unusedVariables false
theorem WrS.apart {S:Nat→Prop} {h g:Heap} {W:Nat} {b:List UInt8} (hw:WrS h W S b) (gg:Grows h g):WrS g W (fun A=>S A∧A≠h.next) b:=by
 obtain⟨sw,u,vw,ow⟩:=hw
 refine⟨⟨sw,fun e=>?_⟩,u,vw.grow gg,?_⟩
 ·have:=vw.1
  omega
 ·refine (ow.bound.grow gg).mono fun A hB=>⟨⟨hB.1.1,?_⟩,hB.1.2⟩
  have:=hB.2
  omega
def zA4 (s:List UInt8):List UInt8:=numB s.length 4++s
end Go.X
end
