/- The words and the rounds of a digest. -/
import Derived.Test.YtjlhabhibmgbdaaGreatDoorXC
import Derived.Test.YtjlhabhibmgbdaaGreatDoorXD
set_option linter.unusedSimpArgs false
set_option linter.unusedVariables false
set_option maxHeartbeats 2000000
open Nat renaming reduceLeDiff → zPT, reduceEqDiff → zPU, reduceAdd → zPV
open Int renaming reduceBEq → zPW, reduceLT → zPX, reduceLE → zPY, reduceGT → zPZ, reduceGE → zPa, reduceEq → zPb, reduceAdd → zPc, reduceSub → zPd, reduceMul → zPe
section
open Go Go.X
theorem rotr_u (x n:Nat):uw .u32 ((x % 4294967296) >>> n ||| x <<< (32 - n))=uw .u32 (Sha.rotr x n):=by
 apply zEU
 simp only[zCG,Sha.rotr,Nat.reducePow]
 show _=(((x % 4294967296) >>> n) ||| ((x <<< (32 - n)) % 4294967296)) % 4294967296
 have h:=@Nat.or_mod_two_pow
 have e:(4294967296:Nat)=2 ^ 32:=by decide
 rw[e,h,h,Nat.mod_mod]
theorem rotl_ok (pr:Prog) (x n:Nat) (h:Heap) (h1:1≤n) (hn:n≤31):Comes pr xq454 [uw .u32 x,.int .i64 (-(n:Int))] h (uw .u32 (Sha.rotr x n)):=by
 apply Comes.of
 unfold xq454
 dsimp only[zs]
 have e1:IntKind.u64.wrap (-(n:Int))=((18446744073709551616 - n:Nat):Int):=by rw[zF9 rfl];simp only[zFv];omega
 have e2:binX .and (.int .u64 ((18446744073709551616 - n:Nat):Int)) (.int .u64 31)=some (.int .u64 ((32 - n:Nat):Int)):=by
  rw[uw_nat (k:=.u64) (show 18446744073709551616 - n<2 ^ 64 by omega),uw_lit (k:=.u64) (n:=31) (by decide),zET rfl,uw]
  have:(18446744073709551616 - n) &&& 31=(18446744073709551616 - n) % 32:=Nat.and_two_pow_sub_one_eq_mod _ 5
  rw[this]
  simp only[zFv]
  congr 3
  omega
 have e3:IntKind.u64.wrap (32 - ((32 - n:Nat):Int))=(n:Int):=by rw[zF9 rfl];simp only[zFv];omega
 (repeat (first|refine zS ?_|refine zJ ?_|refine zR ?_|refine zT ?_|refine zH ?_|refine zG ?_|refine zI ?_|refine zO ?_|refine zC ?_|refine zE ?_|refine zD ?_|refine zF (by decide) ?_|refine zQ ?_|((first|refine zP ?_|refine zL ?_|refine zN rfl rfl ?_|refine zM rfl ?_|refine zK ?_);simp only[yq454.down,zA,lemS.down,lemC.down,zPW,zPV,zPT,reduceIte,zPU,zPX,zPY,zPZ,zPa,zPb,zPc,zPd,zPe,reduceCtorEq,e1,e2,e3,zIb (show n≤32 by omega),shlV_u32 (show 32 - n≤32 from Nat.sub_le _ _),lemW.down])))
 refine⟨.inr rfl,?_,Grows.refl h⟩
 simp only[yq454.down,zA,lemS.down,lemC.down,zPW,zPV,zPT,reduceIte,zPU,zPX,zPY,zPZ,zPa,zPb,zPc,zPd,zPe,reduceCtorEq,Nat.or_comm,rotr_u]
 rw[Nat.or_comm,rotr_u]
end
section
open Go Go.X
namespace Go.X
theorem zII (x n:Nat):Sha.rotr (x % 4294967296) n=Sha.rotr x n:=by
 unfold Sha.rotr
 rw[Nat.mod_mod]
 congr 1
 rw[Nat.shiftLeft_eq,Nat.shiftLeft_eq,Nat.mul_mod,Nat.mod_mod,←Nat.mul_mod]
def zAX:List Value→Option Value
 | [.int .u32 a,.int .i64 n]=>if 0≤a∧a<4294967296∧1≤n∧n≤31 then some (uw .u32 (Sha.rotr a.toNat n.toNat)) else none
 | _=>none
def zCD:List Value→Option Value
 | [.int .u32 a,.int .i64 n]=>if 0≤a∧a<4294967296∧n≤-1∧-31≤n then some (uw .u32 (Sha.rotr a.toNat (-n).toNat)) else none
 | _=>none
theorem zA6 {x n:Nat} (h1:1≤n∧n≤31):zAX [uw .u32 x,.int .i64 (OfNat.ofNat n)]=some (uw .u32 (Sha.rotr x n)):=by
 have e:(OfNat.ofNat n:Int)=(n:Int):=rfl
 have hb:x % 2 ^ IntKind.u32.bits<4294967296:=Nat.mod_lt _ (by decide)
 unfold uw
 simp only[zAX,e]
 rw[if_pos (by omega)]
 simp only[Int.toNat_natCast,zCG,Nat.reducePow,zII]
 rfl
theorem rotlS_at {x n:Nat} (h1:1≤n∧n≤31):zCD [uw .u32 x,.int .i64 (-(n:Int))]=some (uw .u32 (Sha.rotr x n)):=by
 have hb:x % 2 ^ IntKind.u32.bits<4294967296:=Nat.mod_lt _ (by decide)
 unfold uw
 simp only[zCD]
 rw[if_pos (by omega)]
 simp only[Int.toNat_natCast,zCG,Nat.reducePow,zII,Int.neg_neg]
 rfl
theorem right_ok (pr:Prog) (hp:pr.prim 454=some (zg zCD)) (x n:Nat) (h:Heap) (h1:1≤n∧n≤31):Comes pr xq417 [uw .u32 x,.int .i64 (n:Int)] h (uw .u32 (Sha.rotr x n)):=by
 apply Comes.of
 unfold xq417
 dsimp only[zs]
 have e:IntKind.i64.wrap (0 - (n:Int))=-(n:Int):=by rw[wrap_i64 (by omega) (by omega)];omega
 (repeat (first|refine zS ?_|refine zJ ?_|refine zR ?_|refine zT ?_|refine zH ?_|refine zG ?_|refine zI ?_|refine zO ?_|refine zC ?_|refine zE ?_|refine zD ?_|refine zF (by decide) ?_|refine zQ ?_|((first|refine zP ?_|refine zL ?_|refine zN rfl rfl ?_|refine zM rfl ?_|refine zK ?_);simp only[yq417.down,zA,lemS.down,lemC.down,zPW,zPV,zPT,reduceIte,zPU,zPX,zPY,zPZ,zPa,zPb,zPc,zPd,zPe,reduceCtorEq,e,zAV hp (rotlS_at h1)])))
 exact⟨.inr rfl,by simp only[yq417.down,zA,lemS.down,lemC.down,zPW,zPV,zPT,reduceIte,zPU,zPX,zPY,zPZ,zPa,zPb,zPc,zPd,zPe,reduceCtorEq],Grows.refl h⟩
end Go.X
end
section
open Go Go.X
namespace Go.X
theorem begin_ok (pr:Prog) (h:Heap):Comes pr xq346 [] h (.agg (Sha.H0.map (uw .u32)).toArray):=by
 apply Comes.of
 unfold xq346
 dsimp only[zs]
 have hV:Var (h.new (List.replicate 8 (.int .u32 0))) h.next (List.replicate 8 (.int .u32 0)):=Var.new_self
 (repeat (first|refine zS ?_|refine zJ ?_|refine zR ?_|refine zT ?_|refine zH ?_|refine zG ?_|refine zI ?_|refine zO ?_|refine zC ?_|refine zE ?_|refine zD ?_|refine zF (by decide) ?_|refine zQ ?_|((first|refine zP ?_|refine zL ?_|refine zN rfl rfl ?_|refine zM rfl ?_|refine zK ?_);simp only[yq346.down,zA,lemS.down,lemC.down,zPW,zPV,zPT,reduceIte,zPU,zPX,zPY,zPZ,zPa,zPb,zPc,zPd,zPe,reduceCtorEq,lemH.down])))
 refine zF7 (v:=.agg (Sha.H0.map (uw .u32)).toArray) (by kernel_rfl) ?_
 rw[hV.storeAll (by rfl) (by rfl) (by decide) zCg]
 simp only[zEN]
 (repeat (first|refine zS ?_|refine zJ ?_|refine zR ?_|refine zT ?_|refine zH ?_|refine zG ?_|refine zI ?_|refine zO ?_|refine zC ?_|refine zE ?_|refine zD ?_|refine zF (by decide) ?_|refine zQ ?_|((first|refine zP ?_|refine zL ?_|refine zN rfl rfl ?_|refine zM rfl ?_|refine zK ?_);simp only[yq346.down,zA,lemS.down,lemC.down,zPW,zPV,zPT,reduceIte,zPU,zPX,zPY,zPZ,zPa,zPb,zPc,zPd,zPe,reduceCtorEq,lemH.down])))
 refine⟨.inr rfl,zFg (a:=⟨h.next,0,none⟩) (by simp only[yq346.down,zA,lemS.down,lemC.down,zPW,zPV,zPT,reduceIte,zPU,zPX,zPY,zPZ,zPa,zPb,zPc,zPd,zPe,reduceCtorEq]) (hV.wr.loadAll rfl),Grows.new.wr (Nat.le_refl _)⟩
theorem zM5 (pr:Prog) (h:Heap):Comes pr xq415 [] h (.agg (Sha.K.map (uw .u32)).toArray):=by
 apply Comes.of
 unfold xq415
 dsimp only[zs]
 have hV:Var (h.new (List.replicate 64 (.int .u32 0))) h.next (List.replicate 64 (.int .u32 0)):=Var.new_self
 (repeat (first|refine zS ?_|refine zJ ?_|refine zR ?_|refine zT ?_|refine zH ?_|refine zG ?_|refine zI ?_|refine zO ?_|refine zC ?_|refine zE ?_|refine zD ?_|refine zF (by decide) ?_|refine zQ ?_|((first|refine zP ?_|refine zL ?_|refine zN rfl rfl ?_|refine zM rfl ?_|refine zK ?_);simp only[yq415.down,zA,lemS.down,lemC.down,zPW,zPV,zPT,reduceIte,zPU,zPX,zPY,zPZ,zPa,zPb,zPc,zPd,zPe,reduceCtorEq,lemH.down])))
 refine zF7 (v:=.agg (Sha.K.map (uw .u32)).toArray) (by kernel_rfl) ?_
 rw[hV.storeAll (by rfl) (by rfl) (by decide) zCg]
 simp only[zEN]
 (repeat (first|refine zS ?_|refine zJ ?_|refine zR ?_|refine zT ?_|refine zH ?_|refine zG ?_|refine zI ?_|refine zO ?_|refine zC ?_|refine zE ?_|refine zD ?_|refine zF (by decide) ?_|refine zQ ?_|((first|refine zP ?_|refine zL ?_|refine zN rfl rfl ?_|refine zM rfl ?_|refine zK ?_);simp only[yq415.down,zA,lemS.down,lemC.down,zPW,zPV,zPT,reduceIte,zPU,zPX,zPY,zPZ,zPa,zPb,zPc,zPd,zPe,reduceCtorEq,lemH.down])))
 refine⟨.inr rfl,zFg (a:=⟨h.next,0,none⟩) (by simp only[yq415.down,zA,lemS.down,lemC.down,zPW,zPV,zPT,reduceIte,zPU,zPX,zPY,zPZ,zPa,zPb,zPc,zPd,zPe,reduceCtorEq]) (hV.wr.loadAll rfl),Grows.new.wr (Nat.le_refl _)⟩
end Go.X
end
section
open Go Go.X
namespace Go.X
theorem inner_ok (pr:Prog) (k:List KI) (Q:XE→Fr→Heap→Prop) (t:Fr) (h:Heap) (W i cap:Nat) (a:Addr) (l l0:List Value) (w:Nat) (b:Nat→Nat) (hl:l.length=64) (hi:i<16) (hV:Var h W l0) (g:Heap) (hgl:∀i,g.load ⟨W,i,none⟩=l[i]?) (hgs:∀x,g.store ⟨W,i,none⟩ [uw .u32 x]=some (h.wr W (l.set i (uw .u32 x)))) (hgb:∀j,j<64→g.load ⟨a.block,a.off+j,none⟩=some (uw .u8 (b j))) (hw:l[i]?=some (uw .u32 w))
  (hb:∀j l,j<64→(h.wr W l).load ⟨a.block,a.off+j,none⟩=some (uw .u8 (b j)))
  (h3:t.get 3=.pointer (some ⟨W,0,none⟩)) (h0:t.get 0=.slice (some a) 64 cap) (h11:t.get 11=.int .i64 (i:Int))
  (hQ:∀t',t'.get 0=.slice (some a) 64 cap→t'.get 2=t.get 2→t'.get 3=.pointer (some ⟨W,0,none⟩)→t'.get 11=.int .i64 (i:Int)→extk pr k 2 Q t' (h.wr W (l.set i (uw .u32 ((((w <<< 8 ||| b (4*i+0) % 256) <<< 8 ||| b (4*i+1) % 256) <<< 8 ||| b (4*i+2) % 256) <<< 8 ||| b (4*i+3) % 256))))) :
  wpk pr (.loop zGR) k Q (PT.set (PT.set t 4 (.int .i64 (i:Int))) 14 (.int .i64 0)) g:=by
 have e4:IntKind.i64.wrap (4*(i:Int))=((4*i:Nat):Int):=by rw[wrap_i64 (by omega) (by omega)];omega
 have f0:IntKind.i64.wrap (((4*i:Nat):Int)+0)=((4*i+0:Nat):Int):=by rw[wrap_i64 (by omega) (by omega)];omega
 have f1:IntKind.i64.wrap (((4*i:Nat):Int)+1)=((4*i+1:Nat):Int):=by rw[wrap_i64 (by omega) (by omega)];omega
 have f2:IntKind.i64.wrap (((4*i:Nat):Int)+2)=((4*i+2:Nat):Int):=by rw[wrap_i64 (by omega) (by omega)];omega
 have f3:IntKind.i64.wrap (((4*i:Nat):Int)+3)=((4*i+3:Nat):Int):=by rw[wrap_i64 (by omega) (by omega)];omega
 have w1:IntKind.i64.wrap 1=1:=by decide
 have w2:IntKind.i64.wrap 2=2:=by decide
 have w3:IntKind.i64.wrap 3=3:=by decide
 have w4:IntKind.i64.wrap 4=4:=by decide
 have hi64:i<64:=by omega
 have a0:=fun (c:Nat)=>@zDA a 64 c (4*i+0) .i64 (by omega)
 have a1:=fun (c:Nat)=>@zDA a 64 c (4*i+1) .i64 (by omega)
 have a2:=fun (c:Nat)=>@zDA a 64 c (4*i+2) .i64 (by omega)
 have a3:=fun (c:Nat)=>@zDA a 64 c (4*i+3) .i64 (by omega)
 have g0:=hgb (4*i+0) (by omega)
 have g1:=fun l=>hb (4*i+1) l (by omega)
 have g2:=fun l=>hb (4*i+2) l (by omega)
 have g3:=fun l=>hb (4*i+3) l (by omega)
 have hst:∀ (l:List Value) (x:Nat),l.length=64→(h.wr W l).store ⟨W,i,none⟩ [uw .u32 x]=some (h.wr W (l.set i (uw .u32 x))):=fun l x hl=>hV.wr_store (by omega) rfl
 have hget:∀ (x:Nat),(l.set i (uw .u32 x))[i]?=some (uw .u32 x):=fun x=>by rw[List.getElem?_set_self (by omega)]
 have hlen:∀ (x:Nat),(l.set i (uw .u32 x)).length=64:=fun x=>by simpa using hl
 have hst1:=fun x y=>hst _ y (hlen x)
 (repeat (first|refine zS ?_|refine zJ ?_|refine zR ?_|refine zT ?_|refine zH ?_|refine zG ?_|refine zI ?_|refine zO ?_|refine zC ?_|refine zE ?_|refine zD ?_|refine zF (by decide) ?_|refine zQ ?_|refine zIw ?_|refine zHc ?_|(refine zPF ?_;dsimp only[zGS])|(refine zLk ?_;dsimp only[zEW])|(refine zL1 ?_;dsimp only[zEX])|((first|refine zP ?_|refine zL ?_|refine zN rfl rfl ?_|refine zM rfl ?_|refine zK ?_);simp only[yq416.down,zA,lemS.down,lemC.down,zPW,zPV,zPT,reduceIte,zPU,zPX,zPY,zPZ,zPa,zPb,zPc,zPd,zPe,reduceCtorEq,zX,zW,lemH.down,lemW.down,h3,h0,h11,e4,f0,f1,f2,f3,w1,w2,w3,w4,zH0,a0,a1,a2,a3,g0,g1,g2,g3,zBg hi64,hV.wr_load,hw,zIa (n:=8) (by decide),zX,hgl,hgs,hst1,hget,zOH])))
 refine hQ _ ?_ ?_ ?_ ?_<;>simp only[yq416.down,zA,lemS.down,lemC.down,zPW,zPV,zPT,reduceIte,zPU,zPX,zPY,zPZ,zPa,zPb,zPc,zPd,zPe,reduceCtorEq,h3,h0,h11]
end Go.X
end
section
open Go Go.X
namespace Go.X
theorem word4 (w b0 b1 b2 b3:Nat) (hw:w=0) (h0:b0<256) (h1:b1<256) (h2:b2<256) (h3:b3<256) :
  ((((w <<< 8 ||| b0 % 256) <<< 8 ||| b1 % 256) <<< 8 ||| b2 % 256) <<< 8 ||| b3 % 256)=((b0*256+b1)*256+b2)*256+b3:=by
 subst hw
 have e:∀x y:Nat,y<256→x <<< 8 ||| y=x*256+y:=fun x y hy=>by
  rw[←Nat.shiftLeft_add_eq_or_of_lt (i:=8) (by simpa using hy),Nat.shiftLeft_eq]
 rw[Nat.mod_eq_of_lt h0,Nat.mod_eq_of_lt h1,Nat.mod_eq_of_lt h2,Nat.mod_eq_of_lt h3,e _ _ h0,e _ _ h1,e _ _ h2,e _ _ h3]
 omega
def zAE (b:Nat→Nat) (i:Nat):List Value:=((List.range i).map fun j=>uw .u32 (zCt b j))++List.replicate (64 - i) (uw .u32 0)
theorem zDw (b:Nat→Nat) {i:Nat} (hi:i≤64):(zAE b i).length=64:=by simp[zAE];omega
theorem zNQ (b:Nat→Nat) {i:Nat} (hi:i<64):(zAE b i)[i]?=some (uw .u32 0):=by
 unfold zAE
 rw[List.getElem?_append_right (by simp)]
 simp only[List.length_map,List.length_range,Nat.sub_self,List.getElem?_replicate]
 rw[if_pos (by omega)]
theorem zNR (b:Nat→Nat) {i:Nat} (hi:i<64):(zAE b i).set i (uw .u32 (zCt b i))=zAE b (i+1):=by
 unfold zAE
 rw[List.set_append_right _ _ (by simp)]
 simp only[List.length_map,List.length_range,Nat.sub_self]
 rw[List.range_succ,List.map_append,List.append_assoc]
 congr 1
 rw[show 64 - i=(64 - (i+1))+1 by omega,List.replicate_succ]
 rfl
theorem outer_ok (pr:Prog) (k:List KI) (Q:XE→Fr→Heap→Prop) (h:Heap) (W cap:Nat) (a:Addr) (l0:List Value) (b:Nat→Nat) (r2:Value) (hV:Var h W l0) (hb8:∀j,b j<256)
  (hb:∀j l,j<64→(h.wr W l).load ⟨a.block,a.off+j,none⟩=some (uw .u8 (b j)))
  (hbh:∀j,j<64→h.load ⟨a.block,a.off+j,none⟩=some (uw .u8 (b j))) (hl0:l0=zAE b 0)
  (hQ:∀t',t'.get 0=.slice (some a) 64 cap→t'.get 2=r2→t'.get 3=.pointer (some ⟨W,0,none⟩)→extk pr k 0 Q t' (h.wr W (zAE b 16))) (t:Fr)
  (h3:t.get 3=.pointer (some ⟨W,0,none⟩)) (h0:t.get 0=.slice (some a) 64 cap) (h2:t.get 2=r2) (h11:t.get 11=.int .i64 0) :
  wpk pr (.loop zGT) k Q t h:=by
 have hgen:∀i,i≤16→(∀j x,j<64→(h.wr W (zAE b i)).store ⟨W,j,none⟩ [uw .u32 x]=some (h.wr W ((zAE b i).set j (uw .u32 x)))):=fun i hi j x hj=>hV.wr_store (by rw[zDw b (by omega)];omega) rfl
 refine zAo (fun m t g=>∃i,m=16 - i∧i≤16∧((∀j,g.load ⟨W,j,none⟩=(zAE b i)[j]?)∧(∀j x,j<64→g.store ⟨W,j,none⟩ [uw .u32 x]=some (h.wr W ((zAE b i).set j (uw .u32 x))))∧(∀j,j<64→g.load ⟨a.block,a.off+j,none⟩=some (uw .u8 (b j)))∧(i=16→g=h.wr W (zAE b 16)))∧t.get 3=.pointer (some ⟨W,0,none⟩)∧t.get 0=.slice (some a) 64 cap∧t.get 2=r2∧t.get 11=.int .i64 (i:Int)) ?_ 16 t _
  ⟨0,rfl,by omega,⟨fun j=>by rw[←hl0];exact hV.load,fun j x hj=>?_,hbh,fun e=>by omega⟩,h3,h0,h2,h11⟩
 ·rintro m t g ⟨i,rfl,hi,⟨gl,gs,gb,ge⟩,h3,h0,h2,h11⟩ hnext
  refine zLk ?_
  dsimp only[zEW]
  (repeat (first|refine zS ?_|refine zJ ?_|refine zR ?_|refine zT ?_|refine zH ?_|refine zG ?_|refine zI ?_|refine zO ?_|refine zC ?_|refine zE ?_|refine zD ?_|refine zF (by decide) ?_|refine zQ ?_|((first|refine zP ?_|refine zL ?_|refine zN rfl rfl ?_|refine zM rfl ?_|refine zK ?_);simp only[yq416.down,zA,lemS.down,lemC.down,zPW,zPV,zPT,reduceIte,zPU,zPX,zPY,zPZ,zPa,zPb,zPc,zPd,zPe,reduceCtorEq,zX,zW,lemH.down,lemW.down,h3,h0,h11,h2])))
  refine⟨fun hlt=>?_,fun hge=>?_⟩
  ·(repeat (first|refine zS ?_|refine zJ ?_|refine zR ?_|refine zT ?_|refine zH ?_|refine zG ?_|refine zI ?_|refine zO ?_|refine zC ?_|refine zE ?_|refine zD ?_|refine zF (by decide) ?_|refine zQ ?_|((first|refine zP ?_|refine zL ?_|refine zN rfl rfl ?_|refine zM rfl ?_|refine zK ?_);simp only[yq416.down,zA,lemS.down,lemC.down,zPW,zPV,zPT,reduceIte,zPU,zPX,zPY,zPZ,zPa,zPb,zPc,zPd,zPe,reduceCtorEq,zX,zW,lemH.down,lemW.down,h3,h0,h11,h2])))
   have hlt':i<16:=by omega
   refine inner_ok pr _ Q _ h W i cap a (zAE b i) l0 0 b (zDw b (by omega)) hlt' hV g gl (fun x=>gs i x (by omega)) gb (zNQ b (by omega)) hb ?_ ?_ ?_ fun t' q0 q2 q3 q11=>?_
   ·simp only[yq416.down,zA,lemS.down,lemC.down,zPW,zPV,zPT,reduceIte,zPU,zPX,zPY,zPZ,zPa,zPb,zPc,zPd,zPe,reduceCtorEq,h3]
   ·simp only[yq416.down,zA,lemS.down,lemC.down,zPW,zPV,zPT,reduceIte,zPU,zPX,zPY,zPZ,zPa,zPb,zPc,zPd,zPe,reduceCtorEq,h0]
   ·simp only[yq416.down,zA,lemS.down,lemC.down,zPW,zPV,zPT,reduceIte,zPU,zPX,zPY,zPZ,zPa,zPb,zPc,zPd,zPe,reduceCtorEq,h11]
   ·rw[word4 0 _ _ _ _ rfl (hb8 _) (hb8 _) (hb8 _) (hb8 _)]
    have e:=zNR b (i:=i) (by omega)
    unfold zCt at e
    rw[show 4*i+0=4*i from rfl,e]
    have q2':t'.get 2=r2:=by rw[q2];simp only[yq416.down,zA,lemS.down,lemC.down,zPW,zPV,zPT,reduceIte,zPU,zPX,zPY,zPZ,zPa,zPb,zPc,zPd,zPe,reduceCtorEq,h2]
    have ew:IntKind.i64.wrap ((i:Int)+1)=((i+1:Nat):Int):=by rw[wrap_i64 (by omega) (by omega)];omega
    (repeat (first|refine zS ?_|refine zJ ?_|refine zR ?_|refine zT ?_|refine zH ?_|refine zG ?_|refine zI ?_|refine zO ?_|refine zC ?_|refine zE ?_|refine zD ?_|refine zF (by decide) ?_|refine zQ ?_|((first|refine zP ?_|refine zL ?_|refine zN rfl rfl ?_|refine zM rfl ?_|refine zK ?_);simp only[yq416.down,zA,lemS.down,lemC.down,zPW,zPV,zPT,reduceIte,zPU,zPX,zPY,zPZ,zPa,zPb,zPc,zPd,zPe,reduceCtorEq,zX,zW,lemH.down,lemW.down,q0,q2',q3,q11,ew])))
    refine hnext (16 - (i+1)) _ _ (by omega) ⟨i+1,rfl,by omega,⟨fun j=>hV.wr_load,hgen (i+1) (by omega),fun j hj=>hb j _ hj,fun e=>by rw[e]⟩,?_,?_,?_,?_⟩<;>simp only[yq416.down,zA,lemS.down,lemC.down,zPW,zPV,zPT,reduceIte,zPU,zPX,zPY,zPZ,zPa,zPb,zPc,zPd,zPe,reduceCtorEq,q0,q2',q3,q11]
  ·(repeat (first|refine zS ?_|refine zJ ?_|refine zR ?_|refine zT ?_|refine zH ?_|refine zG ?_|refine zI ?_|refine zO ?_|refine zC ?_|refine zE ?_|refine zD ?_|refine zF (by decide) ?_|refine zQ ?_|((first|refine zP ?_|refine zL ?_|refine zN rfl rfl ?_|refine zM rfl ?_|refine zK ?_);simp only[yq416.down,zA,lemS.down,lemC.down,zPW,zPV,zPT,reduceIte,zPU,zPX,zPY,zPZ,zPa,zPb,zPc,zPd,zPe,reduceCtorEq,zX,zW,lemH.down,lemW.down,h3,h0,h11,h2])))
   obtain rfl:i=16:=by omega
   obtain rfl:=ge rfl
   refine hQ _ ?_ ?_ ?_<;>simp only[yq416.down,zA,lemS.down,lemC.down,zPW,zPV,zPT,reduceIte,zPU,zPX,zPY,zPZ,zPa,zPb,zPc,zPd,zPe,reduceCtorEq,h3,h0,h2]
 ·have:=hV.store (i:=j) (sp:=none) (vs:=[uw .u32 x]) (by rw[hl0,zDw b (by omega)];exact hj) rfl
  rw[this,hl0]
  congr 2
  simp only[putN,List.length_singleton]
  rw[List.set_eq_take_append_cons_drop,if_pos (by rw[zDw b (by omega)];exact hj)]
  simp
end Go.X
end
section
open Go Go.X
namespace Go.X
def extW (w:List Nat) (i:Nat):List Value:=(Sha.ext w (i - 16)).map (uw .u32)++List.replicate (64 - i) (uw .u32 0)
section
variable {w:List Nat} (hw:w.length=16)
include hw
theorem zDu {i:Nat} (hi:16≤i):(Sha.ext w (i - 16)).length=i:=by rw[Sha.ext_len,hw];omega
theorem zHK {i:Nat} (h1:16≤i) (h2:i≤64):(extW w i).length=64:=by simp[extW,zDu hw h1];omega
theorem zDt {i j:Nat} (h1:16≤i) (hj:j<i):(extW w i)[j]?=some (uw .u32 ((Sha.ext w (i - 16)).getD j 0)):=by
 unfold extW
 have hl:=zDu hw h1
 rw[List.getElem?_append_left (by simpa [hl] using hj),List.getElem?_map,List.getD_eq_getElem?_getD]
 rw[List.getElem?_eq_getElem (by omega)]
 rfl
theorem extW_set {i:Nat} (h1:16≤i) (h2:i<64):(extW w i).set i (uw .u32 (Sha.nxt (Sha.ext w (i - 16))))=extW w (i+1):=by
 unfold extW
 have hl:=zDu hw h1
 rw[List.set_append_right _ _ (by simp[hl])]
 rw[show i+1 - 16=(i - 16)+1 by omega,Sha.ext_succ,List.map_append,List.append_assoc]
 congr 1
 rw[show 64 - i=(64 - (i+1))+1 by omega,List.replicate_succ]
 simp[hl]
end
theorem zNP (b:Nat→Nat):zAE b 16=extW (zAn b) 16:=by
 simp[zAE,extW,zAn,Sha.ext]
theorem zOG (pr:Prog) (hp:pr.prim 417=some (zg zAX)) (k:List KI) (Q:XE→Fr→Heap→Prop) (h:Heap) (W:Nat) (w:List Nat) (hw:w.length=16) (l0:List Value) (r2:Value) (hV:Var h W l0)
  (hQ:∀t',t'.get 2=r2→t'.get 3=.pointer (some ⟨W,0,none⟩)→extk pr k 4 Q t' (h.wr W (extW w 64))) (t:Fr)
  (h3:t.get 3=.pointer (some ⟨W,0,none⟩)) (h2:t.get 2=r2) (h6:t.get 6=.int .i64 16) :
  wpk pr (.loop zGU) k Q t (h.wr W (extW w 16)):=by
 refine zAo (fun m t g=>∃i,m=64 - i∧16≤i∧i≤64∧g=h.wr W (extW w i)∧t.get 3=.pointer (some ⟨W,0,none⟩)∧t.get 2=r2∧t.get 6=.int .i64 (i:Int)) ?_ 48 t _ ⟨16,rfl,by omega,by omega,rfl,h3,h2,h6⟩
 rintro m t _ ⟨i,rfl,hi1,hi,rfl,h3,h2,h6⟩ hnext
 refine zL1 ?_
 dsimp only[zEX]
 (repeat (first|refine zS ?_|refine zJ ?_|refine zR ?_|refine zT ?_|refine zH ?_|refine zG ?_|refine zI ?_|refine zO ?_|refine zC ?_|refine zE ?_|refine zD ?_|refine zF (by decide) ?_|refine zQ ?_|((first|refine zP ?_|refine zL ?_|refine zN rfl rfl ?_|refine zM rfl ?_|refine zK ?_);simp only[yq416.down,zA,lemS.down,lemC.down,zPW,zPV,zPT,reduceIte,zPU,zPX,zPY,zPZ,zPa,zPb,zPc,zPd,zPe,reduceCtorEq,zX,zW,lemH.down,lemW.down,h3,h6,h2])))
 refine⟨fun hlt=>?_,fun hge=>?_⟩
 ·have hlt':i<64:=by omega
  have e15:IntKind.i64.wrap ((i:Int) - 15)=((i - 15:Nat):Int):=by rw[wrap_i64 (by omega) (by omega)];omega
  have e2:IntKind.i64.wrap ((i:Int) - 2)=((i - 2:Nat):Int):=by rw[wrap_i64 (by omega) (by omega)];omega
  have e16:IntKind.i64.wrap ((i:Int) - 16)=((i - 16:Nat):Int):=by rw[wrap_i64 (by omega) (by omega)];omega
  have e7:IntKind.i64.wrap ((i:Int) - 7)=((i - 7:Nat):Int):=by rw[wrap_i64 (by omega) (by omega)];omega
  have e1:IntKind.i64.wrap ((i:Int)+1)=((i+1:Nat):Int):=by rw[wrap_i64 (by omega) (by omega)];omega
  have g15:=zDt hw hi1 (show i - 15<i by omega)
  have g2:=zDt hw hi1 (show i - 2<i by omega)
  have g16:=zDt hw hi1 (show i - 16<i by omega)
  have g7:=zDt hw hi1 (show i - 7<i by omega)
  have hst:=fun x=>@Var.wr_store h W (extW w i) l0 hV i (uw .u32 x) (by rw[zHK hw hi1 hi];omega) rfl
  (repeat (first|refine zS ?_|refine zJ ?_|refine zR ?_|refine zT ?_|refine zH ?_|refine zG ?_|refine zI ?_|refine zO ?_|refine zC ?_|refine zE ?_|refine zD ?_|refine zF (by decide) ?_|refine zQ ?_|((first|refine zP ?_|refine zL ?_|refine zN rfl rfl ?_|refine zM rfl ?_|refine zK ?_);simp only[yq416.down,zA,lemS.down,lemC.down,zPW,zPV,zPT,reduceIte,zPU,zPX,zPY,zPZ,zPa,zPb,zPc,zPd,zPe,reduceCtorEq,zX,zW,lemH.down,lemW.down,h3,h6,h2,e15,e2,e16,e7,e1,zBg (show i - 15<64 by omega),zBg (show i - 2<64 by omega),zBg (show i - 16<64 by omega),zBg (show i - 7<64 by omega),zBg hlt',hV.wr_load,g15,g2,g16,g7,zAV hp (zA6 (n:=7) (by decide)),zAV hp (zA6 (n:=18) (by decide)),zAV hp (zA6 (n:=17) (by decide)),zAV hp (zA6 (n:=19) (by decide)),zFr (n:=3) (by decide),zFr (n:=10) (by decide),zX,hst])))
  refine hnext (64 - (i+1)) _ _ (by omega) ⟨i+1,rfl,by omega,by omega,?_,?_,?_,?_⟩
  ·rw[←extW_set hw hi1 hlt']
   congr 2
   have hl:=zDu hw hi1
   unfold Sha.nxt
   rw[hl]
   exact (uw_mod (k:=.u32)).symm
  ·simp only[yq416.down,zA,lemS.down,lemC.down,zPW,zPV,zPT,reduceIte,zPU,zPX,zPY,zPZ,zPa,zPb,zPc,zPd,zPe,reduceCtorEq,h3]
  ·simp only[yq416.down,zA,lemS.down,lemC.down,zPW,zPV,zPT,reduceIte,zPU,zPX,zPY,zPZ,zPa,zPb,zPc,zPd,zPe,reduceCtorEq,h2]
  ·simp only[yq416.down,zA,lemS.down,lemC.down,zPW,zPV,zPT,reduceIte,zPU,zPX,zPY,zPZ,zPa,zPb,zPc,zPd,zPe,reduceCtorEq]
 ·(repeat (first|refine zS ?_|refine zJ ?_|refine zR ?_|refine zT ?_|refine zH ?_|refine zG ?_|refine zI ?_|refine zO ?_|refine zC ?_|refine zE ?_|refine zD ?_|refine zF (by decide) ?_|refine zQ ?_|((first|refine zP ?_|refine zL ?_|refine zN rfl rfl ?_|refine zM rfl ?_|refine zK ?_);simp only[yq416.down,zA,lemS.down,lemC.down,zPW,zPV,zPT,reduceIte,zPU,zPX,zPY,zPZ,zPa,zPb,zPc,zPd,zPe,reduceCtorEq,zX,zW,lemH.down,lemW.down,h3,h6,h2])))
  obtain rfl:i=64:=by omega
  refine hQ _ ?_ ?_<;>simp only[yq416.down,zA,lemS.down,lemC.down,zPW,zPV,zPT,reduceIte,zPU,zPX,zPY,zPZ,zPa,zPb,zPc,zPd,zPe,reduceCtorEq,h3,h2]
end Go.X
end
section
open Go Go.X
namespace Go.X
theorem words_ok (pr:Prog) (hp:pr.prim 417=some (zg zAX)) (h:Heap) (wf:HWF h) (a:Addr) (cap:Nat) (b:Nat→Nat) (hb8:∀j,b j<256)
  (hb:∀j,j<64→h.load ⟨a.block,a.off+j,none⟩=some (uw .u8 (b j))):Comes pr xq416 [.slice (some a) 64 cap] h (.agg ((Sha.ext (zAn b) 48).map (uw .u32)).toArray):=by
 apply Comes.of
 unfold xq416
 dsimp only[zs]
 let h1:=h.new (List.replicate 64 (.int .u32 0))
 let h2:=h1.new (List.replicate 64 (.int .u32 0))
 have hR:Var h2 h.next (List.replicate 64 (.int .u32 0)):=(Var.new_self (h:=h)).new_old
 have hW:Var h2 (h.next+1) (List.replicate 64 (.int .u32 0)):=Var.new_self (h:=h1)
 (repeat (first|refine zS ?_|refine zJ ?_|refine zR ?_|refine zT ?_|refine zH ?_|refine zG ?_|refine zI ?_|refine zO ?_|refine zC ?_|refine zE ?_|refine zD ?_|refine zF (by decide) ?_|refine zQ ?_|((first|refine zP ?_|refine zL ?_|refine zN rfl rfl ?_|refine zM rfl ?_|refine zK ?_);simp only[yq416.down,zA,lemS.down,lemC.down,zPW,zPV,zPT,reduceIte,zPU,zPX,zPY,zPZ,zPa,zPb,zPc,zPd,zPe,reduceCtorEq,zX,zW,lemH.down])))
 have hh:h.next<h1.next:=Nat.lt_succ_self _
 have hg2:Grows h h2:=Grows.trans Grows.new Grows.new
 have hz:List.replicate 64 (.int .u32 0)=zAE b 0:=by rfl
 have hgw:∀l,Grows h (h2.wr (h.next+1) l):=fun l=>hg2.wr (Nat.le_succ _)
 refine outer_ok pr _ _ h2 (h.next+1) cap a _ b (.pointer (some ⟨h.next,0,none⟩)) hW hb8 (fun j l hj=>(hgw l).load wf (hb j hj)) (fun j hj=>hg2.load wf (hb j hj)) hz ?_ _ (by simp only[yq416.down,zA,lemS.down,lemC.down,zPW,zPV,zPT,reduceIte,zPU,zPX,zPY,zPZ,zPa,zPb,zPc,zPd,zPe,reduceCtorEq]) (by simp only[yq416.down,zA,lemS.down,lemC.down,zPW,zPV,zPT,reduceIte,zPU,zPX,zPY,zPZ,zPa,zPb,zPc,zPd,zPe,reduceCtorEq]) (by simp only[yq416.down,zA,lemS.down,lemC.down,zPW,zPV,zPT,reduceIte,zPU,zPX,zPY,zPZ,zPa,zPb,zPc,zPd,zPe,reduceCtorEq]) (by simp only[yq416.down,zA,lemS.down,lemC.down,zPW,zPV,zPT,reduceIte,zPU,zPX,zPY,zPZ,zPa,zPb,zPc,zPd,zPe,reduceCtorEq])
 intro t q0 q2 q3
 (repeat (first|refine zS ?_|refine zJ ?_|refine zR ?_|refine zT ?_|refine zH ?_|refine zG ?_|refine zI ?_|refine zO ?_|refine zC ?_|refine zE ?_|refine zD ?_|refine zF (by decide) ?_|refine zQ ?_|((first|refine zP ?_|refine zL ?_|refine zN rfl rfl ?_|refine zM rfl ?_|refine zK ?_);simp only[yq416.down,zA,lemS.down,lemC.down,zPW,zPV,zPT,reduceIte,zPU,zPX,zPY,zPZ,zPa,zPb,zPc,zPd,zPe,reduceCtorEq,zX,zW,lemH.down,q0,q2,q3])))
 rw[zNP b]
 refine zOG pr hp _ _ h2 (h.next+1) (zAn b) (zBw b) _ (.pointer (some ⟨h.next,0,none⟩)) hW ?_ _ (by simp only[yq416.down,zA,lemS.down,lemC.down,zPW,zPV,zPT,reduceIte,zPU,zPX,zPY,zPZ,zPa,zPb,zPc,zPd,zPe,reduceCtorEq,q3]) (by simp only[yq416.down,zA,lemS.down,lemC.down,zPW,zPV,zPT,reduceIte,zPU,zPX,zPY,zPZ,zPa,zPb,zPc,zPd,zPe,reduceCtorEq,q2]) (by simp only[yq416.down,zA,lemS.down,lemC.down,zPW,zPV,zPT,reduceIte,zPU,zPX,zPY,zPZ,zPa,zPb,zPc,zPd,zPe,reduceCtorEq])
 intro t r2 r3
 have hlen:=zHK (zBw b) (i:=64) (by omega) (by omega)
 have hx:extW (zAn b) 64=(Sha.ext (zAn b) 48).map (uw .u32):=by simp[extW]
 have hRw:Var (h2.wr (h.next+1) (extW (zAn b) 64)) h.next (List.replicate 64 (.int .u32 0)):=hR.wr_ne (by omega)
 (repeat (first|refine zS ?_|refine zJ ?_|refine zR ?_|refine zT ?_|refine zH ?_|refine zG ?_|refine zI ?_|refine zO ?_|refine zC ?_|refine zE ?_|refine zD ?_|refine zF (by decide) ?_|refine zQ ?_|((first|refine zP ?_|refine zL ?_|refine zN rfl rfl ?_|refine zM rfl ?_|refine zK ?_);simp only[yq416.down,zA,lemS.down,lemC.down,zPW,zPV,zPT,reduceIte,zPU,zPX,zPY,zPZ,zPa,zPb,zPc,zPd,zPe,reduceCtorEq,zX,zW,lemH.down,r2,r3,hW.wr.loadAll hlen])))
 rw[hx] at hRw ⊢
 rw[hRw.storeAll (by rw[List.length_map,Sha.ext_len,zBw]) (by rfl) (by decide) zCg]
 simp only[zEN]
 (repeat (first|refine zS ?_|refine zJ ?_|refine zR ?_|refine zT ?_|refine zH ?_|refine zG ?_|refine zI ?_|refine zO ?_|refine zC ?_|refine zE ?_|refine zD ?_|refine zF (by decide) ?_|refine zQ ?_|((first|refine zP ?_|refine zL ?_|refine zN rfl rfl ?_|refine zM rfl ?_|refine zK ?_);simp only[yq416.down,zA,lemS.down,lemC.down,zPW,zPV,zPT,reduceIte,zPU,zPX,zPY,zPZ,zPa,zPb,zPc,zPd,zPe,reduceCtorEq,zX,zW,lemH.down])))
 refine⟨.inr rfl,zFg (a:=⟨h.next,0,none⟩) (by simp only[yq416.down,zA,lemS.down,lemC.down,zPW,zPV,zPT,reduceIte,zPU,zPX,zPY,zPZ,zPa,zPb,zPc,zPd,zPe,reduceCtorEq,r2]) (hRw.wr.loadAll (by rw[List.length_map,Sha.ext_len,zBw])),(hgw _).wr (Nat.le_refl _)⟩
end Go.X
end
section
open Go Go.X
namespace Go.X
def zCP:List Value→Option (List UInt8)
 | []=>some []
 | .int .u8 n::r=>if 0≤n∧n<256 then (match zCP r with|some l=>some (UInt8.ofNat n.toNat::l)|none=>none) else none
 | _::_=>none
theorem zGs:∀l:List UInt8,zCP (zV l)=some l
 | []=>rfl
 | b::l=>by
  have:=zGs l
  have hb:=b.toNat_lt
  unfold zV at this ⊢
  simp only[List.map_cons,zCP,this]
  rw[if_pos (by omega)]
  simp
theorem zGt:∀ {cs:List Value} {l:List UInt8},zCP cs=some l→cs=zV l
 | [],l,h=>by cases h;rfl
 | c::cs,l,h=>by
  unfold zCP at h
  split at h
  ·rename_i heq;cases heq
  ·rename_i n r heq
   cases heq
   split at h
   ·split at h
    ·rename_i q hq
     cases h
     rw[zGt hq]
     simp only[zV,List.map_cons,UInt8.toNat_ofNat']
     congr 2
     omega
    ·cases h
   ·cases h
  ·cases h
def zA8:Prim:=fun args h=>match args with
 | [.slice (some a) 64 _]=>(match h.loadN a 64 with
  | some l=>(match zCP l with
   | some bs=>some (.agg ((Sha.ext (zAn fun j=>(bs.getD j 0).toNat) 48).map (uw .u32)).toArray,h)
   | none=>none)
  | none=>none)
 | _=>none
def zBb:List Value→Option Value
 | []=>some (.agg (Sha.K.map (uw .u32)).toArray)
 | _=>none
def zCz:List Value→Option Value
 | []=>some (.agg (Sha.H0.map (uw .u32)).toArray)
 | _=>none
theorem zOh {h:Heap} {a:Addr} {cap:Nat} {l:List UInt8} (hl:h.loadN a 64=some (zV l)):zA8 [.slice (some a) 64 cap] h=some (.agg ((Sha.ext (winB l) 48).map (uw .u32)).toArray,h):=by
 simp only[zA8,hl,zGs,winB]
def rnds (w v:List Nat) (i:Nat):List Nat:=Sha.rounds (Sha.K.take i) (w.take i) v
theorem zIL:∀ (ks ws:List Nat) (k w:Nat) (v:List Nat),ks.length=ws.length→Sha.rounds (ks++[k]) (ws++[w]) v=Sha.round k w (Sha.rounds ks ws v)
 | [],[],k,w,v,_=>rfl
 | a::ks,b::ws,k,w,v,h=>by
  simp only[List.cons_append,Sha.rounds]
  exact zIL ks ws k w _ (by simpa using h)
 | [],_::_,_,_,_,h=>by simp at h
 | _::_,[],_,_,_,h=>by simp at h
theorem zIH {w v:List Nat} {i:Nat} (hw:w.length=64) (hi:i<64):rnds w v (i+1)=Sha.round (Sha.K.getD i 0) (w.getD i 0) (rnds w v i):=by
 have hK:Sha.K.length=64:=rfl
 unfold rnds
 rw[List.take_succ_eq_append_getElem (by omega),List.take_succ_eq_append_getElem (by omega),zIL _ _ _ _ _ (by simp[hK,hw])]
 simp[List.getD_eq_getElem?_getD,List.getElem?_eq_getElem (show i<Sha.K.length by omega),List.getElem?_eq_getElem (show i<w.length by omega)]
theorem zFk {k w:Nat} {l:List Nat} (h:l.length=8):(Sha.round k w l).length=8:=by
 match l,h with
 | [a,b,c,d,e,f,g,h],_=>rfl
theorem zEG {w v:List Nat} (hw:w.length=64) (hv:v.length=8):∀i,i≤64→(rnds w v i).length=8
 | 0,_=>by simpa [rnds,Sha.rounds] using hv
 | i+1,hi=>by rw[zIH hw (by omega)];exact zFk (zEG hw hv i (by omega))
theorem zFi {w v:List Nat} (hw:w.length=64):rnds w v 64=Sha.rounds Sha.K w v:=by
 unfold rnds
 rw[List.take_of_length_le (by simp[Sha.K]),List.take_of_length_le (by omega)]
theorem len8 {l:List Nat} (h:l.length=8):∃a b c d e f g i,l=[a,b,c,d,e,f,g,i]:=by
 match l,h with
 | [a,b,c,d,e,f,g,i],_=>exact⟨a,b,c,d,e,f,g,i,rfl⟩
theorem zDI {l:List Nat} {i:Nat} (hi:i<l.length):(l.map (uw .u32))[i]?=some (uw .u32 (l.getD i 0)):=by
 rw[List.getElem?_map,List.getD_eq_getElem?_getD,List.getElem?_eq_getElem hi];rfl
theorem fillV8 {z:Value} {a b c d e f g j:Nat}:zAH (List.replicate 8 z) [(0,1,uw .u32 a),(1,1,uw .u32 b),(2,1,uw .u32 c),(3,1,uw .u32 d),(4,1,uw .u32 e),(5,1,uw .u32 f),(6,1,uw .u32 g),(7,1,uw .u32 j)]=some [uw .u32 a,uw .u32 b,uw .u32 c,uw .u32 d,uw .u32 e,uw .u32 f,uw .u32 g,uw .u32 j]:=by simp[zAH,zDo,putN,List.replicate]
theorem Var.wr_storeAll {h:Heap} {A:Nat} {l m vs:List Value} (hv:Var h A l) {n:Nat} (hn:vs.length=n) (hl:m.length=n) (h0:n≠0) (ho:vs.all oneC=true):zAt (h.wr A m) n (.pointer (some ⟨A,0,none⟩)) (.agg vs.toArray)=some (.tuple #[],h.wr A vs):=by
 rw[hv.wr.storeAll hn hl h0 ho,wr_wr]
set_option maxHeartbeats 2000000 in
theorem zN7 (pr:Prog) (hp:pr.prim 417=some (zg zAX)) (k:List KI) (Q:XE→Fr→Heap→Prop) (h:Heap) (K W V:Nat) (w v:List Nat) (hw:w.length=64) (hv:v.length=8) (l0:List Value) (r0:Value)
  (hK:Var h K (Sha.K.map (uw .u32))) (hW:Var h W (w.map (uw .u32))) (hV:Var h V l0) (hKV:K≠V) (hWV:W≠V)
  (hQ:∀t',t'.get 0=r0→t'.get 6=.pointer (some ⟨V,0,none⟩)→extk pr k 0 Q t' (h.wr V ((rnds w v 64).map (uw .u32)))) (t:Fr)
  (h0:t.get 0=r0) (h4:t.get 4=.pointer (some ⟨K,0,none⟩)) (h5:t.get 5=.pointer (some ⟨W,0,none⟩)) (h6:t.get 6=.pointer (some ⟨V,0,none⟩)) (h21:t.get 21=.int .i64 0) :
  wpk pr (.loop zGM) k Q t (h.wr V (v.map (uw .u32))):=by
 refine zAo (fun m t g=>∃i,m=64 - i∧i≤64∧g=h.wr V ((rnds w v i).map (uw .u32))∧t.get 0=r0∧t.get 4=.pointer (some ⟨K,0,none⟩)∧t.get 5=.pointer (some ⟨W,0,none⟩)∧t.get 6=.pointer (some ⟨V,0,none⟩)∧t.get 21=.int .i64 (i:Int)) ?_ 64 t _ ⟨0,rfl,by omega,rfl,h0,h4,h5,h6,h21⟩
 rintro m t _ ⟨i,rfl,hi,rfl,h0,h4,h5,h6,h21⟩ hnext
 refine zO7 ?_
 dsimp only[zGN]
 (repeat (first|refine zS ?_|refine zJ ?_|refine zR ?_|refine zT ?_|refine zH ?_|refine zG ?_|refine zI ?_|refine zO ?_|refine zC ?_|refine zE ?_|refine zD ?_|refine zF (by decide) ?_|refine zQ ?_|((first|refine zP ?_|refine zL ?_|refine zN rfl rfl ?_|refine zM rfl ?_|refine zK ?_);simp only[yq347.down,zA,lemS.down,lemC.down,zPW,zPV,zPT,reduceIte,zPU,zPX,zPY,zPZ,zPa,zPb,zPc,zPd,zPe,reduceCtorEq,zX,zW,lemH.down,lemW.down,h0,h4,h5,h6,h21])))
 refine⟨fun hlt=>?_,fun hge=>?_⟩
 ·have hlt':i<64:=by omega
  have e1:IntKind.i64.wrap ((i:Int)+1)=((i+1:Nat):Int):=by rw[wrap_i64 (by omega) (by omega)];omega
  obtain⟨a,b,c,d,e,f,g,j,hst⟩:=len8 (zEG hw hv i hi)
  rw[hst]
  have hsucc:=zIH (v:=v) hw hlt'
  rw[hst] at hsucc
  have hKl:=fun l=>(hK.wr_ne (A:=V) (m:=l) hKV).load (i:=i) (sp:=none)
  have hWl:=fun l=>(hW.wr_ne (A:=V) (m:=l) hWV).load (i:=i) (sp:=none)
  have gK:=zDI (l:=Sha.K) (i:=i) (show i<64 from hlt')
  have gW:=zDI (l:=w) (i:=i) (by omega)
  (repeat (first|refine zS ?_|refine zJ ?_|refine zR ?_|refine zT ?_|refine zH ?_|refine zG ?_|refine zI ?_|refine zO ?_|refine zC ?_|refine zE ?_|refine zD ?_|refine zF (by decide) ?_|refine zQ ?_|((first|refine zP ?_|refine zL ?_|refine zN rfl rfl ?_|refine zM rfl ?_|refine zK ?_);simp only[yq347.down,zA,lemS.down,lemC.down,zPW,zPV,zPT,reduceIte,zPU,zPX,zPY,zPZ,zPa,zPb,zPc,zPd,zPe,reduceCtorEq,zX,zW,lemH.down,lemW.down,h0,h4,h5,h6,h21,e1,zBI (n:=8) (i:=0) (by decide),zBI (n:=8) (i:=1) (by decide),zBI (n:=8) (i:=2) (by decide),zBI (n:=8) (i:=3) (by decide),zBI (n:=8) (i:=4) (by decide),zBI (n:=8) (i:=5) (by decide),zBI (n:=8) (i:=6) (by decide),zBI (n:=8) (i:=7) (by decide),zBg hlt',hV.wr_load,hKl,hWl,gK,gW,List.getElem?_cons_succ,List.getElem?_cons_zero,zAV hp (zA6 (n:=6) (by decide)),zAV hp (zA6 (n:=11) (by decide)),zAV hp (zA6 (n:=25) (by decide)),zAV hp (zA6 (n:=2) (by decide)),zAV hp (zA6 (n:=13) (by decide)),zAV hp (zA6 (n:=22) (by decide)),fillV8,zCM])))
  have hst2:=fun a b c d e f g j a' b' c' d' e' f' g' j'=>hV.wr_storeAll (m:=[uw .u32 a,uw .u32 b,uw .u32 c,uw .u32 d,uw .u32 e,uw .u32 f,uw .u32 g,uw .u32 j]) (vs:=[uw .u32 a',uw .u32 b',uw .u32 c',uw .u32 d',uw .u32 e',uw .u32 f',uw .u32 g',uw .u32 j']) (n:=8) rfl rfl (by decide) rfl
  simp only[yq347.down,zA,lemS.down,lemC.down,zPW,zPV,zPT,reduceIte,zPU,zPX,zPY,zPZ,zPa,zPb,zPc,zPd,zPe,reduceCtorEq,zX,zW,lemH.down,h21,e1,hst2]
  (repeat (first|refine zS ?_|refine zJ ?_|refine zR ?_|refine zT ?_|refine zH ?_|refine zG ?_|refine zI ?_|refine zO ?_|refine zC ?_|refine zE ?_|refine zD ?_|refine zF (by decide) ?_|refine zQ ?_|((first|refine zP ?_|refine zL ?_|refine zN rfl rfl ?_|refine zM rfl ?_|refine zK ?_);simp only[yq347.down,zA,lemS.down,lemC.down,zPW,zPV,zPT,reduceIte,zPU,zPX,zPY,zPZ,zPa,zPb,zPc,zPd,zPe,reduceCtorEq,zX,zW,lemH.down,h0,h4,h5,h6,h21,e1])))
  refine hnext (64 - (i+1)) _ _ (by omega) ⟨i+1,rfl,by omega,?_,?_,?_,?_,?_,?_⟩
  ·rw[hsucc]
   congr 1
   simp only[Sha.round,List.map_cons,List.map_nil]
   have c1:uw .u32 (j+Sha.e1 e+Sha.ch e f g+Sha.K.getD i 0+w.getD i 0+Sha.e0 a+Sha.maj a b c)=uw .u32 (((j+Sha.e1 e+Sha.ch e f g+Sha.K.getD i 0+w.getD i 0) % 4294967296+Sha.e0 a+Sha.maj a b c) % 4294967296):=zEU (by simp only[zCG];omega)
   have c2:uw .u32 (d+(j+Sha.e1 e+Sha.ch e f g+Sha.K.getD i 0+w.getD i 0))=uw .u32 ((d+(j+Sha.e1 e+Sha.ch e f g+Sha.K.getD i 0+w.getD i 0) % 4294967296) % 4294967296):=zEU (by simp only[zCG];omega)
   rw[←c1,←c2]
   rfl
  all_goals simp only[yq347.down,zA,lemS.down,lemC.down,zPW,zPV,zPT,reduceIte,zPU,zPX,zPY,zPZ,zPa,zPb,zPc,zPd,zPe,reduceCtorEq,h0,h4,h5,h6]
 ·(repeat (first|refine zS ?_|refine zJ ?_|refine zR ?_|refine zT ?_|refine zH ?_|refine zG ?_|refine zI ?_|refine zO ?_|refine zC ?_|refine zE ?_|refine zD ?_|refine zF (by decide) ?_|refine zQ ?_|((first|refine zP ?_|refine zL ?_|refine zN rfl rfl ?_|refine zM rfl ?_|refine zK ?_);simp only[yq347.down,zA,lemS.down,lemC.down,zPW,zPV,zPT,reduceIte,zPU,zPX,zPY,zPZ,zPa,zPb,zPc,zPd,zPe,reduceCtorEq,zX,zW,lemH.down,lemW.down,h0,h4,h5,h6,h21])))
  obtain rfl:i=64:=by omega
  refine hQ _ ?_ ?_<;>simp only[yq347.down,zA,lemS.down,lemC.down,zPW,zPV,zPT,reduceIte,zPU,zPX,zPY,zPZ,zPa,zPb,zPc,zPd,zPe,reduceCtorEq,h0,h6]
def addP (hs vs:List Nat) (i:Nat):List Nat:=(List.range i).map (fun j=>(hs.getD j 0+vs.getD j 0) % 4294967296)++hs.drop i
theorem addP_len {hs vs:List Nat} {i:Nat} (hi:i≤hs.length):(addP hs vs i).length=hs.length:=by simp[addP];omega
theorem addP_get {hs vs:List Nat} {i:Nat} (hi:i<hs.length):(addP hs vs i).getD i 0=hs.getD i 0:=by
 unfold addP
 rw[List.getD_eq_getElem?_getD,List.getElem?_append_right (by simp)]
 simp[List.getD_eq_getElem?_getD]
theorem addP_set {hs vs:List Nat} {i:Nat} (hi:i<hs.length):(addP hs vs i).set i ((hs.getD i 0+vs.getD i 0) % 4294967296)=addP hs vs (i+1):=by
 unfold addP
 rw[List.set_append_right _ _ (by simp)]
 simp only[List.length_map,List.length_range,Nat.sub_self]
 rw[List.range_succ,List.map_append,List.append_assoc,List.drop_eq_getElem_cons hi]
 rfl
theorem addP_all {hs vs:List Nat} (h1:hs.length=8) (h2:vs.length=8):addP hs vs 8=Sha.addAll hs vs:=by
 obtain⟨a0,a1,a2,a3,a4,a5,a6,a7,rfl⟩:=len8 h1
 obtain⟨b0,b1,b2,b3,b4,b5,b6,b7,rfl⟩:=len8 h2
 rfl
theorem add_ok (pr:Prog) (k:List KI) (Q:XE→Fr→Heap→Prop) (h:Heap) (D V:Nat) (hs vs:List Nat) (h1:hs.length=8) (h2:vs.length=8) (l:List Value)
  (hD:Var h D (hs.map (uw .u32)++l)) (hV:Var h V (vs.map (uw .u32))) (hne:V≠D)
  (hQ:∀t' g,Var g D ((Sha.addAll hs vs).map (uw .u32)++l)→Keeps (fun A=>A=D) h g→extk pr k 2 Q t' g) (t:Fr)
  (t0:t.get 0=.pointer (some ⟨D,0,none⟩)) (t6:t.get 6=.pointer (some ⟨V,0,none⟩)) (t112:t.get 112=.int .i64 0) :
  wpk pr (.loop zGO) k Q t h:=by
 refine zAo (fun m t g=>∃i,m=8 - i∧i≤8∧Var g D ((addP hs vs i).map (uw .u32)++l)∧Var g V (vs.map (uw .u32))∧Keeps (fun A=>A=D) h g∧t.get 0=.pointer (some ⟨D,0,none⟩)∧t.get 6=.pointer (some ⟨V,0,none⟩)∧t.get 112=.int .i64 (i:Int)) ?_ 8 t _ ⟨0,rfl,by omega,hD,hV,Keeps.refl,t0,t6,t112⟩
 rintro m t g ⟨i,rfl,hi,gD,gV,gk,t0,t6,t112⟩ hnext
 refine zPD ?_
 dsimp only[zGP]
 (repeat (first|refine zS ?_|refine zJ ?_|refine zR ?_|refine zT ?_|refine zH ?_|refine zG ?_|refine zI ?_|refine zO ?_|refine zC ?_|refine zE ?_|refine zD ?_|refine zF (by decide) ?_|refine zQ ?_|((first|refine zP ?_|refine zL ?_|refine zN rfl rfl ?_|refine zM rfl ?_|refine zK ?_);simp only[yq347.down,zA,lemS.down,lemC.down,zPW,zPV,zPT,reduceIte,zPU,zPX,zPY,zPZ,zPa,zPb,zPc,zPd,zPe,reduceCtorEq,zX,zW,lemH.down,lemW.down,t0,t6,t112])))
 refine⟨fun hlt=>?_,fun hge=>?_⟩
 ·have hlt':i<8:=by omega
  have e1:IntKind.i64.wrap ((i:Int)+1)=((i+1:Nat):Int):=by rw[wrap_i64 (by omega) (by omega)];omega
  have hL:=addP_len (vs:=vs) (show i≤hs.length by omega)
  have ldD:=fun i=>gD.load (i:=i) (sp:=none)
  have ldV:=fun i=>gV.load (i:=i) (sp:=none)
  have gDi:((addP hs vs i).map (uw .u32)++l)[i]?=some (uw .u32 (hs.getD i 0)):=by
   rw[List.getElem?_append_left (by simp[hL];omega),zDI (by omega),addP_get (by omega)]
  have gVi:(vs.map (uw .u32))[i]?=some (uw .u32 (vs.getD i 0)):=zDI (by omega)
  have hst:=fun x=>gD.store1 (i:=i) (v:=uw .u32 x) (sp:=none) (by simp[hL];omega) rfl
  (repeat (first|refine zS ?_|refine zJ ?_|refine zR ?_|refine zT ?_|refine zH ?_|refine zG ?_|refine zI ?_|refine zO ?_|refine zC ?_|refine zE ?_|refine zD ?_|refine zF (by decide) ?_|refine zQ ?_|((first|refine zP ?_|refine zL ?_|refine zN rfl rfl ?_|refine zM rfl ?_|refine zK ?_);simp only[yq347.down,zA,lemS.down,lemC.down,zPW,zPV,zPT,reduceIte,zPU,zPX,zPY,zPZ,zPa,zPb,zPc,zPd,zPe,reduceCtorEq,zX,zW,lemH.down,lemW.down,t0,t6,t112,e1,zBg hlt',ldD,ldV,gDi,gVi,hst])))
  refine hnext (8 - (i+1)) _ _ (by omega) ⟨i+1,rfl,by omega,?_,?_,?_,?_,?_,?_⟩
  ·rw[←addP_set (by omega)]
   have:((addP hs vs i).map (uw .u32)++l).set i (uw .u32 (hs.getD i 0+vs.getD i 0))=((addP hs vs i).set i ((hs.getD i 0+vs.getD i 0) % 4294967296)).map (uw .u32)++l:=by
    rw[List.set_append_left _ _ (by simp[hL];omega),List.map_set]
    congr 2
    exact (uw_mod (k:=.u32)).symm
   rw[←this]
   exact gD.wr
  ·exact gV.wr_ne hne
  ·exact gk.trans Keeps.wr (fun A _ e=>e)
  all_goals simp only[yq347.down,zA,lemS.down,lemC.down,zPW,zPV,zPT,reduceIte,zPU,zPX,zPY,zPZ,zPa,zPb,zPc,zPd,zPe,reduceCtorEq,t0,t6]
 ·(repeat (first|refine zS ?_|refine zJ ?_|refine zR ?_|refine zT ?_|refine zH ?_|refine zG ?_|refine zI ?_|refine zO ?_|refine zC ?_|refine zE ?_|refine zD ?_|refine zF (by decide) ?_|refine zQ ?_|((first|refine zP ?_|refine zL ?_|refine zN rfl rfl ?_|refine zM rfl ?_|refine zK ?_);simp only[yq347.down,zA,lemS.down,lemC.down,zPW,zPV,zPT,reduceIte,zPU,zPX,zPY,zPZ,zPa,zPb,zPc,zPd,zPe,reduceCtorEq,zX,zW,lemH.down,lemW.down,t0,t6,t112])))
  obtain rfl:i=8:=by omega
  rw[addP_all h1 h2] at gD
  exact hQ _ _ gD gk
theorem zGo (pr:Prog) (hp:pr.prim 417=some (zg zAX)) (hw:pr.prim 416=some zA8) (hk:pr.prim 415=some (zg zBb)) (hb:pr.prim 347=none) (hc:pr.code 347=some zCJ)
  (h:Heap) (D cap:Nat) (a:Addr) (hs:List Nat) (hs8:hs.length=8) (l:List Value) (hl:l.length=2) (bs:List UInt8) (hD:Var h D (hs.map (uw .u32)++l)) (hB:h.loadN a 64=some (zV bs)) :
  ∃v h',cfi pr 347 [.pointer (some ⟨D,0,none⟩),.slice (some a) 64 cap] h=some (v,h')∧v=.tuple #[]∧Var h' D ((Sha.block hs (winB bs)).map (uw .u32)++l)∧Keeps (fun A=>A=D) h h':=by
 refine zDp hb hc rfl ?_
 unfold zCJ
 dsimp only[zs]
 have hW8:((Sha.ext (winB bs) 48)).length=64:=by rw[Sha.ext_len,winB,zBw]
 refine wpk.out (k:=[]) ?_
 have hlt:D<h.next:=hD.1
 have hK2:Var ((h.new (List.replicate 64 (.int .u32 0))).new (List.replicate 64 (.int .u32 0))) h.next (List.replicate 64 (.int .u32 0)):=Var.new_self.new_old
 have hW2:Var ((h.new (List.replicate 64 (.int .u32 0))).new (List.replicate 64 (.int .u32 0))) (h.next+1) (List.replicate 64 (.int .u32 0)):=Var.new_self (h:=h.new (List.replicate 64 (.int .u32 0)))
 have hD2:Var ((h.new (List.replicate 64 (.int .u32 0))).new (List.replicate 64 (.int .u32 0))) D (hs.map (uw .u32)++l):=hD.new_old.new_old
 have hg2:Grows h ((h.new (List.replicate 64 (.int .u32 0))).new (List.replicate 64 (.int .u32 0))):=Grows.new.trans Grows.new
 have hn2:((h.new (List.replicate 64 (.int .u32 0))).new (List.replicate 64 (.int .u32 0))).next=h.next+2:=rfl
 (repeat (first|refine zS ?_|refine zJ ?_|refine zR ?_|refine zT ?_|refine zH ?_|refine zG ?_|refine zI ?_|refine zO ?_|refine zC ?_|refine zE ?_|refine zD ?_|refine zF (by decide) ?_|refine zQ ?_|((first|refine zP ?_|refine zL ?_|refine zN rfl rfl ?_|refine zM rfl ?_|refine zK ?_);simp only[yq347.down,zA,lemS.down,lemC.down,zPW,zPV,zPT,reduceIte,zPU,zPX,zPY,zPZ,zPa,zPb,zPc,zPd,zPe,reduceCtorEq,zX,zW,lemH.down,zAV hk (s:=zBb) (args:=[]) rfl,cfi_at hw (zOh hB)])))
 generalize (h.new (List.replicate 64 (.int .u32 0))).new (List.replicate 64 (.int .u32 0))=h2 at *
 refine⟨_,hK2.storeAll (n:=64) (vs:=Sha.K.map (uw .u32)) (by simp[Sha.K]) (by rfl) (by decide) zCg,?_⟩
 have hW3:=hW2.wr_ne (A:=h.next) (m:=Sha.K.map (uw .u32)) (by omega)
 have hD3:=hD2.wr_ne (A:=h.next) (m:=Sha.K.map (uw .u32)) (by omega)
 have hK3:=hK2.wr (m:=Sha.K.map (uw .u32))
 have hg3:=hg2.wr (A:=h.next) (l:=Sha.K.map (uw .u32)) (Nat.le_refl _)
 have hn3:(h2.wr h.next (Sha.K.map (uw .u32))).next=h.next+2:=hn2
 dsimp only
 generalize h2.wr h.next (Sha.K.map (uw .u32))=h3 at *
 refine⟨_,hW3.storeAll (n:=64) (vs:=(Sha.ext (winB bs) 48).map (uw .u32)) (by simp[hW8]) (by rfl) (by decide) zCg,?_⟩
 have hW4:=hW3.wr (m:=(Sha.ext (winB bs) 48).map (uw .u32))
 have hD4:=hD3.wr_ne (A:=h.next+1) (m:=(Sha.ext (winB bs) 48).map (uw .u32)) (by omega)
 have hK4:=hK3.wr_ne (A:=h.next+1) (m:=(Sha.ext (winB bs) 48).map (uw .u32)) (by omega)
 have hg4:=hg3.wr (A:=h.next+1) (l:=(Sha.ext (winB bs) 48).map (uw .u32)) (by omega)
 have hn4:(h3.wr (h.next+1) ((Sha.ext (winB bs) 48).map (uw .u32))).next=h.next+2:=hn3
 dsimp only
 generalize h3.wr (h.next+1) ((Sha.ext (winB bs) 48).map (uw .u32))=h4 at *
 clear hK2 hW2 hD2 hg2 hn2 hW3 hD3 hK3 hg3 hn3
 have ldD:h4.loadN ⟨D,0,none⟩ 8=some (hs.map (uw .u32)):=by
  rw[hD4.loadN]
  simp[zAD,hs8,hl]
  rfl
 (repeat (first|refine zS ?_|refine zJ ?_|refine zR ?_|refine zT ?_|refine zH ?_|refine zG ?_|refine zI ?_|refine zO ?_|refine zC ?_|refine zE ?_|refine zD ?_|refine zF (by decide) ?_|refine zQ ?_|((first|refine zP ?_|refine zL ?_|refine zN rfl rfl ?_|refine zM rfl ?_|refine zK ?_);simp only[yq347.down,zA,lemS.down,lemC.down,zPW,zPV,zPT,reduceIte,zPU,zPX,zPY,zPZ,zPa,zPb,zPc,zPd,zPe,reduceCtorEq,zX,zW,lemH.down,ldD,hn4])))
 have hV5:Var (h4.new (List.replicate 8 (.int .u32 0))) (h.next+2) (List.replicate 8 (.int .u32 0)):=by rw[←hn4];exact Var.new_self
 have hD5:=hD4.new_old (m:=List.replicate 8 (.int .u32 0))
 have hK5:=hK4.new_old (m:=List.replicate 8 (.int .u32 0))
 have hW5:=hW4.new_old (m:=List.replicate 8 (.int .u32 0))
 have hg5:=hg4.trans (Grows.new (l:=List.replicate 8 (.int .u32 0)))
 generalize h4.new (List.replicate 8 (.int .u32 0))=h5 at *
 clear hD4 hK4 hW4 hg4 ldD
 refine⟨_,hV5.storeAll (n:=8) (vs:=hs.map (uw .u32)) (by simp[hs8]) (by rfl) (by decide) zCg,?_⟩
 dsimp only
 (repeat (first|refine zS ?_|refine zJ ?_|refine zR ?_|refine zT ?_|refine zH ?_|refine zG ?_|refine zI ?_|refine zO ?_|refine zC ?_|refine zE ?_|refine zD ?_|refine zF (by decide) ?_|refine zQ ?_|((first|refine zP ?_|refine zL ?_|refine zN rfl rfl ?_|refine zM rfl ?_|refine zK ?_);simp only[yq347.down,zA,lemS.down,lemC.down,zPW,zPV,zPT,reduceIte,zPU,zPX,zPY,zPZ,zPa,zPb,zPc,zPd,zPe,reduceCtorEq,zX,zW,lemH.down])))
 refine zN7 pr hp _ _ h5 h.next (h.next+1) (h.next+2) _ hs hW8 hs8 _ (.pointer (some ⟨D,0,none⟩)) hK5 hW5 hV5 (by omega) (by omega) ?_ _ (by simp only[yq347.down,zA,lemS.down,lemC.down,zPW,zPV,zPT,reduceIte,zPU,zPX,zPY,zPZ,zPa,zPb,zPc,zPd,zPe,reduceCtorEq]) (by simp only[yq347.down,zA,lemS.down,lemC.down,zPW,zPV,zPT,reduceIte,zPU,zPX,zPY,zPZ,zPa,zPb,zPc,zPd,zPe,reduceCtorEq]) (by simp only[yq347.down,zA,lemS.down,lemC.down,zPW,zPV,zPT,reduceIte,zPU,zPX,zPY,zPZ,zPa,zPb,zPc,zPd,zPe,reduceCtorEq]) (by simp only[yq347.down,zA,lemS.down,lemC.down,zPW,zPV,zPT,reduceIte,zPU,zPX,zPY,zPZ,zPa,zPb,zPc,zPd,zPe,reduceCtorEq]) (by simp only[yq347.down,zA,lemS.down,lemC.down,zPW,zPV,zPT,reduceIte,zPU,zPX,zPY,zPZ,zPa,zPb,zPc,zPd,zPe,reduceCtorEq])
 intro t q0 q6
 rw[zFi hW8]
 have hr8:(Sha.rounds Sha.K (Sha.ext (winB bs) 48) hs).length=8:=by rw[←zFi hW8];exact zEG hW8 hs8 64 (by omega)
 have hbl:Sha.block hs (winB bs)=Sha.addAll hs (Sha.rounds Sha.K (Sha.ext (winB bs) 48) hs):=by
  unfold Sha.block
  rw[←Sha.sched_ext 48 (winB bs) (zBw _)]
 rw[hbl]
 generalize Sha.rounds Sha.K (Sha.ext (winB bs) 48) hs=vs at *
 have hD6:=hD5.wr_ne (A:=h.next+2) (m:=vs.map (uw .u32)) (by omega)
 have hV6:=hV5.wr (m:=vs.map (uw .u32))
 have hg6:=hg5.wr (A:=h.next+2) (l:=vs.map (uw .u32)) (by omega)
 generalize h5.wr (h.next+2) (vs.map (uw .u32))=h6 at *
 clear hD5 hK5 hW5 hg5 hV5
 (repeat (first|refine zS ?_|refine zJ ?_|refine zR ?_|refine zT ?_|refine zH ?_|refine zG ?_|refine zI ?_|refine zO ?_|refine zC ?_|refine zE ?_|refine zD ?_|refine zF (by decide) ?_|refine zQ ?_|((first|refine zP ?_|refine zL ?_|refine zN rfl rfl ?_|refine zM rfl ?_|refine zK ?_);simp only[yq347.down,zA,lemS.down,lemC.down,zPW,zPV,zPT,reduceIte,zPU,zPX,zPY,zPZ,zPa,zPb,zPc,zPd,zPe,reduceCtorEq,zX,zW,lemH.down,q0,q6])))
 refine add_ok pr _ _ h6 D (h.next+2) hs vs hs8 hr8 l hD6 hV6 (by omega) ?_ _ (by simp only[yq347.down,zA,lemS.down,lemC.down,zPW,zPV,zPT,reduceIte,zPU,zPX,zPY,zPZ,zPa,zPb,zPc,zPd,zPe,reduceCtorEq,q0]) (by simp only[yq347.down,zA,lemS.down,lemC.down,zPW,zPV,zPT,reduceIte,zPU,zPX,zPY,zPZ,zPa,zPb,zPc,zPd,zPe,reduceCtorEq,q6]) (by simp only[yq347.down,zA,lemS.down,lemC.down,zPW,zPV,zPT,reduceIte,zPU,zPX,zPY,zPZ,zPa,zPb,zPc,zPd,zPe,reduceCtorEq])
 intro t' g r1 r2
 (repeat (first|refine zS ?_|refine zJ ?_|refine zR ?_|refine zT ?_|refine zH ?_|refine zG ?_|refine zI ?_|refine zO ?_|refine zC ?_|refine zE ?_|refine zD ?_|refine zF (by decide) ?_|refine zQ ?_|((first|refine zP ?_|refine zL ?_|refine zN rfl rfl ?_|refine zM rfl ?_|refine zK ?_);simp only[yq347.down,zA,lemS.down,lemC.down,zPW,zPV,zPT,reduceIte,zPU,zPX,zPY,zPZ,zPa,zPb,zPc,zPd,zPe,reduceCtorEq,zX,zW,lemH.down])))
 refine⟨.inl rfl,_,rfl,rfl,r1,?_⟩
 exact Keeps.trans (hg6.keeps) r2 (fun A _ e=>e)
end Go.X
end
