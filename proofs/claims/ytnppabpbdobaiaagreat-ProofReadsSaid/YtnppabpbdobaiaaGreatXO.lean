/- Any bytes are a proof, or refused. -/
import Derived.Test.YtnppabpbdobaiaaGreatXI
import Derived.Test.YtnppabpbdobaiaaGreatXJ
import Derived.Test.YtnppabpbdobaiaaGreatXK
import Derived.Test.YtnppabpbdobaiaaGreatXM
import Derived.Test.YtnppabpbdobaiaaGreatXN
set_option linter.unusedSimpArgs false
set_option linter.unusedVariables false
set_option maxHeartbeats 2000000
open Nat renaming reduceLeDiff → zeu, reduceEqDiff → zev, reduceAdd → zew
open Int renaming reduceBEq → zex, reduceLT → zey, reduceLE → zez, reduceGT → ze0, reduceGE → ze1, reduceEq → ze2, reduceAdd → ze3, reduceSub → ze4, reduceMul → ze5
section
open Go Go.X
namespace Go.X
set_option linter.unusedVariables false
def Takes (r r':RS) (b:List UInt8):Prop:=r'.s = r.s∧(r'.err = 0→r.err = 0∧r.pos≤r'.pos∧r.s.take r'.pos = r.s.take r.pos ++ b)
theorem Takes.refl (r:RS):Takes r r []:=⟨rfl,fun h=>⟨h,Nat.le_refl _,by simp⟩⟩
theorem Takes.trans {r r1 r2:RS} {a b:List UInt8} (h1:Takes r r1 a) (h2:Takes r1 r2 b):Takes r r2 (a ++ b):=by
 refine ⟨h2.1.trans h1.1,fun h=>?_⟩
 obtain⟨e1,p1,t1⟩:=h2.2 h
 obtain⟨e0,p0,t0⟩:=h1.2 e1
 rw [h1.1] at t1
 exact⟨e0,Nat.le_trans p0 p1,by rw [t1,t0,List.append_assoc]⟩
theorem Takes.as {r r':RS} {a b:List UInt8} (h:Takes r r' a) (e:r'.err = 0→a = b):Takes r r' b:=⟨h.1,fun q=>by rw [← e q];exact h.2 q⟩
theorem Takes.bad {r r':RS} {b:List UInt8} (hs:r'.s = r.s) (h:r'.err≠0):Takes r r' b:=⟨hs,fun q=>absurd q h⟩
theorem zIq (r:RS) (n:Nat):Takes r (zX r n).1 (zX r n).2:=by
 refine ⟨zFq r n,fun h=>?_⟩
 obtain⟨h1,h2,h3,h4⟩:=zFo h
 rw [h3,h4]
 exact⟨h1,Nat.le_add_right _ _,take_add⟩
theorem zHF {r:RS} {n:Nat} (h:(zX r n).1.err = 0):(zX r n).2.length = n:=by
 obtain⟨h1,h2,h3,h4⟩:=zFo h
 rw [h4,List.length_take,List.length_drop];omega
theorem zCj (r:RS) (k:Nat):Takes r (zT r k).1 (numB (zT r k).2 k):=by
 refine (zIq r k).as fun h=>?_
 have hl:=zHF (r:=r) (n:=k) h
 have:=zL0 (zX r k).2
 rw [hl] at this
 exact this.symm
theorem zDu (r:RS):Takes r (zX r 32).1 (zAY (zX r 32).2):=(zIq r 32).as fun h=>(zLR (zHF h)).symm
theorem zEd (r:RS) (m:Nat):Takes r (zc r m).1 (numB (zc r m).2 4):=by
 unfold zc
 by_cases h0:(zT r 4).1.err≠0
 ·rw [if_pos h0];exact .bad (zBi r 4) h0
 ·rw [if_neg h0]
  by_cases h1:m < (zT r 4).2
  ·rw [if_pos h1];exact .bad rfl (by show (3:Nat)≠0;decide)
  ·rw [if_neg h1];exact zCj r 4
theorem zGh (r:RS) (m:Nat):Takes r (z8 r m).1 (zCQ (z8 r m).2):=by
 have h1:=(zEd r m).trans (zIq (zc r m).1 (zc r m).2)
 have e:z8 r m = ((if (zX (zc r m).1 (zc r m).2).1.err≠0 then ⟨(zX (zc r m).1 (zc r m).2).1.s,r.pos,(zX (zc r m).1 (zc r m).2).1.err⟩ else (zX (zc r m).1 (zc r m).2).1),(zX (zc r m).1 (zc r m).2).2):=rfl
 rw [e]
 by_cases h0:(zX (zc r m).1 (zc r m).2).1.err≠0
 ·rw [if_pos h0];exact .bad (by show (zX (zc r m).1 (zc r m).2).1.s = _;exact h1.1) h0
 ·rw [if_neg h0]
  refine h1.as fun h=>?_
  unfold zCQ
  show _ = numB (zX (zc r m).1 (zc r m).2).2.length 4 ++ _
  rw [zHF h]
theorem zNA (r:RS):Takes r (zAe r).1 (numB (bitN (zAe r).2) 1):=by
 unfold zAe
 by_cases h0:(zT r 1).1.err = 0
 ·rw [if_pos h0]
  by_cases h1:1 < (zT r 1).2
  ·rw [if_pos h1];exact .bad rfl (by show (6:Nat)≠0;decide)
  ·rw [if_neg h1]
   refine (zCj r 1).as fun _=>?_
   have:bitN (decide ((zT r 1).2 = 1)) = (zT r 1).2:=by
    unfold bitN
    by_cases q:(zT r 1).2 = 1
    ·rw [q];rfl
    ·rw [decide_eq_false q]
     show 0 = _
     omega
   show _ = numB (bitN (decide ((zT r 1).2 = 1))) 1
   rw [this]
 ·rw [if_neg h0];exact .bad (zBi r 1) h0
theorem zLq:∀ (n:Nat) (r:RS) (acc:List Int),(zAr n r acc).1.err = 0→∃ m,(zAr n r acc).2 = acc ++ m∧m.length = n∧Takes r (zAr n r acc).1 (zBS m)
 | 0,r,acc,h=>⟨[],by simp [zAr],rfl,by simpa [zBS,zAr] using Takes.refl r⟩
 | n + 1,r,acc,h=>by
  unfold zAr at h ⊢
  by_cases q:r.err = 0
  ·rw [if_pos q] at h ⊢
   obtain⟨m,m1,m2,m3⟩:=zLq n _ _ h
   refine ⟨((zT r 1).2:Int) :: m,by rw [m1];simp,by rw [List.length_cons,m2],?_⟩
   have e:zBS (((zT r 1).2:Int) :: m) = numB (zT r 1).2 1 ++ zBS m:=by
    have:=zBm r
    simp only [zBS,List.flatMap_cons]
    rw [zI2 (by omega)]
   rw [e]
   exact (zCj r 1).trans m3
  ·rw [if_neg q] at h
   exact absurd h q
theorem zLs:∀ (n:Nat) (r:RS) (acc:List Int),(zAr n r acc).1.s = r.s
 | 0,_,_=>rfl
 | n + 1,r,acc=>by
  unfold zAr
  split
  ·rw [zLs n,zBi]
  ·rfl
theorem zcy (r:RS):Takes r (zAx r).1 (zEQ (zAx r).2):=by
 unfold zAx memQ
 have hs:=zLs (zT r 1).2 (zT r 1).1 []
 rw [zBi] at hs
 by_cases h0:(zAr (zT r 1).2 (zT r 1).1 []).1.err = 0
 ·rw [if_pos h0]
  by_cases h1:zBg (zAr (zT r 1).2 (zT r 1).1 []).2 = true
  ·rw [if_pos h1]
   obtain⟨m,m1,m2,m3⟩:=zLq _ _ _ h0
   refine ((zCj r 1).trans m3).as fun _=>?_
   rw [m1,List.nil_append,zEQ,m2]
  ·rw [if_neg h1];exact .bad hs (by show (6:Nat)≠0;decide)
 ·rw [if_neg h0];exact .bad hs h0
theorem zNC (r:RS):Takes r (zAE r).1 (zA6 (zAE r).2)∧((zAE r).1.err = 0→zAy (zAE r).2 = 0):=by
 have hX:Takes r (zAz r).1 (zA6 (zAz r).2):=by
  have:=((((zCj r 8).trans (zDu _)).trans (zDu _)).trans (zDu _)).trans (zcy (zX (zX (zX (zT r 8).1 32).1 32).1 32).1)
  exact this.as fun _=>rfl
 unfold zAE zBw
 by_cases h0:(zAz r).1.err = 0
 ·rw [if_pos h0]
  by_cases h1:zAy (zAz r).2 = 0
  ·rw [if_pos h1];exact⟨hX,fun _=>h1⟩
  ·rw [if_neg h1];exact⟨.bad hX.1 h1,fun h=>absurd h h1⟩
 ·rw [if_neg h0];exact⟨.bad hX.1 h0,fun h=>absurd h h0⟩
theorem zNB (r:RS):Takes r (zs r).1 (zBN (zs r).2)∧(zs r).2.length≤256:=by
 have hs:(zs r).1.s = r.s:=takeR_s r
 have hn:=zBm r
 have e:zs r = zCY (zAc (zT r 1).2 (zT r 1).1 []):=rfl
 rw [e] at hs ⊢
 by_cases h0:(zAc (zT r 1).2 (zT r 1).1 []).1.err = 0
 ·obtain⟨m,m1,m2,m3,m4⟩:=zLn _ _ _ h0
  have h2:(zCY (zAc (zT r 1).2 (zT r 1).1 [])).2 = m:=by unfold zCY;rw [if_pos h0,m1];rfl
  rw [h2]
  refine ⟨?_,by omega⟩
  have:Takes (zT r 1).1 (zAc (zT r 1).2 (zT r 1).1 []).1 (zAp m):=⟨zH2 _ _ _,fun _=>⟨zH1 h0,by rw [m3];omega,by rw [m3];exact m4⟩⟩
  refine ((zCj r 1).trans this).as fun _=>?_
  rw [zBN,m2]
 ·have h2:(zCY (zAc (zT r 1).2 (zT r 1).1 [])).2 = []:=by unfold zCY;rw [if_neg h0]
  rw [h2]
  exact⟨.bad hs h0,by simp⟩
theorem zND (r:RS):Takes r (opR r).1 (opB (opR r).2):=by
 have t1:=zCj r 1
 have hn:=zBm r
 obtain⟨a,ha⟩:∃ a,zT r 1 = a:=⟨_,rfl⟩
 rw [ha] at t1 hn
 have t2:=zGh a.1 32
 obtain⟨b,hb⟩:∃ b,z8 a.1 32 = b:=⟨_,rfl⟩
 rw [hb] at t2
 have t3:=zGh b.1 64
 obtain⟨d,hd⟩:∃ d,z8 b.1 64 = d:=⟨_,rfl⟩
 rw [hd] at t3
 have eo:opR r = (d.1,((a.2:Int),b.2,d.2)):=by unfold opR;rw [ha,hb,hd]
 rw [eo]
 refine ((t1.trans t2).trans t3).as fun _=>?_
 unfold opB
 simp only
 rw [zI2 (by omega)]
theorem zL5:∀ (n:Nat) (r:RS) (acc:List OpV),(zAa n r acc).1.err = 0→∃ m,(zAa n r acc).2 = acc ++ m∧m.length = n∧Takes r (zAa n r acc).1 (opsB m)
 | 0,r,acc,h=>⟨[],by simp [zAa],rfl,by simpa [opsB,zAa] using Takes.refl r⟩
 | n + 1,r,acc,h=>by
  unfold zAa at h ⊢
  by_cases q:r.err = 0
  ·rw [if_pos q] at h ⊢
   obtain⟨m,m1,m2,m3⟩:=zL5 n _ _ h
   refine ⟨(opR r).2 :: m,by rw [m1];simp,by rw [List.length_cons,m2],?_⟩
   have e:opsB ((opR r).2 :: m) = opB (opR r).2 ++ opsB m:=by simp [opsB]
   rw [e]
   exact (zND r).trans m3
  ·rw [if_neg q] at h
   exact absurd h q
theorem zL6:∀ (n:Nat) (r:RS) (acc:List OpV),(zAa n r acc).1.s = r.s
 | 0,_,_=>rfl
 | n + 1,r,acc=>by
  unfold zAa
  split
  ·rw [zL6 n,(zND r).1]
  ·rfl
theorem takes_tx (r:RS):Takes r (txR r).1 (txB (txR r).2.c (txR r).2.n (txR r).2.ops)∧((txR r).1.err = 0→txE (txR r).2.n (txR r).2.ops = 0)∧(txR r).2.c < 18446744073709551616∧(txR r).2.n < 18446744073709551616:=by
 have b1:(zT r 8).2 < 18446744073709551616:=zC8 r (k:=8) (by decide)
 have b2:(zT (zT r 8).1 8).2 < 18446744073709551616:=zC8 _ (k:=8) (by decide)
 have t3:=((zCj r 8).trans (zCj (zT r 8).1 8)).trans (zEd (zT (zT r 8).1 8).1 8)
 obtain⟨k,hk⟩:∃ k,zc (zT (zT r 8).1 8).1 8 = k:=⟨_,rfl⟩
 have eX:txX r = ((zAa k.2 k.1 []).1,⟨(zT r 8).2,(zT (zT r 8).1 8).2,(zAa k.2 k.1 []).2⟩):=by unfold txX;rw [hk]
 rw [hk] at t3
 have hs:(zAa k.2 k.1 []).1.s = r.s:=(zL6 _ _ _).trans t3.1
 unfold txR txQ
 rw [eX]
 by_cases h0:(zAa k.2 k.1 []).1.err = 0
 ·rw [if_pos h0]
  obtain⟨m,m1,m2,m3⟩:=zL5 _ _ _ h0
  rw [List.nil_append] at m1
  by_cases h1:txE (zT (zT r 8).1 8).2 (zAa k.2 k.1 []).2 = 0
  ·rw [if_pos h1]
   refine ⟨(t3.trans m3).as fun _=>?_,fun _=>h1,b1,b2⟩
   show _ = txB (zT r 8).2 (zT (zT r 8).1 8).2 (zAa k.2 k.1 []).2
   rw [m1,txB,m2]
  ·rw [if_neg h1]
   exact⟨.bad hs (by show (40:Nat)≠0;decide),fun h=>absurd h (by show (40:Nat)≠0;decide),by show 0 < _;decide,by show 0 < _;decide⟩
 ·rw [if_neg h0]
  exact⟨.bad hs h0,fun h=>absurd h h0,by show 0 < _;decide,by show 0 < _;decide⟩
theorem zHi:∀ (n:Nat) (r:RS) (acc:List (List UInt8)),(zAW n r acc).1.err = 0→∃ m,(zAW n r acc).2 = acc ++ m∧m.length = n∧Takes r (zAW n r acc).1 (zAZ m)
 | 0,r,acc,h=>⟨[],by simp [zAW],rfl,by simpa [zAZ,zAW] using Takes.refl r⟩
 | n + 1,r,acc,h=>by
  unfold zAW at h ⊢
  by_cases q:r.err = 0
  ·rw [if_pos q] at h ⊢
   obtain⟨m,m1,m2,m3⟩:=zHi n _ _ h
   refine ⟨(zX r 32).2 :: m,by rw [m1];simp,by rw [List.length_cons,m2],?_⟩
   have e:zAZ ((zX r 32).2 :: m) = zAY (zX r 32).2 ++ zAZ m:=by simp [zAZ]
   rw [e]
   exact (zDu r).trans m3
  ·rw [if_neg q] at h
   exact absurd h q
theorem zLS:∀ (n:Nat) (r:RS) (acc:List (List UInt8)),(zAW n r acc).1.s = r.s
 | 0,_,_=>rfl
 | n + 1,r,acc=>by
  unfold zAW
  split
  ·rw [zLS n,(zDu r).1]
  ·rfl
end Go.X
end
section
open Go Go.X
namespace Go.X
set_option linter.unusedVariables false
theorem takes_pf (r:RS):Takes r (pfR r).1 (pfB (pfR r).2):=by
 have t1:=zEd r 256
 obtain⟨k,hk⟩:∃ k,zc r 256 = k:=⟨_,rfl⟩
 rw [hk] at t1
 obtain⟨p,hp⟩:∃ p,zAW k.2 k.1 [] = p:=⟨_,rfl⟩
 have hs:p.1.s = r.s:=by rw [← hp,zLS];exact t1.1
 have hf:p.1.err = 0→p.2.length = k.2∧Takes k.1 p.1 (zAZ p.2):=fun h=>by
  rw [← hp] at h ⊢
  obtain⟨m,m1,m2,m3⟩:=zHi _ _ _ h
  rw [List.nil_append] at m1
  rw [m1]
  exact⟨m2,m3⟩
 have t2:=zNA p.1
 obtain⟨b,hb⟩:∃ b,zAe p.1 = b:=⟨_,rfl⟩
 rw [hb] at t2
 have eR:pfR r = pfQ (pfY p):=by rw [pfR,hk,hp]
 rw [eR]
 unfold pfQ
 have key:Takes r (pfY p).1 (pfB (pfY p).2):=by
  unfold pfY
  rw [hb]
  by_cases h1:b.2 = true
  ·rw [if_pos h1]
   have t3:=zDu b.1
   obtain⟨x,hx⟩:∃ x,zX b.1 32 = x:=⟨_,rfl⟩
   rw [hx] at t3
   have t4:=zDu x.1
   obtain⟨y,hy⟩:∃ y,zX x.1 32 = y:=⟨_,rfl⟩
   rw [hy] at t4
   rw [hx,hy]
   have t24:=(t2.trans t3).trans t4
   refine ⟨t24.1.trans hs,fun h=>?_⟩
   obtain⟨e,_⟩:=t24.2 h
   obtain⟨l,tp⟩:=hf e
   have:=((t1.trans tp).trans t24).as (b:=pfB ⟨p.2,true,x.2,y.2⟩) fun _=>by rw [h1];simp only [pfB,zFB,l,List.append_assoc,if_true]
   exact this.2 h
  ·have h1:b.2 = false:=by simpa using h1
   rw [h1,if_neg (by decide)]
   refine ⟨t2.1.trans hs,fun h=>?_⟩
   obtain⟨e,_⟩:=t2.2 h
   obtain⟨l,tp⟩:=hf e
   have:=((t1.trans tp).trans t2).as (b:=pfB ⟨p.2,false,[],[]⟩) fun _=>by rw [h1];simp [pfB,zFB,l]
   exact this.2 h
 by_cases h0:(pfY p).1.err = 0
 ·rw [if_pos h0];exact key
 ·rw [if_neg h0];exact .bad key.1 h0
theorem zE2 {r:RS} (h:(endR r).err = 0):r.err = 0∧r.s.length≤r.pos:=by
 unfold endR at h
 split at h
 ·cases h
 ·rename_i q
  refine ⟨h,?_⟩
  rcases Nat.lt_or_ge r.pos r.s.length with p|p
  ·exact absurd ⟨by omega,h⟩ q
  ·exact p
theorem zM9 {s b:List UInt8} {r:RS} (t:Takes ⟨s,0,0⟩ r b) (h:(endR r).err = 0):b = s:=by
 obtain⟨h1,h2⟩:=zE2 h
 obtain⟨_,_,h3⟩:=t.2 h1
 have h3:s.take r.pos = s.take 0 ++ b:=h3
 have hs:r.s = s:=t.1
 rw [hs] at h2
 rw [List.take_of_length_le h2] at h3
 simpa using h3.symm
theorem ds_fine {s:List UInt8} (h:(dsR s).1 = 0):esB (dsR s).2 = s∧zAy (dsR s).2.hd = 0∧(dsR s).2.tags.length≤256∧(dsR s).2.key.length≤32∧(dsR s).2.value.length≤64∧(dsR s).2.hd.m.length≤256:=by
 have t1:=zNC ⟨s,0,0⟩
 have lm:(zAz ⟨s,0,0⟩).2.m.length≤256:=zH8 _
 have lm2:(zAE ⟨s,0,0⟩).2.m.length≤256:=by
  unfold zAE zBw
  split
  ·split
   ·exact lm
   ·exact Nat.zero_le _
  ·exact Nat.zero_le _
 obtain⟨a,ha⟩:∃ a,zAE ⟨s,0,0⟩ = a:=⟨_,rfl⟩
 rw [ha] at t1 lm2
 have t2:=zNB a.1
 obtain⟨b,hb⟩:∃ b,zs a.1 = b:=⟨_,rfl⟩
 rw [hb] at t2
 have t3:=zGh b.1 32
 have l3:=zGi b.1 32
 obtain⟨c,hc⟩:∃ c,z8 b.1 32 = c:=⟨_,rfl⟩
 rw [hc] at t3 l3
 have t4:=zNA c.1
 obtain⟨d,hd⟩:∃ d,zAe c.1 = d:=⟨_,rfl⟩
 rw [hd] at t4
 have t5:=zGh d.1 64
 have l5:=zGi d.1 64
 obtain⟨e,he⟩:∃ e,z8 d.1 64 = e:=⟨_,rfl⟩
 rw [he] at t5 l5
 have t6:=takes_pf e.1
 obtain⟨f,hf⟩:∃ f,pfR e.1 = f:=⟨_,rfl⟩
 rw [hf] at t6
 have eX:dsR s = dsQ (f.1,⟨a.2,b.2,c.2,d.2,e.2,f.2⟩):=by unfold dsR dsX;rw [ha,hb,hc,hd,he,hf]
 rw [eX] at h ⊢
 unfold dsQ at h ⊢
 by_cases h0:(endR f.1).err = 0
 ·simp only [if_pos h0] at h ⊢
  have t26:=(((t2.1.trans t3).trans t4).trans t5).trans t6
  have tA:=t1.1.trans t26
  have ea:a.1.err = 0:=(t26.2 (zE2 h0).1).1
  have:=zM9 tA h0
  refine ⟨?_,t1.2 ea,t2.2,l3,l5,lm2⟩
  rw [← this]
  simp only [esB,List.append_assoc]
 ·simp only [if_neg h0] at h
  exact absurd h h0
theorem dt_fine {s:List UInt8} (h:(dtR s).1 = 0):etB (dtR s).2 = s∧zAy (dtR s).2.hd = 0∧txE (dtR s).2.tx.n (dtR s).2.tx.ops = 0∧(dtR s).2.tx.c < 18446744073709551616∧(dtR s).2.tx.n < 18446744073709551616∧(dtR s).2.at_ < 4294967296∧(dtR s).2.many < 4294967296∧(dtR s).2.tags.length≤256∧(dtR s).2.hd.m.length≤256:=by
 have t1:=zNC ⟨s,0,0⟩
 have lm:(zAz ⟨s,0,0⟩).2.m.length≤256:=zH8 _
 have lm2:(zAE ⟨s,0,0⟩).2.m.length≤256:=by
  unfold zAE zBw
  split
  ·split
   ·exact lm
   ·exact Nat.zero_le _
  ·exact Nat.zero_le _
 obtain⟨a,ha⟩:∃ a,zAE ⟨s,0,0⟩ = a:=⟨_,rfl⟩
 rw [ha] at t1 lm2
 have t2:=zNB a.1
 obtain⟨b,hb⟩:∃ b,zs a.1 = b:=⟨_,rfl⟩
 rw [hb] at t2
 have t3:=takes_tx b.1
 obtain⟨c,hc⟩:∃ c,txR b.1 = c:=⟨_,rfl⟩
 rw [hc] at t3
 have t4:=zEd c.1 16
 have l4:=zEB c.1 16
 obtain⟨d,hd⟩:∃ d,zc c.1 16 = d:=⟨_,rfl⟩
 rw [hd] at t4 l4
 have t5:=zEd d.1 16
 have l5:=zEB d.1 16
 obtain⟨e,he⟩:∃ e,zc d.1 16 = e:=⟨_,rfl⟩
 rw [he] at t5 l5
 have t6:=zEd e.1 8
 obtain⟨f,hf⟩:∃ f,zc e.1 8 = f:=⟨_,rfl⟩
 rw [hf] at t6
 obtain⟨Q,hQ⟩:∃ Q,zAW f.2 f.1 [] = Q:=⟨_,rfl⟩
 have hfine:Q.1.err = 0→Q.2.length = f.2∧Takes f.1 Q.1 (zAZ Q.2):=fun h=>by
  rw [← hQ] at h ⊢
  obtain⟨m,m1,m2,m3⟩:=zHi _ _ _ h
  rw [List.nil_append] at m1
  rw [m1]
  exact⟨m2,m3⟩
 have eX:dtR s = dtQ (Q.1,⟨a.2,b.2,c.2,d.2,e.2,Q.2⟩):=by unfold dtR dtX;rw [ha,hb,hc,hd,he,hf,hQ]
 rw [eX] at h ⊢
 unfold dtQ at h ⊢
 by_cases h0:(endR Q.1).err = 0
 ·simp only [if_pos h0] at h ⊢
  obtain⟨lQ,t7⟩:=hfine (zE2 h0).1
  have t47:=((t4.trans t5).trans t6).trans t7
  have t27:=(t2.1.trans t3.1).trans t47
  have tA:=t1.1.trans t27
  have ec:c.1.err = 0:=(t47.2 (zE2 h0).1).1
  have ea:a.1.err = 0:=(t27.2 (zE2 h0).1).1
  have:=zM9 tA h0
  refine ⟨?_,t1.2 ea,t3.2.1 ec,t3.2.2.1,t3.2.2.2,by omega,by omega,t2.2,lm2⟩
  rw [← this]
  simp only [etB,lQ,List.append_assoc]
 ·simp only [if_neg h0] at h
  exact absurd h h0
end Go.X
end
section
open Go Go.X
namespace Go.X
set_option linter.unusedVariables false
theorem SOk.grow {h h':Heap} {N:Nat} {x:SV} {mv tv pv:Value} (ok:SOk h N x mv tv pv) (g:Grows h h'):SOk h' N x mv tv pv:=⟨⟨ok.hd.1,(ok.mem.grow g).ints (zCc ok.hd.2.1).1,ok.hd.2.2⟩,ok.mem.grow g,ok.tags.grow g,ok.fine,ok.pf.grow g,ok.few⟩
theorem XOk.grow {h h':Heap} {N:Nat} {x:XV} {mv tv ov pv:Value} (ok:XOk h N x mv tv ov pv) (g:Grows h h'):XOk h' N x mv tv ov pv:=⟨⟨ok.hd.1,(ok.mem.grow g).ints (zCc ok.hd.2.1).1,ok.hd.2.2⟩,ok.mem.grow g,ok.tags.grow g,ok.fine,ok.ops.grow g,ok.okO,ok.few,ok.path.grow g,ok.short⟩
theorem ds_bad {s:List UInt8} (h:(dsR s).1≠0):(dsR s).2 = zeroS:=by
 unfold dsR dsQ at h ⊢
 split
 ·rename_i q;rw [if_pos q] at h;exact absurd rfl h
 ·rfl
theorem dt_bad {s:List UInt8} (h:(dtR s).1≠0):(dtR s).2 = zBs:=by
 unfold dtR dtQ at h ⊢
 split
 ·rename_i q;rw [if_pos q] at h;exact absurd rfl h
 ·rfl
structure Law19 (pr:Prog):Prop where
 d:DTab pr
 e:ETab pr
 aw:pr.prim 44 = some (zf trueS)
theorem reads_ok (pr:Prog) (T:Law19 pr) (s:List UInt8) (hs:s.length≤9223372036854775807) (h:Heap):Comes pr xq8 [.string (strOf s)] h (.bool true):=by
 apply Comes.of
 unfold xq8
 dsimp only [zh]
 obtain⟨w1,h1,e1,mv,tv,pv,rfl,ok1,gg1⟩:=DS_run T.d (h:=h) hs
 have fd:=@ds_fine s
 have bd:=@ds_bad s
 obtain⟨p,hp⟩:∃ p,dsR s = p:=⟨_,rfl⟩
 rw [hp] at e1 ok1 fd bd
 obtain⟨E1,x⟩:=p
 obtain⟨h2,hn2,v2,gg2,n2⟩:=box5 (h:=h1) [.int .u64 0,.string (strOf []),.string (strOf []),.string (strOf []),.slice none 0 0,.slice none 0 0,.string (strOf []),.bool false,.string (strOf []),.slice none 0 0,.bool false,.string (strOf []),.string (strOf [])]
 obtain⟨C,hC⟩:∃ C:List Value,C = zDp x mv tv pv:=⟨_,rfl⟩
 have hCl:C.length = 13:=by rw [hC];rfl
 have c0:C[0]? = some (.int .u64 (x.hd.n:Int)):=by rw [hC];rfl
 have c6:C[6]? = some (.string (strOf x.key)):=by rw [hC];rfl
 have hCo:C.all oneC = true:=by
  rw [hC]
  obtain⟨a,c,rfl,_⟩:=ok1.mem.shape
  obtain⟨a,c,rfl,_⟩:=ok1.tags.shape
  obtain⟨a,c,rfl,_⟩:=ok1.pf.shape
  rfl
 have s2:zn h2 13 (.pointer (some ⟨h1.next,0,none⟩)) (.agg C.toArray) = some (.tuple #[],h2.wr h1.next C):=v2.storeAll hCl rfl (by decide) hCo
 obtain⟨h3,hh3⟩:∃ h3,h2.wr h1.next C = h3:=⟨_,rfl⟩
 have v3:Var h3 h1.next C:=by rw [← hh3];exact v2.wr
 have g13:Grows h1 h3:=by rw [← hh3];exact gg2.wr (Nat.le_refl _)
 rw [hh3] at s2
 obtain⟨w4,h4,e4,mw,tw,ow,pw,rfl,ok4,gg4⟩:=DT_run T.d (h:=h3) hs
 have ft:=@dt_fine s
 have bt:=@dt_bad s
 obtain⟨q,hq⟩:∃ q,dtR s = q:=⟨_,rfl⟩
 rw [hq] at e4 ok4 ft bt
 obtain⟨E2,y⟩:=q
 obtain⟨h5,hn5,v5,gg5,n5⟩:=box5 (h:=h4) [.int .u64 0,.string (strOf []),.string (strOf []),.string (strOf []),.slice none 0 0,.slice none 0 0,.int .u64 0,.int .u64 0,.slice none 0 0,.int .i64 0,.int .i64 0,.slice none 0 0]
 obtain⟨D,hD⟩:∃ D:List Value,D = zEh y mw tw ow pw:=⟨_,rfl⟩
 have hDl:D.length = 12:=by rw [hD];rfl
 have d0:D[0]? = some (.int .u64 (y.hd.n:Int)):=by rw [hD];rfl
 have d10:D[10]? = some (.int .i64 (y.many:Int)):=by rw [hD];rfl
 have hDo:D.all oneC = true:=by
  rw [hD]
  obtain⟨a,c,rfl,_⟩:=ok4.mem.shape
  obtain⟨a,c,rfl,_⟩:=ok4.tags.shape
  obtain⟨a,c,rfl,_⟩:=ok4.ops.shape
  obtain⟨a,c,rfl,_⟩:=ok4.path.shape
  rfl
 have s5:zn h5 12 (.pointer (some ⟨h4.next,0,none⟩)) (.agg D.toArray) = some (.tuple #[],h5.wr h4.next D):=v5.storeAll hDl rfl (by decide) hDo
 obtain⟨h6,hh6⟩:∃ h6,h5.wr h4.next D = h6:=⟨_,rfl⟩
 have v6:Var h6 h4.next D:=by rw [← hh6];exact v5.wr
 have g46:Grows h4 h6:=by rw [← hh6];exact gg5.wr (Nat.le_refl _)
 rw [hh6] at s5
 have v36:Var h6 h1.next C:=v3.grow (gg4.trans g46)
 have ok16:=ok1.grow ((g13.trans gg4).trans g46)
 have ok46:=ok4.grow g46
 have ea:cfi pr 44 [] h6 = some (.bool true,h6):=zAD T.aw rfl
 have lx0:∀ sp,h6.load ⟨h1.next,0,sp⟩ = some (.int .u64 (x.hd.n:Int)):=fun sp=>by rw [v36.load];exact c0
 have lx6:∀ sp,h6.load ⟨h1.next,6,sp⟩ = some (.string (strOf x.key)):=fun sp=>by rw [v36.load];exact c6
 have ly0:∀ sp,h6.load ⟨h4.next,0,sp⟩ = some (.int .u64 (y.hd.n:Int)):=fun sp=>by rw [v6.load];exact d0
 have ly10:∀ sp,h6.load ⟨h4.next,10,sp⟩ = some (.int .i64 (y.many:Int)):=fun sp=>by rw [v6.load];exact d10
 have lX:∀ sp,h6.loadN ⟨h1.next,0,sp⟩ 13 = some C:=fun sp=>v36.loadAll hCl
 have G6:Grows h h6:=((gg1.trans g13).trans gg4).trans g46
 have eC:cfi pr 42 [.string (strOf s)] h = some (.tuple #[.agg C.toArray,.int .i64 (E1:Int)],h1):=by rw [hC];exact e1
 have eD:cfi pr 43 [.string (strOf s)] h3 = some (.tuple #[.agg D.toArray,.int .i64 (E2:Int)],h4):=by rw [hD];exact e4
 have hss:(s == s) = true:=by simp
 have hE1:((E1:Int) == 0) = decide (E1 = 0):=by
  by_cases q:E1 = 0
  ·subst q;rfl
  ·have:¬ ((E1:Int) = 0):=by omega
   rw [decide_eq_false q];exact beq_eq_false_iff_ne.mpr this
 have hE2:((E2:Int) == 0) = decide (E2 = 0):=by
  by_cases q:E2 = 0
  ·subst q;rfl
  ·have:¬ ((E2:Int) = 0):=by omega
   rw [decide_eq_false q];exact beq_eq_false_iff_ne.mpr this
 have lY:∀ (hh:Heap),Grows h6 hh→∀ sp,hh.loadN ⟨h4.next,0,sp⟩ 12 = some D:=fun hh g sp=>(v6.grow g).loadAll hDl
 clear hh3 hh6 hp hq v2 v3 v5 hCo hDo n2 n5
 by_cases q1:E1 = 0
 ·obtain⟨fe,fh,f3,f4,f5,f6⟩:=fd q1
  obtain⟨w7,h7,e7,rfl,g7⟩:=ES_run T.e ok16 fh f4 f5 f3 f6
  have e7':cfi pr 45 [.agg C.toArray] h6 = some (.tuple #[.string (strOf s),.int .i64 0],h7):=by
   rw [hC];rw [← fe];exact e7
  clear e7
  have g67:=g7
  by_cases q2:E2 = 0
  ·obtain⟨te,th,tt,t3,t4,t5,t6,t7,t8⟩:=ft q2
   obtain⟨w8,h8,e8,rfl,g8⟩:=ET_run T.e (ok46.grow g7) th tt t3 t4 t5 t6 t7 t8
   have e8':cfi pr 46 [.agg D.toArray] h7 = some (.tuple #[.string (strOf s),.int .i64 0],h8):=by
    rw [hD];rw [← te];exact e8
   clear e8
   have lY7:=lY h7 g7
   rw [q1] at eC hE1
   rw [q2] at eD hE2
   (repeat (first|refine zS ?_|refine zK ?_|refine zR ?_|refine zD ?_|refine zB ?_|refine zI ?_|refine zJ ?_|refine zP ?_|refine zE ?_|refine zG ?_|refine zF ?_|refine zH (by decide) ?_|refine zQ ?_|((first|refine zC ?_|refine zM ?_|refine zO rfl rfl ?_|refine zN rfl ?_|refine zL ?_);simp only [yq8.down,zA,lemS.down,lemC.down,zex,zew,zeu,reduceIte,zev,zey,zez,ze0,ze1,ze2,ze3,ze4,ze5,reduceCtorEq,lemH.down,hn2,eC,s2,hn5,eD,s5,ea,lx0,lx6,ly0,ly10,lX,e7',lY7,e8',hss,hE1,hE2,zi])))
   exact⟨.inr rfl,by simp only [yq8.down,zA,lemS.down,lemC.down,zex,zew,zeu,reduceIte,zev,zey,zez,ze0,ze1,ze2,ze3,ze4,ze5,reduceCtorEq],((G6.trans g67).trans g8)⟩
  ·rw [q1] at eC hE1
   have ym:y.many = 0:=by have:=bt q2;subst this;rfl
   rw [ym] at ly10
   have ly10:∀ sp,h6.load ⟨h4.next,10,sp⟩ = some (.int .i64 0):=ly10
   have yn:y.hd.n = 0:=by have:=bt q2;subst this;rfl
   rw [yn] at ly0
   have ly0:∀ sp,h6.load ⟨h4.next,0,sp⟩ = some (.int .u64 0):=ly0
   (repeat (first|refine zS ?_|refine zK ?_|refine zR ?_|refine zD ?_|refine zB ?_|refine zI ?_|refine zJ ?_|refine zP ?_|refine zE ?_|refine zG ?_|refine zF ?_|refine zH (by decide) ?_|refine zQ ?_|((first|refine zC ?_|refine zM ?_|refine zO rfl rfl ?_|refine zN rfl ?_|refine zL ?_);simp only [yq8.down,zA,lemS.down,lemC.down,zex,zew,zeu,reduceIte,zev,zey,zez,ze0,ze1,ze2,ze3,ze4,ze5,reduceCtorEq,lemH.down,hn2,eC,s2,hn5,eD,s5,ea,lx0,lx6,ly0,ly10,lX,e7',hss,hE1,hE2,q2,zi])))
   exact⟨.inr rfl,by simp only [yq8.down,zA,lemS.down,lemC.down,zex,zew,zeu,reduceIte,zev,zey,zez,ze0,ze1,ze2,ze3,ze4,ze5,reduceCtorEq],(G6.trans g67)⟩
 ·have xk:x.key = []:=by have:=bd q1;subst this;rfl
  rw [xk] at lx6
  have xn:x.hd.n = 0:=by have:=bd q1;subst this;rfl
  rw [xn] at lx0
  have lx0:∀ sp,h6.load ⟨h1.next,0,sp⟩ = some (.int .u64 0):=lx0
  have h00:(([]:List UInt8) == []) = true:=rfl
  by_cases q2:E2 = 0
  ·obtain⟨te,th,tt,t3,t4,t5,t6,t7,t8⟩:=ft q2
   obtain⟨w8,h8,e8,rfl,g8⟩:=ET_run T.e ok46 th tt t3 t4 t5 t6 t7 t8
   have e8':cfi pr 46 [.agg D.toArray] h6 = some (.tuple #[.string (strOf s),.int .i64 0],h8):=by
    rw [hD];rw [← te];exact e8
   clear e8
   have lY6:=lY h6 (Grows.refl _)
   rw [q2] at eD hE2
   (repeat (first|refine zS ?_|refine zK ?_|refine zR ?_|refine zD ?_|refine zB ?_|refine zI ?_|refine zJ ?_|refine zP ?_|refine zE ?_|refine zG ?_|refine zF ?_|refine zH (by decide) ?_|refine zQ ?_|((first|refine zC ?_|refine zM ?_|refine zO rfl rfl ?_|refine zN rfl ?_|refine zL ?_);simp only [yq8.down,zA,lemS.down,lemC.down,zex,zew,zeu,reduceIte,zev,zey,zez,ze0,ze1,ze2,ze3,ze4,ze5,reduceCtorEq,lemH.down,hn2,eC,s2,hn5,eD,s5,ea,lx0,lx6,ly0,ly10,lY6,e8',hss,hE1,hE2,q1,h00,zi])))
   exact⟨.inr rfl,by simp only [yq8.down,zA,lemS.down,lemC.down,zex,zew,zeu,reduceIte,zev,zey,zez,ze0,ze1,ze2,ze3,ze4,ze5,reduceCtorEq],(G6.trans g8)⟩
  ·have ym:y.many = 0:=by have:=bt q2;subst this;rfl
   rw [ym] at ly10
   have ly10:∀ sp,h6.load ⟨h4.next,10,sp⟩ = some (.int .i64 0):=ly10
   have yn:y.hd.n = 0:=by have:=bt q2;subst this;rfl
   rw [yn] at ly0
   have ly0:∀ sp,h6.load ⟨h4.next,0,sp⟩ = some (.int .u64 0):=ly0
   (repeat (first|refine zS ?_|refine zK ?_|refine zR ?_|refine zD ?_|refine zB ?_|refine zI ?_|refine zJ ?_|refine zP ?_|refine zE ?_|refine zG ?_|refine zF ?_|refine zH (by decide) ?_|refine zQ ?_|((first|refine zC ?_|refine zM ?_|refine zO rfl rfl ?_|refine zN rfl ?_|refine zL ?_);simp only [yq8.down,zA,lemS.down,lemC.down,zex,zew,zeu,reduceIte,zev,zey,zez,ze0,ze1,ze2,ze3,ze4,ze5,reduceCtorEq,lemH.down,hn2,eC,s2,hn5,eD,s5,ea,lx0,lx6,ly0,ly10,hss,hE1,hE2,q1,q2,h00,zi])))
   exact⟨.inr rfl,by simp only [yq8.down,zA,lemS.down,lemC.down,zex,zew,zeu,reduceIte,zev,zey,zez,ze0,ze1,ze2,ze3,ze4,ze5,reduceCtorEq],G6⟩
end Go.X
end
section
open Go Go.X Go.Proofs Go.RowKit
namespace Go.X
set_option linter.unusedVariables false
theorem Tab.closedT {P:Program} {l:List (Nat×Prim)} {Pg:Prog} (okP:XOK P Pg) (ok:XOK P (Tab P l)) {f n:Nat} {v:Value} {h2:Heap} (hv:zAN v = true) (hc:call Pg n f [] Heap.empty = some (v,h2)) {s:List Value→Option Value} (hs:∀ args w,s args = some w→args = []∧w = v):XOK P (Tab P ((f,zf s) :: l)):=by
 refine Tab.cons ok fun args h w h' hr=>?_
 unfold zf at hr
 split at hr
 ·rename_i v1 hv1
  cases hr
  obtain⟨rfl,rfl⟩:=hs args _ hv1
  exact⟨zKn okP hc,Nat.le_refl _,zKo okP hc rfl hv h⟩
 ·cases hr
def G1:List (Nat×Prim):=(136,zf zEg) :: Z2
def G2:List (Nat×Prim):=(56,zDf) :: G1
def G3:List (Nat×Prim):=(64,zEI) :: G2
def G4:List (Nat×Prim):=(44,zf trueS) :: G3
theorem gk1:XOK Tryz.prog (Tab Tryz.prog G1):=Tab.pure zk2 Tryz.func136 cq136 fun args v h=>⟨(zI5 h).1,(zI5 h).2.1,fun g=>(zI5 h).2.2 _ g⟩
theorem gk2:XOK Tryz.prog (Tab Tryz.prog G2):=Tab.read gk1 Tryz.func56 cq56 fun args h v h' hr=>by
 unfold zDf at hr
 split at hr
 ·split at hr
  ·split at hr
   ·rename_i hs hl;cases hr;exact⟨rfl,rfl,rfl,fun n wf=>zb4 _ (h.at n) _ _ hs hl⟩
   ·cases hr
  ·cases hr
 ·cases hr
theorem gk3:XOK Tryz.prog (Tab Tryz.prog G3):=Tab.read gk2 Tryz.func64 cq64 fun args h v h' hr=>by
 unfold zEI at hr
 split at hr
 ·split at hr
  ·rename_i hx
   cases hr
   obtain⟨e,hd⟩:=agg_hd hx
   rw [e]
   exact⟨rfl,rfl,rfl,fun n wf=>zbj _ rfl (h.at n) wf _ _ hd⟩
  ·cases hr
 ·cases hr
set_option maxRecDepth 100000 in
theorem kz2_ok:K.KPOk KZ2.P KZ2.l:=kl_ok
theorem kis_gen {k:K.KP} (hK:K.KPOk k.P k.l) {n f:Nat} {args:List Value} {h:Heap} {v:Value} {p:Prop} (hp:p = K.kis k n f args h v) (e:p = True):∃ h',call k.P n f args h = some (v,h'):=K.kis_ok hK (by rw [← hp,e];trivial)
theorem kaw:∃ h',call KZ2.P 600 44 [] Heap.empty = some (.bool true,h'):=by
 have:=run19
 generalize hp:K.kis KZ2 600 44 [] Heap.empty (.bool true) = p at this
 exact @kis_gen KZ2 kz2_ok 600 44 [] Heap.empty (.bool true) p hp.symm this
theorem gk4:XOK Tryz.prog (Tab Tryz.prog G4):=by
 obtain⟨h',e⟩:=kaw
 refine Tab.closedT (Pg:=KZ2.P) (K.TabT.ok zk2) gk3 (v:=.bool true) rfl e fun args w hw=>?_
 unfold trueS at hw
 split at hw
 ·cases hw;exact⟨rfl,rfl⟩
 ·cases hw
theorem zB7:zAL (Tab Tryz.prog G4):=⟨rfl,rfl,zr Tryz.func75 cq75,rfl,zr Tryz.func147 cq147,rfl,zr Tryz.func78 cq78,rfl,zr Tryz.func121 cq121,rfl,zr Tryz.func76 cq76,rfl,zr Tryz.func79 cq79,rfl,zr Tryz.func81 cq81,rfl,zr Tryz.func86 cq86,rfl,zr Tryz.func89 cq89,rfl,zr Tryz.func150 cq150,rfl,zr Tryz.func108 cq108,rfl,zr Tryz.func87 cq87,rfl,zr Tryz.func90 cq90,rfl,zr Tryz.func91 cq91,rfl,zr Tryz.func151 cq151,rfl,zr Tryz.func152 cq152,rfl,zr Tryz.func109 cq109,rfl,zr Tryz.func149 cq149⟩
theorem boolG:zDN (Tab Tryz.prog G4):=⟨zB7,rfl,zr Tryz.func105 cq105,rfl,zr Tryz.func117 cq117⟩
theorem headG:zGu (Tab Tryz.prog G4):=⟨zB7,rfl,rfl,rfl,zr Tryz.func77 cq77,rfl,zr Tryz.func115 cq115⟩
theorem hdG:HdTab (Tab Tryz.prog G4):=⟨⟨zB7,rfl,rfl,zr Tryz.func88 cq88⟩,rfl,rfl,zr Tryz.func103 cq103⟩
theorem takeG:zG0 (Tab Tryz.prog G4):=⟨zB7,rfl,zr Tryz.func104 cq104⟩
theorem putG:zGw (Tab Tryz.prog G4):=⟨zB7,rfl,zr Tryz.func116 cq116⟩
theorem pfG:PFTab (Tab Tryz.prog G4):=⟨zB7,boolG,rfl,zr Tryz.func106 cq106⟩
theorem ppG:PPTab (Tab Tryz.prog G4):=⟨zB7,boolG,rfl,zr Tryz.func118 cq118⟩
theorem txG:zDS (Tab Tryz.prog G4):=⟨rfl,zr Tryz.func172 cq172,rfl,zr Tryz.func171 cq171,rfl,zr Tryz.func213 cq213,rfl,zr Tryz.func170 cq170,rfl,zr Tryz.func119 cq119⟩
theorem ttG:TTab (Tab Tryz.prog G4):=⟨zB7,txG,rfl,zr Tryz.func107 cq107⟩
theorem tpG:TPTab (Tab Tryz.prog G4):=⟨zB7,rfl,zr Tryz.func120 cq120⟩
theorem dG:DTab (Tab Tryz.prog G4):=⟨zB7,hdG,takeG,boolG,pfG,ttG,rfl,zr Tryz.func42 cq42,rfl,zr Tryz.func43 cq43⟩
theorem eG:ETab (Tab Tryz.prog G4):=⟨zB7,boolG,headG,putG,ppG,tpG,txG,rfl,zr Tryz.func45 cq45,rfl,zr Tryz.func46 cq46⟩
theorem lawG:Law19 (Tab Tryz.prog G4):=⟨dG,eG,rfl⟩
theorem walkProofReads (s:ByteArray) (hs:s.size≤maxLen) (w:World):Calls Tryz.prog 8 #[.string s] w fun e w'=>e = .returned (.bool true)∧Below w.heap.size w w':=by
 have hl:s.data.toList.length≤9223372036854775807:=by
  have:s.data.toList.length = s.size:=rfl
  unfold maxLen at hs
  omega
 have:=reads_ok _ lawG s.data.toList hl Heap.empty
 rw [zEc] at this
 exact zat gk4 rfl (zr Tryz.func8 cq8) rfl rfl rfl this w
end Go.X
end
