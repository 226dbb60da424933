/- The digest in plain words; the functions of the seat as the interpreter has them, each held against the loaded program. -/
import Derived.Test.YtnppabpbdobaiaaGreatProg
import Derived.KernelRfl
import Derived.Test.YtnppabpbdobaiaaGreatXC
set_option linter.unusedSimpArgs false
set_option linter.unusedVariables false
set_option maxHeartbeats 2000000
open Nat renaming reduceLeDiff → zdL, reduceEqDiff → zdM, reduceAdd → zdN
open Int renaming reduceBEq → zdO, reduceLT → zdP, reduceLE → zdQ, reduceGT → zdR, reduceGE → zdS, reduceEq → zdT, reduceAdd → zdU, reduceSub → zdV, reduceMul → zdW
section
namespace Go.X.Sha
def rotr (x n:Nat):Nat:=Nat.lor ((x % 4294967296) >>> n) ((x <<< (32 - n)) % 4294967296)
def s0 (x:Nat):Nat:=Nat.xor (Nat.xor (rotr x 7) (rotr x 18)) ((x % 4294967296) >>> 3)
def s1 (x:Nat):Nat:=Nat.xor (Nat.xor (rotr x 17) (rotr x 19)) ((x % 4294967296) >>> 10)
def e0 (x:Nat):Nat:=Nat.xor (Nat.xor (rotr x 2) (rotr x 13)) (rotr x 22)
def e1 (x:Nat):Nat:=Nat.xor (Nat.xor (rotr x 6) (rotr x 11)) (rotr x 25)
def ch (e f g:Nat):Nat:=Nat.xor (Nat.land e f) (Nat.land (4294967295 - e % 4294967296) g)
def maj (a b c:Nat):Nat:=Nat.xor (Nat.xor (Nat.land a b) (Nat.land a c)) (Nat.land b c)
def K:List Nat:=[
0x428a2f98,0x71374491,0xb5c0fbcf,0xe9b5dba5,0x3956c25b,0x59f111f1,0x923f82a4,0xab1c5ed5,
 0xd807aa98,0x12835b01,0x243185be,0x550c7dc3,0x72be5d74,0x80deb1fe,0x9bdc06a7,0xc19bf174,
 0xe49b69c1,0xefbe4786,0x0fc19dc6,0x240ca1cc,0x2de92c6f,0x4a7484aa,0x5cb0a9dc,0x76f988da,
 0x983e5152,0xa831c66d,0xb00327c8,0xbf597fc7,0xc6e00bf3,0xd5a79147,0x06ca6351,0x14292967,
 0x27b70a85,0x2e1b2138,0x4d2c6dfc,0x53380d13,0x650a7354,0x766a0abb,0x81c2c92e,0x92722c85,
 0xa2bfe8a1,0xa81a664b,0xc24b8b70,0xc76c51a3,0xd192e819,0xd6990624,0xf40e3585,0x106aa070,
 0x19a4c116,0x1e376c08,0x2748774c,0x34b0bcb5,0x391c0cb3,0x4ed8aa4a,0x5b9cca4f,0x682e6ff3,
 0x748f82ee,0x78a5636f,0x84c87814,0x8cc70208,0x90befffa,0xa4506ceb,0xbef9a3f7,0xc67178f2]
def H0:List Nat:=[0x6a09e667,0xbb67ae85,0x3c6ef372,0xa54ff53a,0x510e527f,0x9b05688c,0x1f83d9ab,0x5be0cd19]
def round (k w:Nat):List Nat→List Nat
 | [a,b,c,d,e,f,g,h] =>
  let t:=(h+e1 e+ch e f g+k+w) % 4294967296
  [(t+e0 a+maj a b c) % 4294967296,a,b,c,(d+t) % 4294967296,e,f,g]
 | l=>l
def sched:Nat→List Nat→List Nat
 | 0,_=>[]
 | n+1,w=>(w.getD 0 0)::sched n (w.drop 1++[(w.getD 0 0+s0 (w.getD 1 0)+w.getD 9 0+s1 (w.getD 14 0)) % 4294967296])
def rounds:List Nat→List Nat→List Nat→List Nat
 | k::ks,w::ws,v=>rounds ks ws (round k w v)
 | _,_,v=>v
def addAll:List Nat→List Nat→List Nat
 | a::u,b::bs=>((a+b) % 4294967296)::addAll u bs
 | _,_=>[]
def block (h w:List Nat):List Nat:=addAll h (rounds K (sched 64 w) h)
def words:List Nat→List Nat
 | a::b::c::d::r=>(((a*256+b)*256+c)*256+d)::words r
 | _=>[]
def zFb:Nat→List Nat→List Nat→List Nat
 | 0,h,_=>h
 | n+1,h,w=>zFb n (block h (w.take 16)) (w.drop 16)
def zF4 (n:Nat):List Nat:=[n / 72057594037927936 % 256,n / 281474976710656 % 256,n / 1099511627776 % 256,n / 4294967296 % 256,n / 16777216 % 256,n / 65536 % 256,n / 256 % 256,n % 256]
def pad (b:List Nat):List Nat:=b++128::List.replicate ((119 - b.length % 64) % 64) 0++zF4 (b.length*8 % 18446744073709551616)
def zGi:List Nat→List Nat
 | []=>[]
 | x::r=>(x / 16777216 % 256)::(x / 65536 % 256)::(x / 256 % 256)::(x % 256)::zGi r
def shaN (b:List Nat):List Nat:=zGi (zFb ((pad b).length / 64) H0 (words (pad b)))
def sha (b:List UInt8):List UInt8:=(shaN (b.map (·.toNat))).map UInt8.ofNat
end Go.X.Sha
end
section
namespace Go.X.Sha
def nxt (l:List Nat):Nat:=(l.getD (l.length - 16) 0+s0 (l.getD (l.length - 15) 0)+l.getD (l.length - 7) 0+s1 (l.getD (l.length - 2) 0)) % 4294967296
def ext:List Nat→Nat→List Nat
 | l,0=>l
 | l,n+1=>ext (l++[nxt l]) n
theorem ext_succ:∀ (n:Nat) (l:List Nat),ext l (n+1)=ext l n++[nxt (ext l n)]
 | 0,l=>rfl
 | n+1,l=>by
  show ext (l++[nxt l]) (n+1)=ext (l++[nxt l]) n++[nxt (ext (l++[nxt l]) n)]
  exact ext_succ n _
theorem ext_len:∀ (n:Nat) (l:List Nat),(ext l n).length=l.length+n
 | 0,l=>rfl
 | n+1,l=>by rw[ext_succ,List.length_append,ext_len n l];rfl
theorem nxt_cons (a:Nat) (l:List Nat) (h:16≤l.length):nxt (a::l)=nxt l:=by
 have e:∀j,j≤16→1≤j→(a::l).getD ((a::l).length - j) 0=l.getD (l.length - j) 0:=fun j h1 h2=>by
  rw[show (a::l).length - j=(l.length - j)+1 by simp;omega];rfl
 unfold nxt
 rw[e 16 (by omega) (by omega),e 15 (by omega) (by omega),e 7 (by omega) (by omega),e 2 (by omega) (by omega)]
theorem zKr:∀ (n a:Nat) (l:List Nat),16≤l.length→ext (a::l) n=a::ext l n
 | 0,a,l,h=>rfl
 | n+1,a,l,h=>by
  show ext (a::l++[nxt (a::l)]) n=a::ext (l++[nxt l]) n
  rw[nxt_cons a l h,List.cons_append]
  exact zKr n a _ (by simp;omega)
theorem nxt_win (w:List Nat) (h:w.length=16):nxt w=(w.getD 0 0+s0 (w.getD 1 0)+w.getD 9 0+s1 (w.getD 14 0)) % 4294967296:=by
 unfold nxt;rw[h]
theorem zbx:∀ (n:Nat) (w:List Nat),w.length=16→n≤16→sched n w=w.take n:=by
 have key:∀ (n:Nat) (w:List Nat) (x:List Nat),w.length+x.length=16→n≤w.length→sched n (w++x)=w.take n:=by
  intro n
  induction n with
  | zero=>intro w x _ _;rfl
  | succ n ih =>
   intro w x h hn
   cases w with
   | nil=>simp at hn
   | cons a w =>
    simp only[sched,List.cons_append,List.drop_succ_cons,List.drop_zero,List.take_succ_cons]
    rw[List.append_assoc,ih w _ (by simp at h ⊢;omega) (by simp at hn;omega)]
    rfl
 intro n w h hn
 have:=key n w [] (by simpa using h) (by omega)
 simpa using this
theorem sched_ext:∀ (m:Nat) (w:List Nat),w.length=16→sched (16+m) w=ext w m
 | 0,w,h=>by rw[zbx 16 w h (Nat.le_refl _)];simp[ext,←h]
 | m+1,w,h=>by
  cases w with
  | nil=>simp at h
  | cons a w =>
   show sched ((16+m)+1) (a::w)=ext (a::w++[nxt (a::w)]) m
   rw[List.cons_append,zKr m a _ (by simp at h ⊢;omega),nxt_win _ h]
   simp only[sched]
   rw[sched_ext m _ (by simp at h ⊢;omega)]
   rfl
end Go.X.Sha
end
section
namespace Go.X
def zEY (b:Nat→Nat) (i:Nat):Nat:=((b (4*i)*256+b (4*i+1))*256+b (4*i+2))*256+b (4*i+3)
def zBo (b:Nat→Nat):List Nat:=(List.range 16).map (zEY b)
theorem zDG (b:Nat→Nat):(zBo b).length=16:=by simp[zBo]
def winB (l:List UInt8):List Nat:=zBo fun j=>(l.getD j 0).toNat
theorem zI1 {l:List UInt8} {n:Nat} (hn:64≤n):winB (l.take n)=winB l:=by
 unfold winB zBo
 refine List.map_congr_left fun i hi=>?_
 have hi':i<16:=List.mem_range.1 hi
 have e:∀j,j<64→(l.take n).getD j 0=l.getD j 0:=fun j hj=>by
  simp only[List.getD_eq_getElem?_getD]
  rw[List.getElem?_take,if_pos (by omega)]
 unfold zEY
 dsimp only
 rw[e _ (by omega),e _ (by omega),e _ (by omega),e _ (by omega)]
def absorb:Nat→List Nat→List UInt8→List Nat
 | 0,h,_=>h
 | n+1,h,b=>absorb n (Sha.block h (winB b)) (b.drop 64)
theorem zG2:∀ (i:Nat) (h:List Nat) (b:List UInt8),absorb (i+1) h b=Sha.block (absorb i h b) (winB (b.drop (64*i)))
 | 0,h,b=>by simp[absorb]
 | i+1,h,b=>by
  rw[absorb,zG2 i]
  simp only[absorb,List.drop_drop]
  rw[show 64+64*i=64*(i+1) by omega]
theorem zG1:∀ (i j:Nat) (h:List Nat) (b:List UInt8),absorb (i+j) h b=absorb j (absorb i h b) (b.drop (64*i))
 | 0,j,h,b=>by simp[absorb]
 | i+1,j,h,b=>by
  rw[show i+1+j=(i+j)+1 by omega]
  simp only[absorb]
  rw[zG1 i j,List.drop_drop,show 64+64*i=64*(i+1) by omega]
theorem zcN {a b:List UInt8} (h:64≤a.length):winB (a++b)=winB a:=by
 rw[←zI1 (l:=a++b) h]
 simp
theorem zFT:∀ (i:Nat) (h:List Nat) (a b:List UInt8),64*i≤a.length→absorb i h (a++b)=absorb i h a
 | 0,h,a,b,_=>rfl
 | i+1,h,a,b,hl=>by
  simp only[absorb]
  rw[zcN (by omega),List.drop_append_of_le_length (by omega)]
  exact zFT i _ _ b (by simp;omega)
theorem zEe:∀ (a b:List Nat),a.length=b.length→(Sha.addAll a b).length=a.length
 | [],[],_=>rfl
 | x::a,y::b,h=>by simp[Sha.addAll,zEe a b (by simpa using h)]
 | [],_::_,h=>by simp at h
 | _::_,[],h=>by simp at h
def lenB (n:Nat):List UInt8:=(List.range 8).map fun i=>UInt8.ofNat ((n % 18446744073709551616) >>> (8*(7 - i)))
theorem zEz (n:Nat):(lenB n).length=8:=by simp[lenB]
def zA8 (n:Nat):Nat:=(119 - n % 64) % 64
def padB (r:List UInt8) (n:Nat):List UInt8:=r++[128]++List.replicate (zA8 r.length) 0++lenB (n*8)
theorem zLl (r:List UInt8) (n:Nat):(padB r n).length=64*((padB r n).length / 64):=by
 have:(padB r n).length=r.length+1+zA8 r.length+8:=by simp[padB,zEz];omega
 rw[this]
 unfold zA8
 omega
def outW (x:Nat):List UInt8:=(List.range 4).map fun k=>UInt8.ofNat ((x % 4294967296) >>> (8*(3 - k)))
def outB (hs:List Nat):List UInt8:=hs.flatMap outW
def fin (hs:List Nat) (r:List UInt8) (n:Nat):List UInt8:=outB (absorb ((padB r n).length / 64) hs (padB r n))
def sha (s:List UInt8):List UInt8:=fin Sha.H0 s s.length
theorem zdK (a b:Nat) (h:a=b % 64):zA8 a=zA8 b:=by unfold zA8;omega
theorem zMO (s:List UInt8):fin (absorb (s.length / 64) Sha.H0 s) (s.drop (64*(s.length / 64))) s.length=sha s:=by
 unfold sha fin
 have hl:(s.drop (64*(s.length / 64))).length=s.length % 64:=by rw[List.length_drop];omega
 have hp:padB s s.length=s.take (64*(s.length / 64))++padB (s.drop (64*(s.length / 64))) s.length:=by
  unfold padB
  rw[zdK _ s.length hl]
  simp only[←List.append_assoc]
  rw[List.take_append_drop]
 have hq:=zLl (s.drop (64*(s.length / 64))) s.length
 generalize padB (s.drop (64*(s.length / 64))) s.length=p at *
 generalize padB s s.length=q at *
 subst hp
 have htl:(s.take (64*(s.length / 64))).length=64*(s.length / 64):=by rw[List.length_take];omega
 have hn:(s.take (64*(s.length / 64))++p).length / 64=s.length / 64+p.length / 64:=by
  rw[List.length_append,htl];omega
 rw[hn,zG1]
 congr 1
 rw[zFT _ _ _ _ (by omega),List.drop_append,htl,List.drop_of_length_le (by omega)]
 simp only[Nat.sub_self,List.drop_zero,List.nil_append]
 congr 1
 have:=zFT (s.length / 64) Sha.H0 (s.take (64*(s.length / 64))) (s.drop (64*(s.length / 64))) (by rw[htl];exact Nat.le_refl _)
 rw[List.take_append_drop] at this
 exact this
theorem zIM:∀ (hs:List Nat),(outB hs).length=4*hs.length
 | []=>rfl
 | x::hs=>by
  have:=zIM hs
  simp only[outB,List.flatMap_cons,List.length_append,List.length_cons] at *
  rw[this]
  simp[outW];omega
end Go.X
end
section
namespace Go.X
open Go.Proofs
abbrev zWE:List XO:=[
 ⟨some 4,.p (.mov (C (.int .u32 0))),none⟩]
def zWD:List XO:=zWE
theorem xq247_0e:E3 zWD zWE:=E3.rfl
abbrev zWG:List XO:=[
 ⟨some 5,.p (.mov (T 0)),none⟩,
 ⟨some 6,.p (.mov (T 1)),none⟩,
 ⟨some 7,.p (.un .neg (T 6)),none⟩,
 ⟨some 8,.call (.func 268) [(T 5),(T 7)],none⟩,
 ⟨some 4,.p (.mov (T 8)),none⟩]
def zWF:List XO:=zWG
theorem xq247_1e:E3 zWF zWG:=E3.rfl
def xq247:XF:=⟨2,[.tmp 4],
 .seq (.ops zWD) (.seq (.ops zWF) (.ret))⟩
def yq247:=PLift.up (And.intro (@xq247_0e) (@xq247_1e))
theorem cq247:zX Tryz.prog Tryz.f247=some xq247:=by kernel_rfl
abbrev zWI:List XO:=[
 ⟨some 4,.p (.mov (C (.int .u32 0))),none⟩]
def zWH:List XO:=zWI
theorem xq268_0e:E3 zWH zWI:=E3.rfl
abbrev zWK:List XO:=[
 ⟨some 6,.p (.mov (T 1)),none⟩,
 ⟨some 7,.p (.cint .u64 (T 6)),none⟩,
 ⟨some 8,.p (.bin .and (T 7) (C (.int .u64 31))),none⟩,
 ⟨some 5,.p (.mov (T 8)),none⟩]
def zWJ:List XO:=zWK
theorem xq268_1e:E3 zWJ zWK:=E3.rfl
abbrev zWM:List XO:=[
 ⟨some 9,.p (.mov (T 0)),none⟩,
 ⟨some 10,.p (.mov (T 5)),none⟩,
 ⟨some 11,.p (.bin .shl (T 9) (T 10)),none⟩,
 ⟨some 12,.p (.mov (T 0)),none⟩,
 ⟨some 13,.p (.mov (T 5)),none⟩,
 ⟨some 14,.p (.bin .sub (C (.int .u64 32)) (T 13)),none⟩,
 ⟨some 15,.p (.bin .shr (T 12) (T 14)),none⟩,
 ⟨some 16,.p (.bin .or (T 11) (T 15)),none⟩,
 ⟨some 4,.p (.mov (T 16)),none⟩]
def zWL:List XO:=zWM
theorem xq268_2e:E3 zWL zWM:=E3.rfl
def xq268:XF:=⟨2,[.tmp 4],
 .seq (.ops zWH) (.seq (.ops zWJ) (.seq (.ops zWL) (.ret)))⟩
def yq268:=PLift.up (And.intro (@xq268_0e) (And.intro (@xq268_1e) (@xq268_2e)))
theorem cq268:zX Tryz.prog Tryz.f268=some xq268:=by kernel_rfl
abbrev zVW:List XO:=[
 ⟨some 0,.a (.alloc (List.replicate 64 (.int .u32 0))),none⟩]
def zVV:List XO:=zVW
theorem xq245_0e:E3 zVV zVW:=E3.rfl
abbrev zVY:List XO:=[
 ⟨some 1,.p (.build (List.replicate 64 (.int .u32 0)) [(0,1,(C (.int .u32 1116352408))),(1,1,(C (.int .u32 1899447441))),(2,1,(C (.int .u32 3049323471))),(3,1,(C (.int .u32 3921009573))),(4,1,(C (.int .u32 961987163))),(5,1,(C (.int .u32 1508970993))),(6,1,(C (.int .u32 2453635748))),(7,1,(C (.int .u32 2870763221))),(8,1,(C (.int .u32 3624381080))),(9,1,(C (.int .u32 310598401))),(10,1,(C (.int .u32 607225278))),(11,1,(C (.int .u32 1426881987))),(12,1,(C (.int .u32 1925078388))),(13,1,(C (.int .u32 2162078206))),(14,1,(C (.int .u32 2614888103))),(15,1,(C (.int .u32 3248222580))),(16,1,(C (.int .u32 3835390401))),(17,1,(C (.int .u32 4022224774))),(18,1,(C (.int .u32 264347078))),(19,1,(C (.int .u32 604807628))),(20,1,(C (.int .u32 770255983))),(21,1,(C (.int .u32 1249150122))),(22,1,(C (.int .u32 1555081692))),(23,1,(C (.int .u32 1996064986))),(24,1,(C (.int .u32 2554220882))),(25,1,(C (.int .u32 2821834349))),(26,1,(C (.int .u32 2952996808))),(27,1,(C (.int .u32 3210313671))),(28,1,(C (.int .u32 3336571891))),(29,1,(C (.int .u32 3584528711))),(30,1,(C (.int .u32 113926993))),(31,1,(C (.int .u32 338241895))),(32,1,(C (.int .u32 666307205))),(33,1,(C (.int .u32 773529912))),(34,1,(C (.int .u32 1294757372))),(35,1,(C (.int .u32 1396182291))),(36,1,(C (.int .u32 1695183700))),(37,1,(C (.int .u32 1986661051))),(38,1,(C (.int .u32 2177026350))),(39,1,(C (.int .u32 2456956037))),(40,1,(C (.int .u32 2730485921))),(41,1,(C (.int .u32 2820302411))),(42,1,(C (.int .u32 3259730800))),(43,1,(C (.int .u32 3345764771))),(44,1,(C (.int .u32 3516065817))),(45,1,(C (.int .u32 3600352804))),(46,1,(C (.int .u32 4094571909))),(47,1,(C (.int .u32 275423344))),(48,1,(C (.int .u32 430227734))),(49,1,(C (.int .u32 506948616))),(50,1,(C (.int .u32 659060556))),(51,1,(C (.int .u32 883997877))),(52,1,(C (.int .u32 958139571))),(53,1,(C (.int .u32 1322822218))),(54,1,(C (.int .u32 1537002063))),(55,1,(C (.int .u32 1747873779))),(56,1,(C (.int .u32 1955562222))),(57,1,(C (.int .u32 2024104815))),(58,1,(C (.int .u32 2227730452))),(59,1,(C (.int .u32 2361852424))),(60,1,(C (.int .u32 2428436474))),(61,1,(C (.int .u32 2756734187))),(62,1,(C (.int .u32 3204031479))),(63,1,(C (.int .u32 3329325298)))]),none⟩,
 ⟨none,.e (.store 64 (T 0) (T 1)),none⟩]
def zVX:List XO:=zVY
theorem xq245_1e:E3 zVX zVY:=E3.rfl
def xq245:XF:=⟨0,[.cellN 0 64],
 .seq (.ops zVV) (.seq (.ops zVX) (.ret))⟩
def yq245:=PLift.up (And.intro (@xq245_0e) (@xq245_1e))
theorem cq245:zX Tryz.prog Tryz.f245=some xq245:=by kernel_rfl
abbrev zUd:List XO:=[
 ⟨some 0,.a (.alloc (List.replicate 8 (.int .u32 0))),none⟩]
def zUc:List XO:=zUd
theorem xq221_0e:E3 zUc zUd:=E3.rfl
abbrev zUf:List XO:=[
 ⟨some 1,.p (.build (List.replicate 8 (.int .u32 0)) [(0,1,(C (.int .u32 1779033703))),(1,1,(C (.int .u32 3144134277))),(2,1,(C (.int .u32 1013904242))),(3,1,(C (.int .u32 2773480762))),(4,1,(C (.int .u32 1359893119))),(5,1,(C (.int .u32 2600822924))),(6,1,(C (.int .u32 528734635))),(7,1,(C (.int .u32 1541459225)))]),none⟩,
 ⟨none,.e (.store 8 (T 0) (T 1)),none⟩]
def zUe:List XO:=zUf
theorem xq221_1e:E3 zUe zUf:=E3.rfl
def xq221:XF:=⟨0,[.cellN 0 8],
 .seq (.ops zUc) (.seq (.ops zUe) (.ret))⟩
def yq221:=PLift.up (And.intro (@xq221_0e) (@xq221_1e))
theorem cq221:zX Tryz.prog Tryz.f221=some xq221:=by kernel_rfl
abbrev zVa:List XO:=[
 ⟨some 2,.a (.alloc (List.replicate 64 (.int .u32 0))),none⟩]
def zVZ:List XO:=zVa
theorem xq246_0e:E3 zVZ zVa:=E3.rfl
abbrev zVt:List XO:=[
 ⟨some 3,.a (.alloc (List.replicate 64 (.int .u32 0))),none⟩]
def zVb:List XO:=zVt
theorem xq246_1e:E3 zVb zVt:=E3.rfl
abbrev zVy:List XO:=[
 ⟨some 11,.p (.mov (C (.int .i64 0))),none⟩]
def zVu:List XO:=zVy
theorem xq246_2e:E3 zVu zVy:=E3.rfl
abbrev zV0:List XO:=[
 ⟨some 12,.p (.bin .lss (T 11) (C (.int .i64 16))),none⟩]
def zVz:List XO:=zV0
theorem xq246_3e:E3 zVz zV0:=E3.rfl
abbrev zV2:List XO:=[
 ⟨some 13,.p (.mov (T 11)),none⟩,
 ⟨some 4,.p (.mov (T 13)),none⟩]
def zV1:List XO:=zV2
theorem xq246_4e:E3 zV1 zV2:=E3.rfl
abbrev zV4:List XO:=[
 ⟨some 14,.p (.mov (C (.int .i64 0))),none⟩]
def zV3:List XO:=zV4
theorem xq246_5e:E3 zV3 zV4:=E3.rfl
abbrev zV6:List XO:=[
 ⟨some 15,.p (.bin .lss (T 14) (C (.int .i64 4))),none⟩]
def zV5:List XO:=zV6
theorem xq246_6e:E3 zV5 zV6:=E3.rfl
abbrev zV8:List XO:=[
 ⟨some 16,.p (.mov (T 14)),none⟩,
 ⟨some 5,.p (.mov (T 16)),none⟩]
def zV7:List XO:=zV8
theorem xq246_7e:E3 zV7 zV8:=E3.rfl
abbrev zWA:List XO:=[
 ⟨some 17,.p (.mov (T 4)),none⟩,
 ⟨some 18,.p (.mov (T 4)),none⟩,
 ⟨some 19,.p (.iaddrA 64 1 (T 3) (T 18)),none⟩,
 ⟨some 20,.r (.load1 (T 19)),none⟩,
 ⟨some 21,.p (.bin .shl (T 20) (C (.int .u64 8))),none⟩,
 ⟨some 22,.p (.mov (T 0)),none⟩,
 ⟨some 23,.p (.mov (T 4)),none⟩,
 ⟨some 24,.p (.bin .mul (C (.int .i64 4)) (T 23)),none⟩,
 ⟨some 25,.p (.mov (T 5)),none⟩,
 ⟨some 26,.p (.bin .add (T 24) (T 25)),none⟩,
 ⟨some 27,.p (.iaddrS 1 (T 22) (T 26)),none⟩,
 ⟨some 28,.r (.load1 (T 27)),none⟩,
 ⟨some 29,.p (.cint .u32 (T 28)),none⟩,
 ⟨some 30,.p (.bin .or (T 21) (T 29)),none⟩,
 ⟨some 31,.p (.iaddrA 64 1 (T 3) (T 17)),none⟩,
 ⟨none,.e (.store 1 (T 31) (T 30)),none⟩]
def zV9:List XO:=zWA
theorem xq246_8e:E3 zV9 zWA:=E3.rfl
abbrev zWC:List XO:=[
 ⟨some 32,.p (.bin .add (T 14) (C (.int .i64 1))),none⟩,
 ⟨some 14,.p (.mov (T 32)),none⟩]
def zWB:List XO:=zWC
theorem xq246_9e:E3 zWB zWC:=E3.rfl
def zJe:XC :=
 .seq (.ops zV5) (.seq (.cond (T 15) (.skip) (.exit 2)) (.seq (.block 3 (.seq (.ops zV7) (.draw zV9 []))) (.ops zWB)))
def zJd:XC:=zJe
theorem zc7 {pr:Prog} {k:List KI} {Q:XE→Fr→Heap→Prop} {t:Fr} {h:Heap} (hw:wpk pr zJe k Q t h):wpk pr zJd k Q t h:=hw
abbrev zVd:List XO:=[
 ⟨some 33,.p (.bin .add (T 11) (C (.int .i64 1))),none⟩,
 ⟨some 11,.p (.mov (T 33)),none⟩]
def zVc:List XO:=zVd
theorem zc8:E3 zVc zVd:=E3.rfl
def zGp:XC :=
 .seq (.ops zVz) (.seq (.cond (T 12) (.skip) (.exit 0)) (.seq (.block 1 (.seq (.ops zV1) (.seq (.ops zV3) (.block 2 (.loop zJd))))) (.ops zVc)))
def zJf:XC:=zGp
theorem zVe {pr:Prog} {k:List KI} {Q:XE→Fr→Heap→Prop} {t:Fr} {h:Heap} (hw:wpk pr zGp k Q t h):wpk pr zJf k Q t h:=hw
abbrev zVg:List XO:=[
 ⟨some 6,.p (.mov (C (.int .i64 16))),none⟩]
def zVf:List XO:=zVg
theorem zc9:E3 zVf zVg:=E3.rfl
abbrev zVi:List XO:=[
 ⟨some 34,.p (.mov (T 6)),none⟩,
 ⟨some 35,.p (.bin .lss (T 34) (C (.int .i64 64))),none⟩]
def zVh:List XO:=zVi
theorem zdA:E3 zVh zVi:=E3.rfl
abbrev zVk:List XO:=[
 ⟨some 38,.p (.mov (T 6)),none⟩,
 ⟨some 39,.p (.bin .sub (T 38) (C (.int .i64 15))),none⟩,
 ⟨some 40,.p (.iaddrA 64 1 (T 3) (T 39)),none⟩,
 ⟨some 41,.r (.load1 (T 40)),none⟩,
 ⟨some 42,.p (.mov (T 6)),none⟩,
 ⟨some 43,.p (.bin .sub (T 42) (C (.int .i64 2))),none⟩,
 ⟨some 44,.p (.iaddrA 64 1 (T 3) (T 43)),none⟩,
 ⟨some 45,.r (.load1 (T 44)),none⟩,
 ⟨some 7,.p (.mov (T 41)),none⟩,
 ⟨some 8,.p (.mov (T 45)),none⟩]
def zVj:List XO:=zVk
theorem zdB:E3 zVj zVk:=E3.rfl
abbrev zVm:List XO:=[
 ⟨some 46,.p (.mov (T 7)),none⟩,
 ⟨some 47,.call (.func 247) [(T 46),(C (.int .i64 7))],none⟩,
 ⟨some 48,.p (.mov (T 7)),none⟩,
 ⟨some 49,.call (.func 247) [(T 48),(C (.int .i64 18))],none⟩,
 ⟨some 50,.p (.bin .xor (T 47) (T 49)),none⟩,
 ⟨some 51,.p (.mov (T 7)),none⟩,
 ⟨some 52,.p (.bin .shr (T 51) (C (.int .u64 3))),none⟩,
 ⟨some 53,.p (.bin .xor (T 50) (T 52)),none⟩,
 ⟨some 9,.p (.mov (T 53)),none⟩]
def zVl:List XO:=zVm
theorem zdC:E3 zVl zVm:=E3.rfl
abbrev zVo:List XO:=[
 ⟨some 54,.p (.mov (T 8)),none⟩,
 ⟨some 55,.call (.func 247) [(T 54),(C (.int .i64 17))],none⟩,
 ⟨some 56,.p (.mov (T 8)),none⟩,
 ⟨some 57,.call (.func 247) [(T 56),(C (.int .i64 19))],none⟩,
 ⟨some 58,.p (.bin .xor (T 55) (T 57)),none⟩,
 ⟨some 59,.p (.mov (T 8)),none⟩,
 ⟨some 60,.p (.bin .shr (T 59) (C (.int .u64 10))),none⟩,
 ⟨some 61,.p (.bin .xor (T 58) (T 60)),none⟩,
 ⟨some 10,.p (.mov (T 61)),none⟩]
def zVn:List XO:=zVo
theorem zdD:E3 zVn zVo:=E3.rfl
abbrev zVq:List XO:=[
 ⟨some 62,.p (.mov (T 6)),none⟩,
 ⟨some 63,.p (.mov (T 6)),none⟩,
 ⟨some 64,.p (.bin .sub (T 63) (C (.int .i64 16))),none⟩,
 ⟨some 65,.p (.iaddrA 64 1 (T 3) (T 64)),none⟩,
 ⟨some 66,.r (.load1 (T 65)),none⟩,
 ⟨some 67,.p (.mov (T 9)),none⟩,
 ⟨some 68,.p (.bin .add (T 66) (T 67)),none⟩,
 ⟨some 69,.p (.mov (T 6)),none⟩,
 ⟨some 70,.p (.bin .sub (T 69) (C (.int .i64 7))),none⟩,
 ⟨some 71,.p (.iaddrA 64 1 (T 3) (T 70)),none⟩,
 ⟨some 72,.r (.load1 (T 71)),none⟩,
 ⟨some 73,.p (.bin .add (T 68) (T 72)),none⟩,
 ⟨some 74,.p (.mov (T 10)),none⟩,
 ⟨some 75,.p (.bin .add (T 73) (T 74)),none⟩,
 ⟨some 76,.p (.iaddrA 64 1 (T 3) (T 62)),none⟩,
 ⟨none,.e (.store 1 (T 76) (T 75)),none⟩]
def zVp:List XO:=zVq
theorem zdE:E3 zVp zVq:=E3.rfl
abbrev zVs:List XO:=[
 ⟨some 36,.p (.mov (T 6)),none⟩,
 ⟨some 37,.p (.bin .add (T 36) (C (.int .i64 1))),none⟩,
 ⟨some 6,.p (.mov (T 37)),none⟩]
def zVr:List XO:=zVs
theorem zdF:E3 zVr zVs:=E3.rfl
def zGq:XC :=
 .seq (.seq (.ops zVh) (.cond (T 35) (.skip) (.exit 4))) (.seq (.block 5 (.seq (.draw zVj []) (.seq (.ops zVl) (.seq (.ops zVn) (.draw zVp []))))) (.ops zVr))
def zJg:XC:=zGq
theorem zVv {pr:Prog} {k:List KI} {Q:XE→Fr→Heap→Prop} {t:Fr} {h:Heap} (hw:wpk pr zGq k Q t h):wpk pr zJg k Q t h:=hw
abbrev zVx:List XO:=[
 ⟨some 77,.r (.loadN 64 (T 3)),none⟩,
 ⟨none,.e (.store 64 (T 2) (T 77)),none⟩]
def zVw:List XO:=zVx
theorem zdG:E3 zVw zVx:=E3.rfl
def xq246:XF:=⟨1,[.cellN 2 64],
 .seq (.ops zVZ) (.seq (.ops zVb) (.seq (.seq (.ops zVu) (.block 0 (.loop zJf))) (.seq (.seq (.ops zVf) (.block 4 (.loop zJg))) (.seq (.ops zVw) (.ret)))))⟩
def yq246:=PLift.up (And.intro (And.intro (And.intro (And.intro (@xq246_0e) (@xq246_1e)) (And.intro (@xq246_2e) (@xq246_3e))) (And.intro (And.intro (@xq246_4e) (@xq246_5e)) (And.intro (@xq246_6e) (And.intro (@xq246_7e) (@xq246_8e))))) (And.intro (And.intro (And.intro (@xq246_9e) (@zc8)) (And.intro (@zc9) (And.intro (@zdA) (@zdB)))) (And.intro (And.intro (@zdC) (@zdD)) (And.intro (@zdE) (And.intro (@zdF) (@zdG))))))
theorem cq246:zX Tryz.prog Tryz.f246=some xq246:=by kernel_rfl
abbrev zUh:List XO:=[
 ⟨some 14,.call (.func 245) [],none⟩,
 ⟨some 15,.p (.mov (T 1)),none⟩,
 ⟨some 16,.call (.func 246) [(T 15)],none⟩,
 ⟨some 4,.a (.alloc (List.replicate 64 (.int .u32 0))),none⟩,
 ⟨some 5,.a (.alloc (List.replicate 64 (.int .u32 0))),none⟩,
 ⟨none,.e (.store 64 (T 4) (T 14)),none⟩,
 ⟨none,.e (.store 64 (T 5) (T 16)),none⟩]
def zUg:List XO:=zUh
theorem xq222_0e:E3 zUg zUh:=E3.rfl
abbrev zUx:List XO:=[
 ⟨some 17,.p (.mov (T 0)),none⟩,
 ⟨some 18,.p (.nilc (T 17)),none⟩,
 ⟨some 19,.p (.faddr 0 (T 18)),none⟩,
 ⟨some 20,.r (.loadN 8 (T 19)),none⟩,
 ⟨some 6,.a (.alloc (List.replicate 8 (.int .u32 0))),none⟩,
 ⟨none,.e (.store 8 (T 6) (T 20)),none⟩]
def zUi:List XO:=zUx
theorem xq222_1e:E3 zUi zUx:=E3.rfl
abbrev zUz:List XO:=[
 ⟨some 21,.p (.mov (C (.int .i64 0))),none⟩]
def zUy:List XO:=zUz
theorem xq222_2e:E3 zUy zUz:=E3.rfl
abbrev zU1:List XO:=[
 ⟨some 22,.p (.bin .lss (T 21) (C (.int .i64 64))),none⟩]
def zU0:List XO:=zU1
theorem xq222_3e:E3 zU0 zU1:=E3.rfl
abbrev zU3:List XO:=[
 ⟨some 23,.p (.mov (T 21)),none⟩,
 ⟨some 7,.p (.mov (T 23)),none⟩]
def zU2:List XO:=zU3
theorem xq222_4e:E3 zU2 zU3:=E3.rfl
abbrev zU5:List XO:=[
 ⟨some 24,.p (.iaddrA 8 1 (T 6) (C (.int .i64 4))),none⟩,
 ⟨some 25,.r (.load1 (T 24)),none⟩,
 ⟨some 26,.call (.func 247) [(T 25),(C (.int .i64 6))],none⟩,
 ⟨some 27,.p (.iaddrA 8 1 (T 6) (C (.int .i64 4))),none⟩,
 ⟨some 28,.r (.load1 (T 27)),none⟩,
 ⟨some 29,.call (.func 247) [(T 28),(C (.int .i64 11))],none⟩,
 ⟨some 30,.p (.bin .xor (T 26) (T 29)),none⟩,
 ⟨some 31,.p (.iaddrA 8 1 (T 6) (C (.int .i64 4))),none⟩,
 ⟨some 32,.r (.load1 (T 31)),none⟩,
 ⟨some 33,.call (.func 247) [(T 32),(C (.int .i64 25))],none⟩,
 ⟨some 34,.p (.bin .xor (T 30) (T 33)),none⟩,
 ⟨some 8,.p (.mov (T 34)),none⟩]
def zU4:List XO:=zU5
theorem xq222_5e:E3 zU4 zU5:=E3.rfl
abbrev zU7:List XO:=[
 ⟨some 35,.p (.iaddrA 8 1 (T 6) (C (.int .i64 4))),none⟩,
 ⟨some 36,.r (.load1 (T 35)),none⟩,
 ⟨some 37,.p (.iaddrA 8 1 (T 6) (C (.int .i64 5))),none⟩,
 ⟨some 38,.r (.load1 (T 37)),none⟩,
 ⟨some 39,.p (.bin .and (T 36) (T 38)),none⟩,
 ⟨some 40,.p (.iaddrA 8 1 (T 6) (C (.int .i64 4))),none⟩,
 ⟨some 41,.r (.load1 (T 40)),none⟩,
 ⟨some 42,.p (.un .xor (T 41)),none⟩,
 ⟨some 43,.p (.iaddrA 8 1 (T 6) (C (.int .i64 6))),none⟩,
 ⟨some 44,.r (.load1 (T 43)),none⟩,
 ⟨some 45,.p (.bin .and (T 42) (T 44)),none⟩,
 ⟨some 46,.p (.bin .xor (T 39) (T 45)),none⟩,
 ⟨some 9,.p (.mov (T 46)),none⟩]
def zU6:List XO:=zU7
theorem xq222_6e:E3 zU6 zU7:=E3.rfl
abbrev zU9:List XO:=[
 ⟨some 47,.p (.iaddrA 8 1 (T 6) (C (.int .i64 7))),none⟩,
 ⟨some 48,.r (.load1 (T 47)),none⟩,
 ⟨some 49,.p (.mov (T 8)),none⟩,
 ⟨some 50,.p (.bin .add (T 48) (T 49)),none⟩,
 ⟨some 51,.p (.mov (T 9)),none⟩,
 ⟨some 52,.p (.bin .add (T 50) (T 51)),none⟩,
 ⟨some 53,.p (.mov (T 7)),none⟩,
 ⟨some 54,.p (.iaddrA 64 1 (T 4) (T 53)),none⟩,
 ⟨some 55,.r (.load1 (T 54)),none⟩,
 ⟨some 56,.p (.bin .add (T 52) (T 55)),none⟩,
 ⟨some 57,.p (.mov (T 7)),none⟩,
 ⟨some 58,.p (.iaddrA 64 1 (T 5) (T 57)),none⟩,
 ⟨some 59,.r (.load1 (T 58)),none⟩,
 ⟨some 60,.p (.bin .add (T 56) (T 59)),none⟩,
 ⟨some 10,.p (.mov (T 60)),none⟩]
def zU8:List XO:=zU9
theorem xq222_7e:E3 zU8 zU9:=E3.rfl
abbrev zVB:List XO:=[
 ⟨some 61,.p (.iaddrA 8 1 (T 6) (C (.int .i64 0))),none⟩,
 ⟨some 62,.r (.load1 (T 61)),none⟩,
 ⟨some 63,.call (.func 247) [(T 62),(C (.int .i64 2))],none⟩,
 ⟨some 64,.p (.iaddrA 8 1 (T 6) (C (.int .i64 0))),none⟩,
 ⟨some 65,.r (.load1 (T 64)),none⟩,
 ⟨some 66,.call (.func 247) [(T 65),(C (.int .i64 13))],none⟩,
 ⟨some 67,.p (.bin .xor (T 63) (T 66)),none⟩,
 ⟨some 68,.p (.iaddrA 8 1 (T 6) (C (.int .i64 0))),none⟩,
 ⟨some 69,.r (.load1 (T 68)),none⟩,
 ⟨some 70,.call (.func 247) [(T 69),(C (.int .i64 22))],none⟩,
 ⟨some 71,.p (.bin .xor (T 67) (T 70)),none⟩,
 ⟨some 11,.p (.mov (T 71)),none⟩]
def zVA:List XO:=zVB
theorem xq222_8e:E3 zVA zVB:=E3.rfl
abbrev zVD:List XO:=[
 ⟨some 72,.p (.iaddrA 8 1 (T 6) (C (.int .i64 0))),none⟩,
 ⟨some 73,.r (.load1 (T 72)),none⟩,
 ⟨some 74,.p (.iaddrA 8 1 (T 6) (C (.int .i64 1))),none⟩,
 ⟨some 75,.r (.load1 (T 74)),none⟩,
 ⟨some 76,.p (.bin .and (T 73) (T 75)),none⟩,
 ⟨some 77,.p (.iaddrA 8 1 (T 6) (C (.int .i64 0))),none⟩,
 ⟨some 78,.r (.load1 (T 77)),none⟩,
 ⟨some 79,.p (.iaddrA 8 1 (T 6) (C (.int .i64 2))),none⟩,
 ⟨some 80,.r (.load1 (T 79)),none⟩,
 ⟨some 81,.p (.bin .and (T 78) (T 80)),none⟩,
 ⟨some 82,.p (.bin .xor (T 76) (T 81)),none⟩,
 ⟨some 83,.p (.iaddrA 8 1 (T 6) (C (.int .i64 1))),none⟩,
 ⟨some 84,.r (.load1 (T 83)),none⟩,
 ⟨some 85,.p (.iaddrA 8 1 (T 6) (C (.int .i64 2))),none⟩,
 ⟨some 86,.r (.load1 (T 85)),none⟩,
 ⟨some 87,.p (.bin .and (T 84) (T 86)),none⟩,
 ⟨some 88,.p (.bin .xor (T 82) (T 87)),none⟩,
 ⟨some 12,.p (.mov (T 88)),none⟩]
def zVC:List XO:=zVD
theorem xq222_9e:E3 zVC zVD:=E3.rfl
abbrev zUk:List XO:=[
 ⟨some 89,.p (.mov (T 10)),none⟩,
 ⟨some 90,.p (.mov (T 11)),none⟩,
 ⟨some 91,.p (.bin .add (T 89) (T 90)),none⟩,
 ⟨some 92,.p (.mov (T 12)),none⟩,
 ⟨some 93,.p (.bin .add (T 91) (T 92)),none⟩,
 ⟨some 94,.p (.iaddrA 8 1 (T 6) (C (.int .i64 0))),none⟩,
 ⟨some 95,.r (.load1 (T 94)),none⟩,
 ⟨some 96,.p (.iaddrA 8 1 (T 6) (C (.int .i64 1))),none⟩,
 ⟨some 97,.r (.load1 (T 96)),none⟩,
 ⟨some 98,.p (.iaddrA 8 1 (T 6) (C (.int .i64 2))),none⟩,
 ⟨some 99,.r (.load1 (T 98)),none⟩,
 ⟨some 100,.p (.iaddrA 8 1 (T 6) (C (.int .i64 3))),none⟩,
 ⟨some 101,.r (.load1 (T 100)),none⟩,
 ⟨some 102,.p (.mov (T 10)),none⟩,
 ⟨some 103,.p (.bin .add (T 101) (T 102)),none⟩,
 ⟨some 104,.p (.iaddrA 8 1 (T 6) (C (.int .i64 4))),none⟩,
 ⟨some 105,.r (.load1 (T 104)),none⟩,
 ⟨some 106,.p (.iaddrA 8 1 (T 6) (C (.int .i64 5))),none⟩,
 ⟨some 107,.r (.load1 (T 106)),none⟩,
 ⟨some 108,.p (.iaddrA 8 1 (T 6) (C (.int .i64 6))),none⟩,
 ⟨some 109,.r (.load1 (T 108)),none⟩,
 ⟨some 110,.p (.build (List.replicate 8 (.int .u32 0)) [(0,1,(T 93)),(1,1,(T 95)),(2,1,(T 97)),(3,1,(T 99)),(4,1,(T 103)),(5,1,(T 105)),(6,1,(T 107)),(7,1,(T 109))]),none⟩,
 ⟨none,.e (.store 8 (T 6) (T 110)),none⟩]
def zUj:List XO:=zUk
theorem zcx:E3 zUj zUk:=E3.rfl
abbrev zUm:List XO:=[
 ⟨some 111,.p (.bin .add (T 21) (C (.int .i64 1))),none⟩,
 ⟨some 21,.p (.mov (T 111)),none⟩]
def zUl:List XO:=zUm
theorem zcy:E3 zUl zUm:=E3.rfl
def zJV:XC :=
 .seq (.ops zU0) (.seq (.cond (T 22) (.skip) (.exit 0)) (.seq (.block 1 (.seq (.ops zU2) (.seq (.draw zU4 [(4,(2,[])),(8,(2,[])),(8,(5,[]))]) (.seq (.ops zU6) (.seq (.draw zU8 []) (.seq (.draw zVA [(4,(2,[])),(8,(2,[])),(8,(5,[]))]) (.seq (.ops zVC) (.ops zUj)))))))) (.ops zUl)))
def zJU:XC:=zJV
theorem zcz {pr:Prog} {k:List KI} {Q:XE→Fr→Heap→Prop} {t:Fr} {h:Heap} (hw:wpk pr zJV k Q t h):wpk pr zJU k Q t h:=hw
abbrev zUo:List XO:=[
 ⟨some 112,.p (.mov (C (.int .i64 0))),none⟩]
def zUn:List XO:=zUo
theorem zc0:E3 zUn zUo:=E3.rfl
abbrev zUq:List XO:=[
 ⟨some 113,.p (.bin .lss (T 112) (C (.int .i64 8))),none⟩]
def zUp:List XO:=zUq
theorem zc1:E3 zUp zUq:=E3.rfl
abbrev zUs:List XO:=[
 ⟨some 114,.p (.mov (T 112)),none⟩,
 ⟨some 13,.p (.mov (T 114)),none⟩]
def zUr:List XO:=zUs
theorem zc2:E3 zUr zUs:=E3.rfl
abbrev zUu:List XO:=[
 ⟨some 115,.p (.mov (T 0)),none⟩,
 ⟨some 116,.p (.mov (T 13)),none⟩,
 ⟨some 117,.p (.nilc (T 115)),none⟩,
 ⟨some 118,.p (.faddr 0 (T 117)),none⟩,
 ⟨some 119,.p (.iaddrA 8 1 (T 118) (T 116)),none⟩,
 ⟨some 120,.r (.load1 (T 119)),none⟩,
 ⟨some 121,.p (.mov (T 13)),none⟩,
 ⟨some 122,.p (.iaddrA 8 1 (T 6) (T 121)),none⟩,
 ⟨some 123,.r (.load1 (T 122)),none⟩,
 ⟨some 124,.p (.bin .add (T 120) (T 123)),none⟩,
 ⟨some 125,.p (.nilc (T 115)),none⟩,
 ⟨some 126,.p (.faddr 0 (T 125)),none⟩,
 ⟨some 127,.p (.iaddrA 8 1 (T 126) (T 116)),none⟩,
 ⟨none,.e (.store 1 (T 127) (T 124)),none⟩]
def zUt:List XO:=zUu
theorem zc3:E3 zUt zUu:=E3.rfl
abbrev zUw:List XO:=[
 ⟨some 128,.p (.bin .add (T 112) (C (.int .i64 1))),none⟩,
 ⟨some 112,.p (.mov (T 128)),none⟩]
def zUv:List XO:=zUw
theorem zc4:E3 zUv zUw:=E3.rfl
def zJX:XC :=
 .seq (.ops zUp) (.seq (.cond (T 113) (.skip) (.exit 2)) (.seq (.block 3 (.seq (.ops zUr) (.draw zUt []))) (.ops zUv)))
def zJW:XC:=zJX
theorem zc5 {pr:Prog} {k:List KI} {Q:XE→Fr→Heap→Prop} {t:Fr} {h:Heap} (hw:wpk pr zJX k Q t h):wpk pr zJW k Q t h:=hw
def zDp:XF:=⟨2,[],
 .seq (.ops zUg) (.seq (.ops zUi) (.seq (.seq (.ops zUy) (.block 0 (.loop zJU))) (.seq (.ops zUn) (.block 2 (.loop zJW)))))⟩
def yq222:=PLift.up (And.intro (And.intro (And.intro (And.intro (@xq222_0e) (@xq222_1e)) (And.intro (@xq222_2e) (@xq222_3e))) (And.intro (And.intro (@xq222_4e) (@xq222_5e)) (And.intro (@xq222_6e) (@xq222_7e)))) (And.intro (And.intro (And.intro (@xq222_8e) (@xq222_9e)) (And.intro (@zcx) (@zcy))) (And.intro (And.intro (@zc0) (@zc1)) (And.intro (@zc2) (And.intro (@zc3) (@zc4))))))
theorem cq222:zX Tryz.prog Tryz.f222=some zDp:=by kernel_rfl
abbrev zSQ:List XO:=[
 ⟨some 0,.p (.mov (C (.pointer none))),none⟩]
def zSP:List XO:=zSQ
theorem xq194_0e:E3 zSP zSQ:=E3.rfl
abbrev zSS:List XO:=[
 ⟨some 1,.call (.func 221) [],none⟩,
 ⟨some 2,.p (.build [(.int .u32 0),(.int .u32 0),(.int .u32 0),(.int .u32 0),(.int .u32 0),(.int .u32 0),(.int .u32 0),(.int .u32 0),(.slice none 0 0),(.int .u64 0)] [(0,8,(T 1))]),none⟩,
 ⟨some 3,.a (.box (T 2)),none⟩,
 ⟨some 0,.p (.mov (T 3)),none⟩]
def zSR:List XO:=zSS
theorem xq194_1e:E3 zSR zSS:=E3.rfl
def xq194:XF:=⟨0,[.tmp 0],
 .seq (.ops zSP) (.seq (.ops zSR) (.ret))⟩
def yq194:=PLift.up (And.intro (@xq194_0e) (@xq194_1e))
theorem cq194:zX Tryz.prog Tryz.f194=some xq194:=by kernel_rfl
abbrev zSU:List XO:=[
 ⟨some 4,.p (.mov (T 0)),none⟩,
 ⟨some 5,.p (.eql false .nptr (T 4) (C (.pointer none))),none⟩]
def zST:List XO:=zSU
theorem xq195_0e:E3 zST zSU:=E3.rfl
abbrev zSW:List XO:=[
 ⟨some 6,.p (.mov (T 0)),none⟩,
 ⟨some 7,.p (.nilc (T 6)),none⟩,
 ⟨some 8,.p (.faddr 9 (T 7)),none⟩,
 ⟨some 9,.r (.load1 (T 8)),none⟩,
 ⟨some 10,.p (.mov (T 1)),none⟩,
 ⟨some 11,.p (.lenS (T 10)),none⟩,
 ⟨some 12,.p (.cint .u64 (T 11)),none⟩,
 ⟨some 13,.p (.bin .add (T 9) (T 12)),none⟩,
 ⟨some 14,.p (.nilc (T 6)),none⟩,
 ⟨some 15,.p (.faddr 9 (T 14)),none⟩,
 ⟨none,.e (.store 1 (T 15) (T 13)),none⟩]
def zSV:List XO:=zSW
theorem xq195_1e:E3 zSV zSW:=E3.rfl
abbrev zSY:List XO:=[
 ⟨some 16,.p (.mov (T 0)),none⟩,
 ⟨some 17,.p (.mov (T 0)),none⟩,
 ⟨some 18,.p (.nilc (T 17)),none⟩,
 ⟨some 19,.p (.faddr 8 (T 18)),none⟩,
 ⟨some 20,.r (.load1 (T 19)),none⟩,
 ⟨some 21,.p (.mov (T 1)),none⟩,
 ⟨some 22,.e (.append 1 1 (T 20) (T 21)),none⟩,
 ⟨some 23,.p (.nilc (T 16)),none⟩,
 ⟨some 24,.p (.faddr 8 (T 23)),none⟩,
 ⟨none,.e (.store 1 (T 24) (T 22)),none⟩]
def zSX:List XO:=zSY
theorem xq195_2e:E3 zSX zSY:=E3.rfl
abbrev zSa:List XO:=[
 ⟨some 25,.p (.mov (T 0)),none⟩,
 ⟨some 26,.p (.nilc (T 25)),none⟩,
 ⟨some 27,.p (.faddr 8 (T 26)),none⟩,
 ⟨some 28,.r (.load1 (T 27)),none⟩,
 ⟨some 29,.p (.lenV (T 28)),none⟩,
 ⟨some 30,.p (.bin .geq (T 29) (C (.int .i64 64))),none⟩]
def zSZ:List XO:=zSa
theorem xq195_3e:E3 zSZ zSa:=E3.rfl
abbrev zSc:List XO:=[
 ⟨some 31,.p (.mov (T 0)),none⟩,
 ⟨some 32,.p (.mov (T 0)),none⟩,
 ⟨some 33,.p (.nilc (T 32)),none⟩,
 ⟨some 34,.p (.faddr 8 (T 33)),none⟩,
 ⟨some 35,.r (.load1 (T 34)),none⟩,
 ⟨some 36,.p (.slc 1 (T 35) none (some (C (.int .i64 64))) none),none⟩,
 ⟨some 37,.call (.func 222) [(T 31),(T 36)],none⟩]
def zSb:List XO:=zSc
theorem xq195_4e:E3 zSb zSc:=E3.rfl
abbrev zSe:List XO:=[
 ⟨some 38,.p (.mov (T 0)),none⟩,
 ⟨some 39,.p (.mov (T 0)),none⟩,
 ⟨some 40,.p (.nilc (T 39)),none⟩,
 ⟨some 41,.p (.faddr 8 (T 40)),none⟩,
 ⟨some 42,.r (.load1 (T 41)),none⟩,
 ⟨some 43,.p (.slc 1 (T 42) (some (C (.int .i64 64))) none none),none⟩,
 ⟨some 44,.p (.nilc (T 38)),none⟩,
 ⟨some 45,.p (.faddr 8 (T 44)),none⟩,
 ⟨none,.e (.store 1 (T 45) (T 43)),none⟩]
def zSd:List XO:=zSe
theorem xq195_5e:E3 zSd zSe:=E3.rfl
def zJH:XC :=
 .seq (.seq (.ops zSZ) (.cond (T 30) (.skip) (.exit 0))) (.block 1 (.seq (.ops zSb) (.ops zSd)))
def zSf:XC:=zJH
theorem xq195_6k {pr:Prog} {k:List KI} {Q:XE→Fr→Heap→Prop} {t:Fr} {h:Heap} (hw:wpk pr zJH k Q t h):wpk pr zSf k Q t h:=hw
def xq195:XF:=⟨2,[],
 .seq (.seq (.ops zST) (.cond (T 5) (.ret) (.skip))) (.seq (.ops zSV) (.seq (.ops zSX) (.block 0 (.loop zSf))))⟩
def yq195:=PLift.up (And.intro (And.intro (@xq195_0e) (And.intro (@xq195_1e) (@xq195_2e))) (And.intro (@xq195_3e) (And.intro (@xq195_4e) (@xq195_5e))))
theorem cq195:zX Tryz.prog Tryz.f195=some xq195:=by kernel_rfl
abbrev zSl:List XO:=[
 ⟨some 2,.p (.mov (C (.string (strOf [])))),none⟩]
def zSk:List XO:=zSl
theorem xq197_0e:E3 zSk zSl:=E3.rfl
abbrev zS3:List XO:=[
 ⟨some 9,.p (.mov (T 0)),none⟩,
 ⟨some 10,.p (.eql false .nptr (T 9) (C (.pointer none))),none⟩]
def zSm:List XO:=zS3
theorem xq197_1e:E3 zSm zS3:=E3.rfl
abbrev zTL:List XO:=[
 ⟨some 2,.p (.mov (C (.string (strOf [])))),none⟩]
def zS4:List XO:=zTL
theorem xq197_2e:E3 zS4 zTL:=E3.rfl
abbrev zTP:List XO:=[
 ⟨some 11,.p (.mov (T 0)),none⟩,
 ⟨some 12,.p (.nilc (T 11)),none⟩,
 ⟨some 13,.p (.faddr 0 (T 12)),none⟩,
 ⟨some 14,.r (.loadN 8 (T 13)),none⟩,
 ⟨some 15,.p (.mov (T 0)),none⟩,
 ⟨some 16,.p (.nilc (T 15)),none⟩,
 ⟨some 17,.p (.faddr 9 (T 16)),none⟩,
 ⟨some 18,.r (.load1 (T 17)),none⟩,
 ⟨some 19,.p (.build [(.int .u32 0),(.int .u32 0),(.int .u32 0),(.int .u32 0),(.int .u32 0),(.int .u32 0),(.int .u32 0),(.int .u32 0),(.slice none 0 0),(.int .u64 0)] [(0,8,(T 14)),(9,1,(T 18))]),none⟩,
 ⟨some 20,.a (.box (T 19)),none⟩,
 ⟨some 3,.p (.mov (T 20)),none⟩]
def zTM:List XO:=zTP
theorem xq197_3e:E3 zTM zTP:=E3.rfl
abbrev zTR:List XO:=[
 ⟨some 21,.p (.mov (T 3)),none⟩,
 ⟨some 22,.p (.mov (T 3)),none⟩,
 ⟨some 23,.p (.nilc (T 22)),none⟩,
 ⟨some 24,.p (.faddr 8 (T 23)),none⟩,
 ⟨some 25,.r (.load1 (T 24)),none⟩,
 ⟨some 26,.p (.mov (T 0)),none⟩,
 ⟨some 27,.p (.nilc (T 26)),none⟩,
 ⟨some 28,.p (.faddr 8 (T 27)),none⟩,
 ⟨some 29,.r (.load1 (T 28)),none⟩,
 ⟨some 30,.e (.append 1 1 (T 25) (T 29)),none⟩,
 ⟨some 31,.a (.bslice [(.int .u8 0)] 1 [(0,1,(C (.int .u8 128)))]),none⟩,
 ⟨some 32,.e (.append 1 1 (T 30) (T 31)),none⟩,
 ⟨some 33,.p (.nilc (T 21)),none⟩,
 ⟨some 34,.p (.faddr 8 (T 33)),none⟩,
 ⟨none,.e (.store 1 (T 34) (T 32)),none⟩]
def zTQ:List XO:=zTR
theorem xq197_4e:E3 zTQ zTR:=E3.rfl
abbrev zTT:List XO:=[
 ⟨some 35,.p (.mov (T 3)),none⟩,
 ⟨some 36,.p (.nilc (T 35)),none⟩,
 ⟨some 37,.p (.faddr 8 (T 36)),none⟩,
 ⟨some 38,.r (.load1 (T 37)),none⟩,
 ⟨some 39,.p (.lenV (T 38)),none⟩,
 ⟨some 40,.p (.bin .rem (T 39) (C (.int .i64 64))),none⟩,
 ⟨some 41,.p (.eql true .int (T 40) (C (.int .i64 56))),none⟩]
def zTS:List XO:=zTT
theorem xq197_5e:E3 zTS zTT:=E3.rfl
abbrev zTV:List XO:=[
 ⟨some 42,.p (.mov (T 3)),none⟩,
 ⟨some 43,.p (.mov (T 3)),none⟩,
 ⟨some 44,.p (.nilc (T 43)),none⟩,
 ⟨some 45,.p (.faddr 8 (T 44)),none⟩,
 ⟨some 46,.r (.load1 (T 45)),none⟩,
 ⟨some 47,.a (.bslice [(.int .u8 0)] 1 [(0,1,(C (.int .u8 0)))]),none⟩,
 ⟨some 48,.e (.append 1 1 (T 46) (T 47)),none⟩,
 ⟨some 49,.p (.nilc (T 42)),none⟩,
 ⟨some 50,.p (.faddr 8 (T 49)),none⟩,
 ⟨none,.e (.store 1 (T 50) (T 48)),none⟩]
def zTU:List XO:=zTV
theorem xq197_6e:E3 zTU zTV:=E3.rfl
def zJR:XC :=
 .seq (.seq (.ops zTS) (.cond (T 41) (.skip) (.exit 0))) (.block 1 (.ops zTU))
def zJQ:XC:=zJR
theorem xq197_7k {pr:Prog} {k:List KI} {Q:XE→Fr→Heap→Prop} {t:Fr} {h:Heap} (hw:wpk pr zJR k Q t h):wpk pr zJQ k Q t h:=hw
abbrev zTX:List XO:=[
 ⟨some 51,.p (.mov (C (.int .i64 0))),none⟩]
def zTW:List XO:=zTX
theorem xq197_8e:E3 zTW zTX:=E3.rfl
abbrev zTZ:List XO:=[
 ⟨some 52,.p (.bin .lss (T 51) (C (.int .i64 8))),none⟩]
def zTY:List XO:=zTZ
theorem xq197_9e:E3 zTY zTZ:=E3.rfl
abbrev zSo:List XO:=[
 ⟨some 53,.p (.mov (T 51)),none⟩,
 ⟨some 4,.p (.mov (T 53)),none⟩]
def zSn:List XO:=zSo
theorem zcb:E3 zSn zSo:=E3.rfl
abbrev zSq:List XO:=[
 ⟨some 54,.p (.mov (T 3)),none⟩,
 ⟨some 55,.p (.mov (T 3)),none⟩,
 ⟨some 56,.p (.nilc (T 55)),none⟩,
 ⟨some 57,.p (.faddr 8 (T 56)),none⟩,
 ⟨some 58,.r (.load1 (T 57)),none⟩,
 ⟨some 59,.p (.mov (T 3)),none⟩,
 ⟨some 60,.p (.nilc (T 59)),none⟩,
 ⟨some 61,.p (.faddr 9 (T 60)),none⟩,
 ⟨some 62,.r (.load1 (T 61)),none⟩,
 ⟨some 63,.p (.bin .mul (T 62) (C (.int .u64 8))),none⟩,
 ⟨some 64,.p (.mov (T 4)),none⟩,
 ⟨some 65,.p (.bin .sub (C (.int .i64 7)) (T 64)),none⟩,
 ⟨some 66,.p (.bin .mul (C (.int .i64 8)) (T 65)),none⟩,
 ⟨some 67,.p (.bin .shr (T 63) (T 66)),none⟩,
 ⟨some 68,.p (.cint .u8 (T 67)),none⟩,
 ⟨some 69,.a (.bslice [(.int .u8 0)] 1 [(0,1,(T 68))]),none⟩,
 ⟨some 70,.e (.append 1 1 (T 58) (T 69)),none⟩,
 ⟨some 71,.p (.nilc (T 54)),none⟩,
 ⟨some 72,.p (.faddr 8 (T 71)),none⟩,
 ⟨none,.e (.store 1 (T 72) (T 70)),none⟩]
def zSp:List XO:=zSq
theorem zcc:E3 zSp zSq:=E3.rfl
abbrev zSs:List XO:=[
 ⟨some 73,.p (.bin .add (T 51) (C (.int .i64 1))),none⟩,
 ⟨some 51,.p (.mov (T 73)),none⟩]
def zSr:List XO:=zSs
theorem zcd:E3 zSr zSs:=E3.rfl
def zJJ:XC :=
 .seq (.ops zTY) (.seq (.cond (T 52) (.skip) (.exit 2)) (.seq (.block 3 (.seq (.ops zSn) (.draw zSp [(4,(16,[])),(8,(16,[]))]))) (.ops zSr)))
def zJI:XC:=zJJ
theorem zce {pr:Prog} {k:List KI} {Q:XE→Fr→Heap→Prop} {t:Fr} {h:Heap} (hw:wpk pr zJJ k Q t h):wpk pr zJI k Q t h:=hw
abbrev zSu:List XO:=[
 ⟨some 74,.p (.mov (T 3)),none⟩,
 ⟨some 75,.p (.nilc (T 74)),none⟩,
 ⟨some 76,.p (.faddr 8 (T 75)),none⟩,
 ⟨some 77,.r (.load1 (T 76)),none⟩,
 ⟨some 78,.p (.lenV (T 77)),none⟩,
 ⟨some 79,.p (.bin .gtr (T 78) (C (.int .i64 0))),none⟩]
def zSt:List XO:=zSu
theorem zcf:E3 zSt zSu:=E3.rfl
abbrev zSw:List XO:=[
 ⟨some 80,.p (.mov (T 3)),none⟩,
 ⟨some 81,.p (.mov (T 3)),none⟩,
 ⟨some 82,.p (.nilc (T 81)),none⟩,
 ⟨some 83,.p (.faddr 8 (T 82)),none⟩,
 ⟨some 84,.r (.load1 (T 83)),none⟩,
 ⟨some 85,.p (.slc 1 (T 84) none (some (C (.int .i64 64))) none),none⟩,
 ⟨some 86,.call (.func 222) [(T 80),(T 85)],none⟩]
def zSv:List XO:=zSw
theorem zcg:E3 zSv zSw:=E3.rfl
abbrev zSy:List XO:=[
 ⟨some 87,.p (.mov (T 3)),none⟩,
 ⟨some 88,.p (.mov (T 3)),none⟩,
 ⟨some 89,.p (.nilc (T 88)),none⟩,
 ⟨some 90,.p (.faddr 8 (T 89)),none⟩,
 ⟨some 91,.r (.load1 (T 90)),none⟩,
 ⟨some 92,.p (.slc 1 (T 91) (some (C (.int .i64 64))) none none),none⟩,
 ⟨some 93,.p (.nilc (T 87)),none⟩,
 ⟨some 94,.p (.faddr 8 (T 93)),none⟩,
 ⟨none,.e (.store 1 (T 94) (T 92)),none⟩]
def zSx:List XO:=zSy
theorem zch:E3 zSx zSy:=E3.rfl
def zJL:XC :=
 .seq (.seq (.ops zSt) (.cond (T 79) (.skip) (.exit 4))) (.block 5 (.seq (.ops zSv) (.ops zSx)))
def zJK:XC:=zJL
theorem zci {pr:Prog} {k:List KI} {Q:XE→Fr→Heap→Prop} {t:Fr} {h:Heap} (hw:wpk pr zJL k Q t h):wpk pr zJK k Q t h:=hw
abbrev zS0:List XO:=[
 ⟨some 5,.p (.mov (C (.slice none 0 0))),none⟩]
def zSz:List XO:=zS0
theorem zcj:E3 zSz zS0:=E3.rfl
abbrev zS2:List XO:=[
 ⟨some 95,.p (.mov (T 3)),none⟩,
 ⟨some 96,.p (.nilc (T 95)),none⟩,
 ⟨some 97,.p (.faddr 0 (T 96)),none⟩,
 ⟨some 98,.r (.loadN 8 (T 97)),none⟩,
 ⟨some 99,.p (.mov (C (.int .i64 0))),none⟩]
def zS1:List XO:=zS2
theorem zck:E3 zS1 zS2:=E3.rfl
abbrev zS6:List XO:=[
 ⟨some 100,.p (.bin .lss (T 99) (C (.int .i64 8))),none⟩]
def zS5:List XO:=zS6
theorem zcl:E3 zS5 zS6:=E3.rfl
abbrev zS8:List XO:=[
 ⟨some 101,.p (.idxA1 8 (T 98) (T 99)),none⟩,
 ⟨some 7,.p (.mov (T 101)),none⟩]
def zS7:List XO:=zS8
theorem zcm:E3 zS7 zS8:=E3.rfl
abbrev zTA:List XO:=[
 ⟨some 102,.p (.mov (C (.int .i64 0))),none⟩]
def zS9:List XO:=zTA
theorem zcn:E3 zS9 zTA:=E3.rfl
abbrev zTC:List XO:=[
 ⟨some 103,.p (.bin .lss (T 102) (C (.int .i64 4))),none⟩]
def zTB:List XO:=zTC
theorem zco:E3 zTB zTC:=E3.rfl
abbrev zTE:List XO:=[
 ⟨some 104,.p (.mov (T 102)),none⟩,
 ⟨some 8,.p (.mov (T 104)),none⟩]
def zTD:List XO:=zTE
theorem zcp:E3 zTD zTE:=E3.rfl
abbrev zTG:List XO:=[
 ⟨some 105,.p (.mov (T 5)),none⟩,
 ⟨some 106,.p (.mov (T 7)),none⟩,
 ⟨some 107,.p (.mov (T 8)),none⟩,
 ⟨some 108,.p (.bin .sub (C (.int .i64 3)) (T 107)),none⟩,
 ⟨some 109,.p (.bin .mul (C (.int .i64 8)) (T 108)),none⟩,
 ⟨some 110,.p (.bin .shr (T 106) (T 109)),none⟩,
 ⟨some 111,.p (.cint .u8 (T 110)),none⟩,
 ⟨some 112,.a (.bslice [(.int .u8 0)] 1 [(0,1,(T 111))]),none⟩,
 ⟨some 113,.e (.append 1 1 (T 105) (T 112)),none⟩,
 ⟨some 5,.p (.mov (T 113)),none⟩]
def zTF:List XO:=zTG
theorem zcq:E3 zTF zTG:=E3.rfl
abbrev zTI:List XO:=[
 ⟨some 114,.p (.bin .add (T 102) (C (.int .i64 1))),none⟩,
 ⟨some 102,.p (.mov (T 114)),none⟩]
def zTH:List XO:=zTI
theorem zcr:E3 zTH zTI:=E3.rfl
def zJN:XC :=
 .seq (.ops zTB) (.seq (.cond (T 103) (.skip) (.exit 8)) (.seq (.block 9 (.seq (.ops zTD) (.ops zTF))) (.ops zTH)))
def zJM:XC:=zJN
theorem zcs {pr:Prog} {k:List KI} {Q:XE→Fr→Heap→Prop} {t:Fr} {h:Heap} (hw:wpk pr zJN k Q t h):wpk pr zJM k Q t h:=hw
abbrev zTK:List XO:=[
 ⟨some 115,.p (.bin .add (T 99) (C (.int .i64 1))),none⟩,
 ⟨some 99,.p (.mov (T 115)),none⟩]
def zTJ:List XO:=zTK
theorem zct:E3 zTJ zTK:=E3.rfl
def zJP:XC :=
 .seq (.ops zS5) (.seq (.cond (T 100) (.skip) (.exit 6)) (.seq (.block 7 (.seq (.ops zS7) (.seq (.ops zS9) (.block 8 (.loop zJM))))) (.ops zTJ)))
def zJO:XC:=zJP
theorem zcu {pr:Prog} {k:List KI} {Q:XE→Fr→Heap→Prop} {t:Fr} {h:Heap} (hw:wpk pr zJP k Q t h):wpk pr zJO k Q t h:=hw
abbrev zTO:List XO:=[
 ⟨some 116,.p (.mov (T 5)),none⟩,
 ⟨some 117,.r (.cb2s (T 116)),none⟩,
 ⟨some 2,.p (.mov (T 117)),none⟩]
def zTN:List XO:=zTO
theorem zcv:E3 zTN zTO:=E3.rfl
def xq197:XF:=⟨1,[.tmp 2],
 .seq (.ops zSk) (.seq (.seq (.ops zSm) (.cond (T 10) (.seq (.ops zS4) (.ret)) (.skip))) (.seq (.draw zTM [(3,(11,[])),(7,(11,[]))]) (.seq (.draw zTQ []) (.seq (.block 0 (.loop zJQ)) (.seq (.seq (.ops zTW) (.block 2 (.loop zJI))) (.seq (.block 4 (.loop zJK)) (.seq (.ops zSz) (.seq (.seq (.ops zS1) (.block 6 (.loop zJO))) (.seq (.ops zTN) (.ret))))))))))⟩
def yq197:=PLift.up (And.intro (And.intro (And.intro (And.intro (@xq197_0e) (And.intro (@xq197_1e) (@xq197_2e))) (And.intro (@xq197_3e) (And.intro (@xq197_4e) (@xq197_5e)))) (And.intro (And.intro (@xq197_6e) (And.intro (@xq197_8e) (@xq197_9e))) (And.intro (And.intro (@zcb) (@zcc)) (And.intro (@zcd) (@zcf))))) (And.intro (And.intro (And.intro (@zcg) (And.intro (@zch) (@zcj))) (And.intro (@zck) (And.intro (@zcl) (@zcm)))) (And.intro (And.intro (@zcn) (And.intro (@zco) (@zcp))) (And.intro (And.intro (@zcq) (@zcr)) (And.intro (@zct) (@zcv))))))
theorem cq197:zX Tryz.prog Tryz.f197=some xq197:=by kernel_rfl
abbrev zSI:List XO:=[
 ⟨some 2,.p (.mov (C (.string (strOf [])))),none⟩]
def zSH:List XO:=zSI
theorem xq179_0e:E3 zSH zSI:=E3.rfl
abbrev zSK:List XO:=[
 ⟨some 4,.call (.func 194) [],none⟩,
 ⟨some 3,.p (.mov (T 4)),none⟩]
def zSJ:List XO:=zSK
theorem xq179_1e:E3 zSJ zSK:=E3.rfl
abbrev zSM:List XO:=[
 ⟨some 5,.p (.mov (T 3)),none⟩,
 ⟨some 6,.p (.mov (T 0)),none⟩,
 ⟨some 7,.call (.func 195) [(T 5),(T 6)],none⟩]
def zSL:List XO:=zSM
theorem xq179_2e:E3 zSL zSM:=E3.rfl
abbrev zSO:List XO:=[
 ⟨some 8,.p (.mov (T 3)),none⟩,
 ⟨some 9,.call (.func 197) [(T 8)],none⟩,
 ⟨some 2,.p (.mov (T 9)),none⟩]
def zSN:List XO:=zSO
theorem xq179_3e:E3 zSN zSO:=E3.rfl
def xq179:XF:=⟨1,[.tmp 2],
 .seq (.ops zSH) (.seq (.ops zSJ) (.seq (.ops zSL) (.seq (.ops zSN) (.ret))))⟩
def yq179:=PLift.up (And.intro (And.intro (@xq179_0e) (@xq179_1e)) (And.intro (@xq179_2e) (@xq179_3e)))
theorem cq179:zX Tryz.prog Tryz.f179=some xq179:=by kernel_rfl
abbrev zVF:List XO:=[
 ⟨some 4,.p (.mov (C (.string (strOf [])))),none⟩]
def zVE:List XO:=zVF
theorem xq223_0e:E3 zVE zVF:=E3.rfl
abbrev zVI:List XO:=[
 ⟨some 7,.p (.mov (T 0)),none⟩,
 ⟨some 8,.p (.lenS (T 7)),none⟩,
 ⟨some 9,.p (.bin .gtr (T 8) (C (.int .i64 64))),none⟩]
def zVG:List XO:=zVI
theorem xq223_1e:E3 zVG zVI:=E3.rfl
abbrev zVK:List XO:=[
 ⟨some 10,.p (.mov (T 0)),none⟩,
 ⟨some 11,.call (.func 179) [(T 10)],none⟩,
 ⟨some 0,.p (.mov (T 11)),none⟩]
def zVJ:List XO:=zVK
theorem xq223_2e:E3 zVJ zVK:=E3.rfl
abbrev zVL:List XO:=[
 ⟨some 12,.p (.mov (T 0)),none⟩,
 ⟨some 13,.p (.mov (T 0)),none⟩,
 ⟨some 14,.p (.lenS (T 13)),none⟩,
 ⟨some 15,.p (.bin .sub (C (.int .i64 64)) (T 14)),none⟩,
 ⟨some 16,.call (.func 248) [(C (.string (strOf [0]))),(T 15)],none⟩,
 ⟨some 17,.p (.bin .add (T 12) (T 16)),none⟩,
 ⟨some 18,.a (.cs2b (T 17)),none⟩,
 ⟨some 5,.p (.mov (T 18)),none⟩]
def zJZ:List XO:=zVL
theorem xq223_3e:E3 zJZ zVL:=E3.rfl
abbrev zVM:List XO:=[
 ⟨some 19,.p (.mov (T 5)),none⟩,
 ⟨some 20,.p (.lenV (T 19)),none⟩,
 ⟨some 21,.p (.mov (C (.int .i64 0))),none⟩]
def zJa:List XO:=zVM
theorem xq223_4e:E3 zJa zVM:=E3.rfl
abbrev zVO:List XO:=[
 ⟨some 22,.p (.bin .lss (T 21) (T 20)),none⟩]
def zVN:List XO:=zVO
theorem xq223_5e:E3 zVN zVO:=E3.rfl
abbrev zVQ:List XO:=[
 ⟨some 23,.p (.mov (T 21)),none⟩,
 ⟨some 6,.p (.mov (T 23)),none⟩]
def zVP:List XO:=zVQ
theorem xq223_6e:E3 zVP zVQ:=E3.rfl
abbrev zVS:List XO:=[
 ⟨some 24,.p (.mov (T 5)),none⟩,
 ⟨some 25,.p (.mov (T 6)),none⟩,
 ⟨some 26,.p (.iaddrS 1 (T 24) (T 25)),none⟩,
 ⟨some 27,.r (.load1 (T 26)),none⟩,
 ⟨some 28,.p (.mov (T 1)),none⟩,
 ⟨some 29,.p (.bin .xor (T 27) (T 28)),none⟩,
 ⟨some 30,.p (.iaddrS 1 (T 24) (T 25)),none⟩,
 ⟨none,.e (.store 1 (T 30) (T 29)),none⟩]
def zVR:List XO:=zVS
theorem xq223_7e:E3 zVR zVS:=E3.rfl
abbrev zVU:List XO:=[
 ⟨some 31,.p (.bin .add (T 21) (C (.int .i64 1))),none⟩,
 ⟨some 21,.p (.mov (T 31)),none⟩]
def zVT:List XO:=zVU
theorem xq223_8e:E3 zVT zVU:=E3.rfl
def zJc:XC :=
 .seq (.ops zVN) (.seq (.cond (T 22) (.skip) (.exit 0)) (.seq (.block 1 (.seq (.ops zVP) (.ops zVR))) (.ops zVT)))
def zJb:XC:=zJc
theorem xq223_9k {pr:Prog} {k:List KI} {Q:XE→Fr→Heap→Prop} {t:Fr} {h:Heap} (hw:wpk pr zJc k Q t h):wpk pr zJb k Q t h:=hw
abbrev zVH:List XO:=[
 ⟨some 32,.p (.mov (T 5)),none⟩,
 ⟨some 33,.r (.cb2s (T 32)),none⟩,
 ⟨some 4,.p (.mov (T 33)),none⟩]
def zJY:List XO:=zVH
theorem zc6:E3 zJY zVH:=E3.rfl
def xq223:XF:=⟨2,[.tmp 4],
 .seq (.ops zVE) (.seq (.seq (.ops zVG) (.cond (T 9) (.ops zVJ) (.skip))) (.seq (.ops zJZ) (.seq (.seq (.ops zJa) (.block 0 (.loop zJb))) (.seq (.ops zJY) (.ret)))))⟩
def yq223:=PLift.up (And.intro (And.intro (And.intro (@xq223_0e) (@xq223_1e)) (And.intro (@xq223_2e) (And.intro (@xq223_3e) (@xq223_4e)))) (And.intro (And.intro (@xq223_5e) (@xq223_6e)) (And.intro (@xq223_7e) (And.intro (@xq223_8e) (@zc6)))))
theorem cq223:zX Tryz.prog Tryz.f223=some xq223:=by kernel_rfl
abbrev zTj:List XO:=[
 ⟨some 4,.p (.mov (C (.string (strOf [])))),none⟩]
def zTi:List XO:=zTj
theorem xq199_0e:E3 zTi zTj:=E3.rfl
abbrev zTl:List XO:=[
 ⟨some 5,.p (.mov (T 0)),none⟩,
 ⟨some 6,.call (.func 223) [(T 5),(C (.int .u8 92))],none⟩,
 ⟨some 7,.p (.mov (T 0)),none⟩,
 ⟨some 8,.call (.func 223) [(T 7),(C (.int .u8 54))],none⟩,
 ⟨some 9,.p (.mov (T 1)),none⟩,
 ⟨some 10,.p (.bin .add (T 8) (T 9)),none⟩,
 ⟨some 11,.call (.func 179) [(T 10)],none⟩,
 ⟨some 12,.p (.bin .add (T 6) (T 11)),none⟩,
 ⟨some 13,.call (.func 179) [(T 12)],none⟩,
 ⟨some 4,.p (.mov (T 13)),none⟩]
def zTk:List XO:=zTl
theorem xq199_1e:E3 zTk zTl:=E3.rfl
def xq199:XF:=⟨2,[.tmp 4],
 .seq (.ops zTi) (.seq (.ops zTk) (.ret))⟩
def yq199:=PLift.up (And.intro (@xq199_0e) (@xq199_1e))
theorem cq199:zX Tryz.prog Tryz.f199=some xq199:=by kernel_rfl
abbrev zUZ:List XO:=[
 ⟨some 6,.p (.mov (C (.bool false))),none⟩]
def zUY:List XO:=zUZ
theorem xq216_0e:E3 zUY zUZ:=E3.rfl
abbrev zUb:List XO:=[
 ⟨some 7,.p (.mov (T 0)),none⟩,
 ⟨some 8,.p (.mov (T 1)),none⟩,
 ⟨some 9,.call (.func 199) [(T 7),(T 8)],none⟩,
 ⟨some 10,.p (.mov (T 2)),none⟩,
 ⟨some 11,.call (.func 212) [(T 9),(T 10)],none⟩,
 ⟨some 6,.p (.mov (T 11)),none⟩]
def zUa:List XO:=zUb
theorem xq216_1e:E3 zUa zUb:=E3.rfl
def xq216:XF:=⟨3,[.tmp 6],
 .seq (.ops zUY) (.seq (.ops zUa) (.ret))⟩
def yq216:=PLift.up (And.intro (@xq216_0e) (@xq216_1e))
theorem cq216:zX Tryz.prog Tryz.f216=some xq216:=by kernel_rfl
abbrev zTn:List XO:=[
 ⟨some 4,.p (.mov (C (.bool false))),none⟩]
def zTm:List XO:=zTn
theorem xq212_0e:E3 zTm zTn:=E3.rfl
abbrev zTr:List XO:=[
 ⟨some 7,.p (.mov (T 0)),none⟩,
 ⟨some 8,.p (.lenS (T 7)),none⟩,
 ⟨some 9,.p (.mov (T 1)),none⟩,
 ⟨some 10,.p (.lenS (T 9)),none⟩,
 ⟨some 11,.p (.eql true .int (T 8) (T 10)),none⟩]
def zTo:List XO:=zTr
theorem xq212_1e:E3 zTo zTr:=E3.rfl
abbrev zTt:List XO:=[
 ⟨some 4,.p (.mov (C (.bool false))),none⟩]
def zTs:List XO:=zTt
theorem xq212_2e:E3 zTs zTt:=E3.rfl
abbrev zTv:List XO:=[
 ⟨some 5,.p (.mov (C (.int .u8 0))),none⟩]
def zTu:List XO:=zTv
theorem xq212_3e:E3 zTu zTv:=E3.rfl
abbrev zTx:List XO:=[
 ⟨some 12,.p (.mov (T 0)),none⟩,
 ⟨some 13,.p (.lenS (T 12)),none⟩,
 ⟨some 14,.p (.mov (C (.int .i64 0))),none⟩]
def zTw:List XO:=zTx
theorem xq212_4e:E3 zTw zTx:=E3.rfl
abbrev zTz:List XO:=[
 ⟨some 15,.p (.bin .lss (T 14) (T 13)),none⟩]
def zTy:List XO:=zTz
theorem xq212_5e:E3 zTy zTz:=E3.rfl
abbrev zT1:List XO:=[
 ⟨some 16,.p (.mov (T 14)),none⟩,
 ⟨some 6,.p (.mov (T 16)),none⟩]
def zT0:List XO:=zT1
theorem xq212_6e:E3 zT0 zT1:=E3.rfl
abbrev zT3:List XO:=[
 ⟨some 17,.p (.mov (T 5)),none⟩,
 ⟨some 18,.p (.mov (T 0)),none⟩,
 ⟨some 19,.p (.mov (T 6)),none⟩,
 ⟨some 20,.p (.idxS (T 18) (T 19)),none⟩,
 ⟨some 21,.p (.mov (T 1)),none⟩,
 ⟨some 22,.p (.mov (T 6)),none⟩,
 ⟨some 23,.p (.idxS (T 21) (T 22)),none⟩,
 ⟨some 24,.p (.bin .xor (T 20) (T 23)),none⟩,
 ⟨some 25,.p (.bin .or (T 17) (T 24)),none⟩,
 ⟨some 5,.p (.mov (T 25)),none⟩]
def zT2:List XO:=zT3
theorem xq212_7e:E3 zT2 zT3:=E3.rfl
abbrev zT5:List XO:=[
 ⟨some 26,.p (.bin .add (T 14) (C (.int .i64 1))),none⟩,
 ⟨some 14,.p (.mov (T 26)),none⟩]
def zT4:List XO:=zT5
theorem xq212_8e:E3 zT4 zT5:=E3.rfl
def zJS:XC :=
 .seq (.ops zTy) (.seq (.cond (T 15) (.skip) (.exit 0)) (.seq (.block 1 (.seq (.ops zT0) (.draw zT2 []))) (.ops zT4)))
def zT6:XC:=zJS
theorem xq212_9k {pr:Prog} {k:List KI} {Q:XE→Fr→Heap→Prop} {t:Fr} {h:Heap} (hw:wpk pr zJS k Q t h):wpk pr zT6 k Q t h:=hw
abbrev zTq:List XO:=[
 ⟨some 27,.p (.mov (T 5)),none⟩,
 ⟨some 28,.p (.eql false .int (T 27) (C (.int .u8 0))),none⟩,
 ⟨some 4,.p (.mov (T 28)),none⟩]
def zTp:List XO:=zTq
theorem zcw:E3 zTp zTq:=E3.rfl
def xq212:XF:=⟨2,[.tmp 4],
 .seq (.ops zTm) (.seq (.seq (.ops zTo) (.cond (T 11) (.seq (.ops zTs) (.ret)) (.skip))) (.seq (.ops zTu) (.seq (.seq (.ops zTw) (.block 0 (.loop zT6))) (.seq (.ops zTp) (.ret)))))⟩
def yq212:=PLift.up (And.intro (And.intro (And.intro (@xq212_0e) (@xq212_1e)) (And.intro (@xq212_2e) (And.intro (@xq212_3e) (@xq212_4e)))) (And.intro (And.intro (@xq212_5e) (@xq212_6e)) (And.intro (@xq212_7e) (And.intro (@xq212_8e) (@zcw)))))
theorem cq212:zX Tryz.prog Tryz.f212=some xq212:=by kernel_rfl
end Go.X
end
section
namespace Go.X
open Go.Proofs
abbrev zTb:List XO:=[
 ⟨some 4,.p (.mov (C (.string (strOf [])))),none⟩,
 ⟨some 5,.p (.mov (C (.bool false))),none⟩]
def zTa:List XO:=zTb
theorem xq198_0e:E3 zTa zTb:=E3.rfl
abbrev zTd:List XO:=[
 ⟨some 6,.p (.mov (T 0)),none⟩,
 ⟨some 7,.p (.eql false .nptr (T 6) (C (.pointer none))),none⟩,
 ⟨some 8,.p (.mov (T 7)),none⟩,
 ⟨some 9,.p (.mov (T 1)),some (8,false)⟩,
 ⟨some 10,.p (.bin .lss (T 9) (C (.int .i64 0))),some (8,false)⟩,
 ⟨some 11,.p (.pick (T 8) (C (.bool true)) (T 10)),none⟩,
 ⟨some 12,.p (.mov (T 11)),none⟩,
 ⟨some 13,.p (.mov (T 1)),some (12,false)⟩,
 ⟨some 14,.p (.mov (T 0)),some (12,false)⟩,
 ⟨some 15,.p (.nilc (T 14)),some (12,false)⟩,
 ⟨some 16,.p (.faddr 0 (T 15)),some (12,false)⟩,
 ⟨some 17,.r (.load1 (T 16)),some (12,false)⟩,
 ⟨some 18,.p (.lenV (T 17)),some (12,false)⟩,
 ⟨some 19,.p (.bin .geq (T 13) (T 18)),some (12,false)⟩,
 ⟨some 20,.p (.pick (T 12) (C (.bool true)) (T 19)),none⟩]
def zTc:List XO:=zTd
theorem xq198_1e:E3 zTc zTd:=E3.rfl
abbrev zTf:List XO:=[
 ⟨some 4,.p (.mov (C (.string (strOf [])))),none⟩,
 ⟨some 5,.p (.mov (C (.bool false))),none⟩]
def zTe:List XO:=zTf
theorem xq198_2e:E3 zTe zTf:=E3.rfl
abbrev zTh:List XO:=[
 ⟨some 21,.p (.mov (T 0)),none⟩,
 ⟨some 22,.p (.nilc (T 21)),none⟩,
 ⟨some 23,.p (.faddr 0 (T 22)),none⟩,
 ⟨some 24,.r (.load1 (T 23)),none⟩,
 ⟨some 25,.p (.mov (T 1)),none⟩,
 ⟨some 26,.p (.iaddrS 1 (T 24) (T 25)),none⟩,
 ⟨some 27,.r (.load1 (T 26)),none⟩,
 ⟨some 4,.p (.mov (T 27)),none⟩,
 ⟨some 5,.p (.mov (C (.bool true))),none⟩]
def zTg:List XO:=zTh
theorem xq198_3e:E3 zTg zTh:=E3.rfl
def xq198:XF:=⟨2,[.tmp 4,.tmp 5],
 .seq (.ops zTa) (.seq (.seq (.ops zTc) (.cond (T 20) (.seq (.ops zTe) (.ret)) (.skip))) (.seq (.ops zTg) (.ret)))⟩
def yq198:=PLift.up (And.intro (And.intro (@xq198_0e) (@xq198_1e)) (And.intro (@xq198_2e) (@xq198_3e)))
theorem cq198:zX Tryz.prog Tryz.f198=some xq198:=by kernel_rfl
abbrev zR8:List XO:=[
 ⟨some 8,.p (.mov (C (.bool false))),none⟩]
def zR7:List XO:=zR8
theorem xq177_0e:E3 zR7 zR8:=E3.rfl
abbrev zSA:List XO:=[
 ⟨some 12,.p (.mov (T 0)),none⟩,
 ⟨some 13,.p (.mov (T 1)),none⟩,
 ⟨some 14,.call (.func 198) [(T 12),(T 13)],none⟩,
 ⟨some 11,.p (.mov (T 14)),none⟩,
 ⟨some 15,.p (.ext (T 11) 0),none⟩,
 ⟨some 16,.p (.ext (T 11) 1),none⟩,
 ⟨some 9,.p (.mov (T 15)),none⟩,
 ⟨some 10,.p (.mov (T 16)),none⟩]
def zR9:List XO:=zSA
theorem xq177_1e:E3 zR9 zSA:=E3.rfl
abbrev zSC:List XO:=[
 ⟨some 17,.p (.mov (T 10)),none⟩,
 ⟨some 18,.p (.mov (T 17)),none⟩,
 ⟨some 19,.p (.mov (T 9)),some (18,true)⟩,
 ⟨some 20,.p (.mov (T 2)),some (18,true)⟩,
 ⟨some 21,.p (.mov (T 3)),some (18,true)⟩,
 ⟨some 22,.call (.func 216) [(T 19),(T 20),(T 21)],some (18,true)⟩,
 ⟨some 23,.p (.pick (T 18) (T 22) (C (.bool false))),none⟩,
 ⟨some 8,.p (.mov (T 23)),none⟩]
def zSB:List XO:=zSC
theorem xq177_2e:E3 zSB zSC:=E3.rfl
def xq177:XF:=⟨4,[.tmp 8],
 .seq (.ops zR7) (.seq (.ops zR9) (.seq (.ops zSB) (.ret)))⟩
def yq177:=PLift.up (And.intro (@xq177_0e) (And.intro (@xq177_1e) (@xq177_2e)))
theorem cq177:zX Tryz.prog Tryz.f177=some xq177:=by kernel_rfl
end Go.X
end
section
namespace Go.X
open Go.Proofs
abbrev zSh:List XO:=[
 ⟨some 2,.p (.mov (C (.string (strOf [])))),none⟩]
def zSg:List XO:=zSh
theorem xq196_0e:E3 zSg zSh:=E3.rfl
abbrev zSj:List XO:=[
 ⟨some 3,.p (.mov (T 0)),none⟩,
 ⟨some 4,.p (.bin .shr (T 3) (C (.int .u64 24))),none⟩,
 ⟨some 5,.p (.cint .u8 (T 4)),none⟩,
 ⟨some 6,.p (.mov (T 0)),none⟩,
 ⟨some 7,.p (.bin .shr (T 6) (C (.int .u64 16))),none⟩,
 ⟨some 8,.p (.cint .u8 (T 7)),none⟩,
 ⟨some 9,.p (.mov (T 0)),none⟩,
 ⟨some 10,.p (.bin .shr (T 9) (C (.int .u64 8))),none⟩,
 ⟨some 11,.p (.cint .u8 (T 10)),none⟩,
 ⟨some 12,.p (.mov (T 0)),none⟩,
 ⟨some 13,.p (.cint .u8 (T 12)),none⟩,
 ⟨some 14,.a (.bslice (List.replicate 4 (.int .u8 0)) 4 [(0,1,(T 5)),(1,1,(T 8)),(2,1,(T 11)),(3,1,(T 13))]),none⟩,
 ⟨some 15,.r (.cb2s (T 14)),none⟩,
 ⟨some 2,.p (.mov (T 15)),none⟩]
def zSi:List XO:=zSj
theorem xq196_1e:E3 zSi zSj:=E3.rfl
def xq196:XF:=⟨1,[.tmp 2],
 .seq (.ops zSg) (.seq (.ops zSi) (.ret))⟩
def yq196:=PLift.up (And.intro (@xq196_0e) (@xq196_1e))
theorem cq196:zX Tryz.prog Tryz.f196=some xq196:=by kernel_rfl
abbrev zRB:List XO:=[
 ⟨some 4,.p (.mov (C (.string (strOf [])))),none⟩]
def zRA:List XO:=zRB
theorem xq160_0e:E3 zRA zRB:=E3.rfl
abbrev zRF:List XO:=[
 ⟨some 8,.call (.func 194) [],none⟩,
 ⟨some 5,.p (.mov (T 8)),none⟩]
def zRC:List XO:=zRF
theorem xq160_1e:E3 zRC zRF:=E3.rfl
abbrev zRH:List XO:=[
 ⟨some 9,.p (.mov (T 5)),none⟩,
 ⟨some 10,.p (.mov (T 0)),none⟩,
 ⟨some 11,.a (.bslice [(.int .u8 0)] 1 [(0,1,(T 10))]),none⟩,
 ⟨some 12,.r (.cb2s (T 11)),none⟩,
 ⟨some 13,.call (.func 195) [(T 9),(T 12)],none⟩]
def zRG:List XO:=zRH
theorem xq160_2e:E3 zRG zRH:=E3.rfl
abbrev zRJ:List XO:=[
 ⟨some 14,.p (.mov (T 1)),none⟩,
 ⟨some 15,.p (.lenV (T 14)),none⟩,
 ⟨some 16,.p (.mov (C (.int .i64 0))),none⟩]
def zRI:List XO:=zRJ
theorem xq160_3e:E3 zRI zRJ:=E3.rfl
abbrev zRL:List XO:=[
 ⟨some 17,.p (.bin .lss (T 16) (T 15)),none⟩]
def zRK:List XO:=zRL
theorem xq160_4e:E3 zRK zRL:=E3.rfl
abbrev zRN:List XO:=[
 ⟨some 18,.p (.iaddrS 1 (T 14) (T 16)),none⟩,
 ⟨some 19,.r (.load1 (T 18)),none⟩,
 ⟨some 7,.p (.mov (T 19)),none⟩]
def zRM:List XO:=zRN
theorem xq160_5e:E3 zRM zRN:=E3.rfl
abbrev zRP:List XO:=[
 ⟨some 20,.p (.mov (T 5)),none⟩,
 ⟨some 21,.p (.mov (T 7)),none⟩,
 ⟨some 22,.p (.lenS (T 21)),none⟩,
 ⟨some 23,.call (.func 196) [(T 22)],none⟩,
 ⟨some 24,.call (.func 195) [(T 20),(T 23)],none⟩]
def zRO:List XO:=zRP
theorem xq160_6e:E3 zRO zRP:=E3.rfl
abbrev zRR:List XO:=[
 ⟨some 25,.p (.mov (T 5)),none⟩,
 ⟨some 26,.p (.mov (T 7)),none⟩,
 ⟨some 27,.call (.func 195) [(T 25),(T 26)],none⟩]
def zRQ:List XO:=zRR
theorem xq160_7e:E3 zRQ zRR:=E3.rfl
abbrev zRT:List XO:=[
 ⟨some 28,.p (.bin .add (T 16) (C (.int .i64 1))),none⟩,
 ⟨some 16,.p (.mov (T 28)),none⟩]
def zRS:List XO:=zRT
theorem xq160_8e:E3 zRS zRT:=E3.rfl
def zJG:XC :=
 .seq (.ops zRK) (.seq (.cond (T 17) (.skip) (.exit 0)) (.seq (.block 1 (.seq (.ops zRM) (.seq (.ops zRO) (.ops zRQ)))) (.ops zRS)))
def zRU:XC:=zJG
theorem xq160_9k {pr:Prog} {k:List KI} {Q:XE→Fr→Heap→Prop} {t:Fr} {h:Heap} (hw:wpk pr zJG k Q t h):wpk pr zRU k Q t h:=hw
abbrev zRE:List XO:=[
 ⟨some 29,.p (.mov (T 5)),none⟩,
 ⟨some 30,.call (.func 197) [(T 29)],none⟩,
 ⟨some 4,.p (.mov (T 30)),none⟩]
def zRD:List XO:=zRE
theorem zca:E3 zRD zRE:=E3.rfl
def xq160:XF:=⟨2,[.tmp 4],
 .seq (.ops zRA) (.seq (.ops zRC) (.seq (.ops zRG) (.seq (.seq (.ops zRI) (.block 0 (.loop zRU))) (.seq (.ops zRD) (.ret)))))⟩
def yq160:=PLift.up (And.intro (And.intro (And.intro (@xq160_0e) (@xq160_1e)) (And.intro (@xq160_2e) (And.intro (@xq160_3e) (@xq160_4e)))) (And.intro (And.intro (@xq160_5e) (@xq160_6e)) (And.intro (@xq160_7e) (And.intro (@xq160_8e) (@zca)))))
theorem cq160:zX Tryz.prog Tryz.f160=some xq160:=by kernel_rfl
abbrev zZP:List XO:=[
 ⟨some 4,.p (.mov (C (.pointer none))),none⟩,
 ⟨some 5,.p (.mov (C (.int .i64 0))),none⟩]
def xq98_0:List XO:=zZP
theorem xq98_0e:E3 xq98_0 zZP:=E3.rfl
abbrev zZS:List XO:=[
 ⟨some 8,.p (.mov (T 1)),none⟩,
 ⟨some 9,.p (.bin .lss (T 8) (C (.int .i64 0))),none⟩,
 ⟨some 10,.p (.mov (T 9)),none⟩,
 ⟨some 11,.p (.mov (T 1)),some (10,false)⟩,
 ⟨some 12,.p (.bin .gtr (T 11) (C (.int .i64 16))),some (10,false)⟩,
 ⟨some 13,.p (.pick (T 10) (C (.bool true)) (T 12)),none⟩]
def xq98_1:List XO:=zZS
theorem xq98_1e:E3 xq98_1 zZS:=E3.rfl
abbrev zZT:List XO:=[
 ⟨some 4,.p (.mov (C (.pointer none))),none⟩,
 ⟨some 5,.p (.mov (C (.int .i64 1))),none⟩]
def xq98_2:List XO:=zZT
theorem xq98_2e:E3 xq98_2 zZT:=E3.rfl
abbrev zZU:List XO:=[
 ⟨some 14,.p (.build [(.slice none 0 0)] []),none⟩,
 ⟨some 15,.a (.box (T 14)),none⟩,
 ⟨some 6,.p (.mov (T 15)),none⟩]
def xq98_3:List XO:=zZU
theorem xq98_3e:E3 xq98_3 zZU:=E3.rfl
abbrev zZV:List XO:=[
 ⟨some 16,.p (.mov (T 1)),none⟩,
 ⟨some 17,.p (.mov (C (.int .i64 0))),none⟩]
def xq98_4:List XO:=zZV
theorem xq98_4e:E3 xq98_4 zZV:=E3.rfl
abbrev zZW:List XO:=[
 ⟨some 18,.p (.bin .lss (T 17) (T 16)),none⟩]
def xq98_5:List XO:=zZW
theorem xq98_5e:E3 xq98_5 zZW:=E3.rfl
abbrev zZX:List XO:=[
 ⟨some 19,.p (.mov (T 17)),none⟩,
 ⟨some 7,.p (.mov (T 19)),none⟩]
def xq98_6:List XO:=zZX
theorem xq98_6e:E3 xq98_6 zZX:=E3.rfl
abbrev zZY:List XO:=[
 ⟨some 20,.p (.mov (T 6)),none⟩,
 ⟨some 21,.p (.mov (T 6)),none⟩,
 ⟨some 22,.p (.nilc (T 21)),none⟩,
 ⟨some 23,.p (.faddr 0 (T 22)),none⟩,
 ⟨some 24,.r (.load1 (T 23)),none⟩,
 ⟨some 25,.p (.mov (T 0)),none⟩,
 ⟨some 26,.p (.mov (T 7)),none⟩,
 ⟨some 27,.p (.cint .u8 (T 26)),none⟩,
 ⟨some 28,.a (.bslice [(.int .u8 0)] 1 [(0,1,(T 27))]),none⟩,
 ⟨some 29,.r (.cb2s (T 28)),none⟩,
 ⟨some 30,.a (.bslice [(.string (strOf [])),(.string (strOf []))] 2 [(0,1,(T 25)),(1,1,(T 29))]),none⟩,
 ⟨some 31,.call (.func 160) [(C (.int .u8 75)),(T 30)],none⟩,
 ⟨some 32,.a (.bslice [(.string (strOf []))] 1 [(0,1,(T 31))]),none⟩,
 ⟨some 33,.e (.append 1 16 (T 24) (T 32)),none⟩,
 ⟨some 34,.p (.nilc (T 20)),none⟩,
 ⟨some 35,.p (.faddr 0 (T 34)),none⟩,
 ⟨none,.e (.store 1 (T 35) (T 33)),none⟩]
def xq98_7:List XO:=zZY
theorem xq98_7e:E3 xq98_7 zZY:=E3.rfl
abbrev zZZ:List XO:=[
 ⟨some 36,.p (.bin .add (T 17) (C (.int .i64 1))),none⟩,
 ⟨some 17,.p (.mov (T 36)),none⟩]
def xq98_8:List XO:=zZZ
theorem xq98_8e:E3 xq98_8 zZZ:=E3.rfl
def zJp:XC :=
 .seq (.ops xq98_5) (.seq (.cond (T 18) (.skip) (.exit 0)) (.seq (.block 1 (.seq (.ops xq98_6) (.draw xq98_7 [(4,(11,[])),(4,(13,[])),(9,(11,[]))]))) (.ops xq98_8)))
def xq98_9:XC:=zJp
theorem xq98_9k {pr:Prog} {k:List KI} {Q:XE→Fr→Heap→Prop} {t:Fr} {h:Heap} (hw:wpk pr zJp k Q t h):wpk pr xq98_9 k Q t h:=hw
abbrev zZR:List XO:=[
 ⟨some 37,.p (.mov (T 6)),none⟩,
 ⟨some 4,.p (.mov (T 37)),none⟩,
 ⟨some 5,.p (.mov (C (.int .i64 0))),none⟩]
def zZQ:List XO:=zZR
theorem xq98_10e:E3 zZQ zZR:=E3.rfl
def xq98:XF:=⟨2,[.tmp 4,.tmp 5],
 .seq (.ops xq98_0) (.seq (.seq (.ops xq98_1) (.cond (T 13) (.seq (.ops xq98_2) (.ret)) (.skip))) (.seq (.ops xq98_3) (.seq (.seq (.ops xq98_4) (.block 0 (.loop xq98_9))) (.seq (.ops zZQ) (.ret)))))⟩
def yq98:=PLift.up (And.intro (And.intro (And.intro (@xq98_0e) (@xq98_1e)) (And.intro (@xq98_2e) (And.intro (@xq98_3e) (@xq98_4e)))) (And.intro (And.intro (@xq98_5e) (@xq98_6e)) (And.intro (@xq98_7e) (And.intro (@xq98_8e) (@xq98_10e)))))
theorem cq98:zX Tryz.prog Tryz.f98=some xq98:=by kernel_rfl
end Go.X
end
