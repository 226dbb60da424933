/- The digest in plain words; the functions of the seat as the interpreter has them, each held against the loaded program. -/
import Derived.Test.YtnppabpbdobaiaaGreatProg
import Derived.KernelRfl
import Derived.Test.YtnppabpbdobaiaaGreatXC
set_option linter.unusedSimpArgs false
set_option linter.unusedVariables false
set_option maxHeartbeats 2000000
open Nat renaming reduceLeDiff → zam, reduceEqDiff → zan, reduceAdd → zao
open Int renaming reduceBEq → zap, reduceLT → zaq, reduceLE → zar, reduceGT → zas, reduceGE → zat, reduceEq → zau, reduceAdd → zav, reduceSub → zaw, reduceMul → zax
section
namespace Go.X.Sha
def rotr (x n:Nat):Nat:=Nat.lor ((x % 4294967296) >>> n) ((x <<< (32 - n)) % 4294967296)
def s0 (x:Nat):Nat:=Nat.xor (Nat.xor (rotr x 7) (rotr x 18)) ((x % 4294967296) >>> 3)
def s1 (x:Nat):Nat:=Nat.xor (Nat.xor (rotr x 17) (rotr x 19)) ((x % 4294967296) >>> 10)
def e0 (x:Nat):Nat:=Nat.xor (Nat.xor (rotr x 2) (rotr x 13)) (rotr x 22)
def e1 (x:Nat):Nat:=Nat.xor (Nat.xor (rotr x 6) (rotr x 11)) (rotr x 25)
def ch (e f g:Nat):Nat:=Nat.xor (Nat.land e f) (Nat.land (4294967295 - e % 4294967296) g)
def maj (a b c:Nat):Nat:=Nat.xor (Nat.xor (Nat.land a b) (Nat.land a c)) (Nat.land b c)
def K:List Nat:=[
0x428a2f98,0x71374491,0xb5c0fbcf,0xe9b5dba5,0x3956c25b,0x59f111f1,0x923f82a4,0xab1c5ed5,
 0xd807aa98,0x12835b01,0x243185be,0x550c7dc3,0x72be5d74,0x80deb1fe,0x9bdc06a7,0xc19bf174,
 0xe49b69c1,0xefbe4786,0x0fc19dc6,0x240ca1cc,0x2de92c6f,0x4a7484aa,0x5cb0a9dc,0x76f988da,
 0x983e5152,0xa831c66d,0xb00327c8,0xbf597fc7,0xc6e00bf3,0xd5a79147,0x06ca6351,0x14292967,
 0x27b70a85,0x2e1b2138,0x4d2c6dfc,0x53380d13,0x650a7354,0x766a0abb,0x81c2c92e,0x92722c85,
 0xa2bfe8a1,0xa81a664b,0xc24b8b70,0xc76c51a3,0xd192e819,0xd6990624,0xf40e3585,0x106aa070,
 0x19a4c116,0x1e376c08,0x2748774c,0x34b0bcb5,0x391c0cb3,0x4ed8aa4a,0x5b9cca4f,0x682e6ff3,
 0x748f82ee,0x78a5636f,0x84c87814,0x8cc70208,0x90befffa,0xa4506ceb,0xbef9a3f7,0xc67178f2]
def H0:List Nat:=[0x6a09e667,0xbb67ae85,0x3c6ef372,0xa54ff53a,0x510e527f,0x9b05688c,0x1f83d9ab,0x5be0cd19]
def round (k w:Nat):List Nat→List Nat
 | [a,b,c,d,e,f,g,h] =>
  let t:=(h+e1 e+ch e f g+k+w) % 4294967296
  [(t+e0 a+maj a b c) % 4294967296,a,b,c,(d+t) % 4294967296,e,f,g]
 | l=>l
def sched:Nat→List Nat→List Nat
 | 0,_=>[]
 | n+1,w=>(w.getD 0 0)::sched n (w.drop 1++[(w.getD 0 0+s0 (w.getD 1 0)+w.getD 9 0+s1 (w.getD 14 0)) % 4294967296])
def rounds:List Nat→List Nat→List Nat→List Nat
 | k::ks,w::ws,v=>rounds ks ws (round k w v)
 | _,_,v=>v
def addAll:List Nat→List Nat→List Nat
 | a::u,b::bs=>((a+b) % 4294967296)::addAll u bs
 | _,_=>[]
def block (h w:List Nat):List Nat:=addAll h (rounds K (sched 64 w) h)
def words:List Nat→List Nat
 | a::b::c::d::r=>(((a*256+b)*256+c)*256+d)::words r
 | _=>[]
def zFR:Nat→List Nat→List Nat→List Nat
 | 0,h,_=>h
 | n+1,h,w=>zFR n (block h (w.take 16)) (w.drop 16)
def zFt (n:Nat):List Nat:=[n / 72057594037927936 % 256,n / 281474976710656 % 256,n / 1099511627776 % 256,n / 4294967296 % 256,n / 16777216 % 256,n / 65536 % 256,n / 256 % 256,n % 256]
def pad (b:List Nat):List Nat:=b++128::List.replicate ((119 - b.length % 64) % 64) 0++zFt (b.length*8 % 18446744073709551616)
def zGT:List Nat→List Nat
 | []=>[]
 | x::r=>(x / 16777216 % 256)::(x / 65536 % 256)::(x / 256 % 256)::(x % 256)::zGT r
def shaN (b:List Nat):List Nat:=zGT (zFR ((pad b).length / 64) H0 (words (pad b)))
def sha (b:List UInt8):List UInt8:=(shaN (b.map (·.toNat))).map UInt8.ofNat
end Go.X.Sha
end
section
namespace Go.X.Sha
def nxt (l:List Nat):Nat:=(l.getD (l.length - 16) 0+s0 (l.getD (l.length - 15) 0)+l.getD (l.length - 7) 0+s1 (l.getD (l.length - 2) 0)) % 4294967296
def ext:List Nat→Nat→List Nat
 | l,0=>l
 | l,n+1=>ext (l++[nxt l]) n
theorem ext_succ:∀ (n:Nat) (l:List Nat),ext l (n+1)=ext l n++[nxt (ext l n)]
 | 0,l=>rfl
 | n+1,l=>by
  show ext (l++[nxt l]) (n+1)=ext (l++[nxt l]) n++[nxt (ext (l++[nxt l]) n)]
  exact ext_succ n _
theorem ext_len:∀ (n:Nat) (l:List Nat),(ext l n).length=l.length+n
 | 0,l=>rfl
 | n+1,l=>by rw[ext_succ,List.length_append,ext_len n l];rfl
theorem nxt_cons (a:Nat) (l:List Nat) (h:16≤l.length):nxt (a::l)=nxt l:=by
 have e:∀j,j≤16→1≤j→(a::l).getD ((a::l).length - j) 0=l.getD (l.length - j) 0:=fun j h1 h2=>by
  rw[show (a::l).length - j=(l.length - j)+1 by simp;omega];rfl
 unfold nxt
 rw[e 16 (by omega) (by omega),e 15 (by omega) (by omega),e 7 (by omega) (by omega),e 2 (by omega) (by omega)]
theorem zKS:∀ (n a:Nat) (l:List Nat),16≤l.length→ext (a::l) n=a::ext l n
 | 0,a,l,h=>rfl
 | n+1,a,l,h=>by
  show ext (a::l++[nxt (a::l)]) n=a::ext (l++[nxt l]) n
  rw[nxt_cons a l h,List.cons_append]
  exact zKS n a _ (by simp;omega)
theorem nxt_win (w:List Nat) (h:w.length=16):nxt w=(w.getD 0 0+s0 (w.getD 1 0)+w.getD 9 0+s1 (w.getD 14 0)) % 4294967296:=by
 unfold nxt;rw[h]
theorem zZN:∀ (n:Nat) (w:List Nat),w.length=16→n≤16→sched n w=w.take n:=by
 have key:∀ (n:Nat) (w:List Nat) (x:List Nat),w.length+x.length=16→n≤w.length→sched n (w++x)=w.take n:=by
  intro n
  induction n with
  | zero=>intro w x _ _;rfl
  | succ n ih =>
   intro w x h hn
   cases w with
   | nil=>simp at hn
   | cons a w =>
    simp only[sched,List.cons_append,List.drop_succ_cons,List.drop_zero,List.take_succ_cons]
    rw[List.append_assoc,ih w _ (by simp at h ⊢;omega) (by simp at hn;omega)]
    rfl
 intro n w h hn
 have:=key n w [] (by simpa using h) (by omega)
 simpa using this
theorem sched_ext:∀ (m:Nat) (w:List Nat),w.length=16→sched (16+m) w=ext w m
 | 0,w,h=>by rw[zZN 16 w h (Nat.le_refl _)];simp[ext,←h]
 | m+1,w,h=>by
  cases w with
  | nil=>simp at h
  | cons a w =>
   show sched ((16+m)+1) (a::w)=ext (a::w++[nxt (a::w)]) m
   rw[List.cons_append,zKS m a _ (by simp at h ⊢;omega),nxt_win _ h]
   simp only[sched]
   rw[sched_ext m _ (by simp at h ⊢;omega)]
   rfl
end Go.X.Sha
end
section
namespace Go.X
def zEG (b:Nat→Nat) (i:Nat):Nat:=((b (4*i)*256+b (4*i+1))*256+b (4*i+2))*256+b (4*i+3)
def zBd (b:Nat→Nat):List Nat:=(List.range 16).map (zEG b)
theorem zC6 (b:Nat→Nat):(zBd b).length=16:=by simp[zBd]
def winB (l:List UInt8):List Nat:=zBd fun j=>(l.getD j 0).toNat
theorem zIh {l:List UInt8} {n:Nat} (hn:64≤n):winB (l.take n)=winB l:=by
 unfold winB zBd
 refine List.map_congr_left fun i hi=>?_
 have hi':i<16:=List.mem_range.1 hi
 have e:∀j,j<64→(l.take n).getD j 0=l.getD j 0:=fun j hj=>by
  simp only[List.getD_eq_getElem?_getD]
  rw[List.getElem?_take,if_pos (by omega)]
 unfold zEG
 dsimp only
 rw[e _ (by omega),e _ (by omega),e _ (by omega),e _ (by omega)]
def absorb:Nat→List Nat→List UInt8→List Nat
 | 0,h,_=>h
 | n+1,h,b=>absorb n (Sha.block h (winB b)) (b.drop 64)
theorem zGm:∀ (i:Nat) (h:List Nat) (b:List UInt8),absorb (i+1) h b=Sha.block (absorb i h b) (winB (b.drop (64*i)))
 | 0,h,b=>by simp[absorb]
 | i+1,h,b=>by
  rw[absorb,zGm i]
  simp only[absorb,List.drop_drop]
  rw[show 64+64*i=64*(i+1) by omega]
theorem zGl:∀ (i j:Nat) (h:List Nat) (b:List UInt8),absorb (i+j) h b=absorb j (absorb i h b) (b.drop (64*i))
 | 0,j,h,b=>by simp[absorb]
 | i+1,j,h,b=>by
  rw[show i+1+j=(i+j)+1 by omega]
  simp only[absorb]
  rw[zGl i j,List.drop_drop,show 64+64*i=64*(i+1) by omega]
theorem zZs {a b:List UInt8} (h:64≤a.length):winB (a++b)=winB a:=by
 rw[←zIh (l:=a++b) h]
 simp
theorem zFI:∀ (i:Nat) (h:List Nat) (a b:List UInt8),64*i≤a.length→absorb i h (a++b)=absorb i h a
 | 0,h,a,b,_=>rfl
 | i+1,h,a,b,hl=>by
  simp only[absorb]
  rw[zZs (by omega),List.drop_append_of_le_length (by omega)]
  exact zFI i _ _ b (by simp;omega)
theorem zEM:∀ (a b:List Nat),a.length=b.length→(Sha.addAll a b).length=a.length
 | [],[],_=>rfl
 | x::a,y::b,h=>by simp[Sha.addAll,zEM a b (by simpa using h)]
 | [],_::_,h=>by simp at h
 | _::_,[],h=>by simp at h
def lenB (n:Nat):List UInt8:=(List.range 8).map fun i=>UInt8.ofNat ((n % 18446744073709551616) >>> (8*(7 - i)))
theorem zEd (n:Nat):(lenB n).length=8:=by simp[lenB]
def zAr (n:Nat):Nat:=(119 - n % 64) % 64
def padB (r:List UInt8) (n:Nat):List UInt8:=r++[128]++List.replicate (zAr r.length) 0++lenB (n*8)
theorem zLS (r:List UInt8) (n:Nat):(padB r n).length=64*((padB r n).length / 64):=by
 have:(padB r n).length=r.length+1+zAr r.length+8:=by simp[padB,zEd];omega
 rw[this]
 unfold zAr
 omega
def outW (x:Nat):List UInt8:=(List.range 4).map fun k=>UInt8.ofNat ((x % 4294967296) >>> (8*(3 - k)))
def outB (hs:List Nat):List UInt8:=hs.flatMap outW
def fin (hs:List Nat) (r:List UInt8) (n:Nat):List UInt8:=outB (absorb ((padB r n).length / 64) hs (padB r n))
def sha (s:List UInt8):List UInt8:=fin Sha.H0 s s.length
theorem zal (a b:Nat) (h:a=b % 64):zAr a=zAr b:=by unfold zAr;omega
theorem zL0 (s:List UInt8):fin (absorb (s.length / 64) Sha.H0 s) (s.drop (64*(s.length / 64))) s.length=sha s:=by
 unfold sha fin
 have hl:(s.drop (64*(s.length / 64))).length=s.length % 64:=by rw[List.length_drop];omega
 have hp:padB s s.length=s.take (64*(s.length / 64))++padB (s.drop (64*(s.length / 64))) s.length:=by
  unfold padB
  rw[zal _ s.length hl]
  simp only[←List.append_assoc]
  rw[List.take_append_drop]
 have hq:=zLS (s.drop (64*(s.length / 64))) s.length
 generalize padB (s.drop (64*(s.length / 64))) s.length=p at *
 generalize padB s s.length=q at *
 subst hp
 have htl:(s.take (64*(s.length / 64))).length=64*(s.length / 64):=by rw[List.length_take];omega
 have hn:(s.take (64*(s.length / 64))++p).length / 64=s.length / 64+p.length / 64:=by
  rw[List.length_append,htl];omega
 rw[hn,zGl]
 congr 1
 rw[zFI _ _ _ _ (by omega),List.drop_append,htl,List.drop_of_length_le (by omega)]
 simp only[Nat.sub_self,List.drop_zero,List.nil_append]
 congr 1
 have:=zFI (s.length / 64) Sha.H0 (s.take (64*(s.length / 64))) (s.drop (64*(s.length / 64))) (by rw[htl];exact Nat.le_refl _)
 rw[List.take_append_drop] at this
 exact this
theorem zIA:∀ (hs:List Nat),(outB hs).length=4*hs.length
 | []=>rfl
 | x::hs=>by
  have:=zIA hs
  simp only[outB,List.flatMap_cons,List.length_append,List.length_cons] at *
  rw[this]
  simp[outW];omega
end Go.X
end
section
namespace Go.X
open Go.Proofs
abbrev zT7:List XO:=[
 ⟨some 4,.p (.mov (C (.int .u32 0))),none⟩]
def zT6:List XO:=zT7
theorem xq247_0e:E3 zT6 zT7:=E3.rfl
abbrev zT9:List XO:=[
 ⟨some 5,.p (.mov (T 0)),none⟩,
 ⟨some 6,.p (.mov (T 1)),none⟩,
 ⟨some 7,.p (.un .neg (T 6)),none⟩,
 ⟨some 8,.call (.func 268) [(T 5),(T 7)],none⟩,
 ⟨some 4,.p (.mov (T 8)),none⟩]
def zT8:List XO:=zT9
theorem xq247_1e:E3 zT8 zT9:=E3.rfl
def xq247:XF:=⟨2,[.tmp 4],
 .seq (.ops zT6) (.seq (.ops zT8) (.ret))⟩
def yq247:=PLift.up (And.intro (@xq247_0e) (@xq247_1e))
theorem cq247:zX Tryz.prog Tryz.f247=some xq247:=by kernel_rfl
abbrev zUN:List XO:=[
 ⟨some 4,.p (.mov (C (.int .u32 0))),none⟩]
def zUM:List XO:=zUN
theorem xq268_0e:E3 zUM zUN:=E3.rfl
abbrev zUP:List XO:=[
 ⟨some 6,.p (.mov (T 1)),none⟩,
 ⟨some 7,.p (.cint .u64 (T 6)),none⟩,
 ⟨some 8,.p (.bin .and (T 7) (C (.int .u64 31))),none⟩,
 ⟨some 5,.p (.mov (T 8)),none⟩]
def zUO:List XO:=zUP
theorem xq268_1e:E3 zUO zUP:=E3.rfl
abbrev zUR:List XO:=[
 ⟨some 9,.p (.mov (T 0)),none⟩,
 ⟨some 10,.p (.mov (T 5)),none⟩,
 ⟨some 11,.p (.bin .shl (T 9) (T 10)),none⟩,
 ⟨some 12,.p (.mov (T 0)),none⟩,
 ⟨some 13,.p (.mov (T 5)),none⟩,
 ⟨some 14,.p (.bin .sub (C (.int .u64 32)) (T 13)),none⟩,
 ⟨some 15,.p (.bin .shr (T 12) (T 14)),none⟩,
 ⟨some 16,.p (.bin .or (T 11) (T 15)),none⟩,
 ⟨some 4,.p (.mov (T 16)),none⟩]
def zUQ:List XO:=zUR
theorem xq268_2e:E3 zUQ zUR:=E3.rfl
def xq268:XF:=⟨2,[.tmp 4],
 .seq (.ops zUM) (.seq (.ops zUO) (.seq (.ops zUQ) (.ret)))⟩
def yq268:=PLift.up (And.intro (@xq268_0e) (And.intro (@xq268_1e) (@xq268_2e)))
theorem cq268:zX Tryz.prog Tryz.f268=some xq268:=by kernel_rfl
abbrev zTP:List XO:=[
 ⟨some 0,.a (.alloc (List.replicate 64 (.int .u32 0))),none⟩]
def zTO:List XO:=zTP
theorem xq245_0e:E3 zTO zTP:=E3.rfl
abbrev zTR:List XO:=[
 ⟨some 1,.p (.build (List.replicate 64 (.int .u32 0)) [(0,1,(C (.int .u32 1116352408))),(1,1,(C (.int .u32 1899447441))),(2,1,(C (.int .u32 3049323471))),(3,1,(C (.int .u32 3921009573))),(4,1,(C (.int .u32 961987163))),(5,1,(C (.int .u32 1508970993))),(6,1,(C (.int .u32 2453635748))),(7,1,(C (.int .u32 2870763221))),(8,1,(C (.int .u32 3624381080))),(9,1,(C (.int .u32 310598401))),(10,1,(C (.int .u32 607225278))),(11,1,(C (.int .u32 1426881987))),(12,1,(C (.int .u32 1925078388))),(13,1,(C (.int .u32 2162078206))),(14,1,(C (.int .u32 2614888103))),(15,1,(C (.int .u32 3248222580))),(16,1,(C (.int .u32 3835390401))),(17,1,(C (.int .u32 4022224774))),(18,1,(C (.int .u32 264347078))),(19,1,(C (.int .u32 604807628))),(20,1,(C (.int .u32 770255983))),(21,1,(C (.int .u32 1249150122))),(22,1,(C (.int .u32 1555081692))),(23,1,(C (.int .u32 1996064986))),(24,1,(C (.int .u32 2554220882))),(25,1,(C (.int .u32 2821834349))),(26,1,(C (.int .u32 2952996808))),(27,1,(C (.int .u32 3210313671))),(28,1,(C (.int .u32 3336571891))),(29,1,(C (.int .u32 3584528711))),(30,1,(C (.int .u32 113926993))),(31,1,(C (.int .u32 338241895))),(32,1,(C (.int .u32 666307205))),(33,1,(C (.int .u32 773529912))),(34,1,(C (.int .u32 1294757372))),(35,1,(C (.int .u32 1396182291))),(36,1,(C (.int .u32 1695183700))),(37,1,(C (.int .u32 1986661051))),(38,1,(C (.int .u32 2177026350))),(39,1,(C (.int .u32 2456956037))),(40,1,(C (.int .u32 2730485921))),(41,1,(C (.int .u32 2820302411))),(42,1,(C (.int .u32 3259730800))),(43,1,(C (.int .u32 3345764771))),(44,1,(C (.int .u32 3516065817))),(45,1,(C (.int .u32 3600352804))),(46,1,(C (.int .u32 4094571909))),(47,1,(C (.int .u32 275423344))),(48,1,(C (.int .u32 430227734))),(49,1,(C (.int .u32 506948616))),(50,1,(C (.int .u32 659060556))),(51,1,(C (.int .u32 883997877))),(52,1,(C (.int .u32 958139571))),(53,1,(C (.int .u32 1322822218))),(54,1,(C (.int .u32 1537002063))),(55,1,(C (.int .u32 1747873779))),(56,1,(C (.int .u32 1955562222))),(57,1,(C (.int .u32 2024104815))),(58,1,(C (.int .u32 2227730452))),(59,1,(C (.int .u32 2361852424))),(60,1,(C (.int .u32 2428436474))),(61,1,(C (.int .u32 2756734187))),(62,1,(C (.int .u32 3204031479))),(63,1,(C (.int .u32 3329325298)))]),none⟩,
 ⟨none,.e (.store 64 (T 0) (T 1)),none⟩]
def zTQ:List XO:=zTR
theorem xq245_1e:E3 zTQ zTR:=E3.rfl
def xq245:XF:=⟨0,[.cellN 0 64],
 .seq (.ops zTO) (.seq (.ops zTQ) (.ret))⟩
def yq245:=PLift.up (And.intro (@xq245_0e) (@xq245_1e))
theorem cq245:zX Tryz.prog Tryz.f245=some xq245:=by kernel_rfl
abbrev zSW:List XO:=[
 ⟨some 0,.a (.alloc (List.replicate 8 (.int .u32 0))),none⟩]
def zSV:List XO:=zSW
theorem xq221_0e:E3 zSV zSW:=E3.rfl
abbrev zSY:List XO:=[
 ⟨some 1,.p (.build (List.replicate 8 (.int .u32 0)) [(0,1,(C (.int .u32 1779033703))),(1,1,(C (.int .u32 3144134277))),(2,1,(C (.int .u32 1013904242))),(3,1,(C (.int .u32 2773480762))),(4,1,(C (.int .u32 1359893119))),(5,1,(C (.int .u32 2600822924))),(6,1,(C (.int .u32 528734635))),(7,1,(C (.int .u32 1541459225)))]),none⟩,
 ⟨none,.e (.store 8 (T 0) (T 1)),none⟩]
def zSX:List XO:=zSY
theorem xq221_1e:E3 zSX zSY:=E3.rfl
def xq221:XF:=⟨0,[.cellN 0 8],
 .seq (.ops zSV) (.seq (.ops zSX) (.ret))⟩
def yq221:=PLift.up (And.intro (@xq221_0e) (@xq221_1e))
theorem cq221:zX Tryz.prog Tryz.f221=some xq221:=by kernel_rfl
abbrev zTT:List XO:=[
 ⟨some 2,.a (.alloc (List.replicate 64 (.int .u32 0))),none⟩]
def zTS:List XO:=zTT
theorem xq246_0e:E3 zTS zTT:=E3.rfl
abbrev zTm:List XO:=[
 ⟨some 3,.a (.alloc (List.replicate 64 (.int .u32 0))),none⟩]
def zTU:List XO:=zTm
theorem xq246_1e:E3 zTU zTm:=E3.rfl
abbrev zTr:List XO:=[
 ⟨some 11,.p (.mov (C (.int .i64 0))),none⟩]
def zTn:List XO:=zTr
theorem xq246_2e:E3 zTn zTr:=E3.rfl
abbrev zTt:List XO:=[
 ⟨some 12,.p (.bin .lss (T 11) (C (.int .i64 16))),none⟩]
def zTs:List XO:=zTt
theorem xq246_3e:E3 zTs zTt:=E3.rfl
abbrev zTv:List XO:=[
 ⟨some 13,.p (.mov (T 11)),none⟩,
 ⟨some 4,.p (.mov (T 13)),none⟩]
def zTu:List XO:=zTv
theorem xq246_4e:E3 zTu zTv:=E3.rfl
abbrev zTx:List XO:=[
 ⟨some 14,.p (.mov (C (.int .i64 0))),none⟩]
def zTw:List XO:=zTx
theorem xq246_5e:E3 zTw zTx:=E3.rfl
abbrev zTz:List XO:=[
 ⟨some 15,.p (.bin .lss (T 14) (C (.int .i64 4))),none⟩]
def zTy:List XO:=zTz
theorem xq246_6e:E3 zTy zTz:=E3.rfl
abbrev zT1:List XO:=[
 ⟨some 16,.p (.mov (T 14)),none⟩,
 ⟨some 5,.p (.mov (T 16)),none⟩]
def zT0:List XO:=zT1
theorem xq246_7e:E3 zT0 zT1:=E3.rfl
abbrev zT3:List XO:=[
 ⟨some 17,.p (.mov (T 4)),none⟩,
 ⟨some 18,.p (.mov (T 4)),none⟩,
 ⟨some 19,.p (.iaddrA 64 1 (T 3) (T 18)),none⟩,
 ⟨some 20,.r (.load1 (T 19)),none⟩,
 ⟨some 21,.p (.bin .shl (T 20) (C (.int .u64 8))),none⟩,
 ⟨some 22,.p (.mov (T 0)),none⟩,
 ⟨some 23,.p (.mov (T 4)),none⟩,
 ⟨some 24,.p (.bin .mul (C (.int .i64 4)) (T 23)),none⟩,
 ⟨some 25,.p (.mov (T 5)),none⟩,
 ⟨some 26,.p (.bin .add (T 24) (T 25)),none⟩,
 ⟨some 27,.p (.iaddrS 1 (T 22) (T 26)),none⟩,
 ⟨some 28,.r (.load1 (T 27)),none⟩,
 ⟨some 29,.p (.cint .u32 (T 28)),none⟩,
 ⟨some 30,.p (.bin .or (T 21) (T 29)),none⟩,
 ⟨some 31,.p (.iaddrA 64 1 (T 3) (T 17)),none⟩,
 ⟨none,.e (.store 1 (T 31) (T 30)),none⟩]
def zT2:List XO:=zT3
theorem xq246_8e:E3 zT2 zT3:=E3.rfl
abbrev zT5:List XO:=[
 ⟨some 32,.p (.bin .add (T 14) (C (.int .i64 1))),none⟩,
 ⟨some 14,.p (.mov (T 32)),none⟩]
def zT4:List XO:=zT5
theorem xq246_9e:E3 zT4 zT5:=E3.rfl
def zJG:XC :=
 .seq (.ops zTy) (.seq (.cond (T 15) (.skip) (.exit 2)) (.seq (.block 3 (.seq (.ops zT0) (.draw zT2 []))) (.ops zT4)))
def zJF:XC:=zJG
theorem zaY {pr:Prog} {k:List KI} {Q:XE→Fr→Heap→Prop} {t:Fr} {h:Heap} (hw:wpk pr zJG k Q t h):wpk pr zJF k Q t h:=hw
abbrev zTW:List XO:=[
 ⟨some 33,.p (.bin .add (T 11) (C (.int .i64 1))),none⟩,
 ⟨some 11,.p (.mov (T 33)),none⟩]
def zTV:List XO:=zTW
theorem zaZ:E3 zTV zTW:=E3.rfl
def zGb:XC :=
 .seq (.ops zTs) (.seq (.cond (T 12) (.skip) (.exit 0)) (.seq (.block 1 (.seq (.ops zTu) (.seq (.ops zTw) (.block 2 (.loop zJF))))) (.ops zTV)))
def zJH:XC:=zGb
theorem zTX {pr:Prog} {k:List KI} {Q:XE→Fr→Heap→Prop} {t:Fr} {h:Heap} (hw:wpk pr zGb k Q t h):wpk pr zJH k Q t h:=hw
abbrev zTZ:List XO:=[
 ⟨some 6,.p (.mov (C (.int .i64 16))),none⟩]
def zTY:List XO:=zTZ
theorem zaa:E3 zTY zTZ:=E3.rfl
abbrev zTb:List XO:=[
 ⟨some 34,.p (.mov (T 6)),none⟩,
 ⟨some 35,.p (.bin .lss (T 34) (C (.int .i64 64))),none⟩]
def zTa:List XO:=zTb
theorem zab:E3 zTa zTb:=E3.rfl
abbrev zTd:List XO:=[
 ⟨some 38,.p (.mov (T 6)),none⟩,
 ⟨some 39,.p (.bin .sub (T 38) (C (.int .i64 15))),none⟩,
 ⟨some 40,.p (.iaddrA 64 1 (T 3) (T 39)),none⟩,
 ⟨some 41,.r (.load1 (T 40)),none⟩,
 ⟨some 42,.p (.mov (T 6)),none⟩,
 ⟨some 43,.p (.bin .sub (T 42) (C (.int .i64 2))),none⟩,
 ⟨some 44,.p (.iaddrA 64 1 (T 3) (T 43)),none⟩,
 ⟨some 45,.r (.load1 (T 44)),none⟩,
 ⟨some 7,.p (.mov (T 41)),none⟩,
 ⟨some 8,.p (.mov (T 45)),none⟩]
def zTc:List XO:=zTd
theorem zac:E3 zTc zTd:=E3.rfl
abbrev zTf:List XO:=[
 ⟨some 46,.p (.mov (T 7)),none⟩,
 ⟨some 47,.call (.func 247) [(T 46),(C (.int .i64 7))],none⟩,
 ⟨some 48,.p (.mov (T 7)),none⟩,
 ⟨some 49,.call (.func 247) [(T 48),(C (.int .i64 18))],none⟩,
 ⟨some 50,.p (.bin .xor (T 47) (T 49)),none⟩,
 ⟨some 51,.p (.mov (T 7)),none⟩,
 ⟨some 52,.p (.bin .shr (T 51) (C (.int .u64 3))),none⟩,
 ⟨some 53,.p (.bin .xor (T 50) (T 52)),none⟩,
 ⟨some 9,.p (.mov (T 53)),none⟩]
def zTe:List XO:=zTf
theorem zad:E3 zTe zTf:=E3.rfl
abbrev zTh:List XO:=[
 ⟨some 54,.p (.mov (T 8)),none⟩,
 ⟨some 55,.call (.func 247) [(T 54),(C (.int .i64 17))],none⟩,
 ⟨some 56,.p (.mov (T 8)),none⟩,
 ⟨some 57,.call (.func 247) [(T 56),(C (.int .i64 19))],none⟩,
 ⟨some 58,.p (.bin .xor (T 55) (T 57)),none⟩,
 ⟨some 59,.p (.mov (T 8)),none⟩,
 ⟨some 60,.p (.bin .shr (T 59) (C (.int .u64 10))),none⟩,
 ⟨some 61,.p (.bin .xor (T 58) (T 60)),none⟩,
 ⟨some 10,.p (.mov (T 61)),none⟩]
def zTg:List XO:=zTh
theorem zae:E3 zTg zTh:=E3.rfl
abbrev zTj:List XO:=[
 ⟨some 62,.p (.mov (T 6)),none⟩,
 ⟨some 63,.p (.mov (T 6)),none⟩,
 ⟨some 64,.p (.bin .sub (T 63) (C (.int .i64 16))),none⟩,
 ⟨some 65,.p (.iaddrA 64 1 (T 3) (T 64)),none⟩,
 ⟨some 66,.r (.load1 (T 65)),none⟩,
 ⟨some 67,.p (.mov (T 9)),none⟩,
 ⟨some 68,.p (.bin .add (T 66) (T 67)),none⟩,
 ⟨some 69,.p (.mov (T 6)),none⟩,
 ⟨some 70,.p (.bin .sub (T 69) (C (.int .i64 7))),none⟩,
 ⟨some 71,.p (.iaddrA 64 1 (T 3) (T 70)),none⟩,
 ⟨some 72,.r (.load1 (T 71)),none⟩,
 ⟨some 73,.p (.bin .add (T 68) (T 72)),none⟩,
 ⟨some 74,.p (.mov (T 10)),none⟩,
 ⟨some 75,.p (.bin .add (T 73) (T 74)),none⟩,
 ⟨some 76,.p (.iaddrA 64 1 (T 3) (T 62)),none⟩,
 ⟨none,.e (.store 1 (T 76) (T 75)),none⟩]
def zTi:List XO:=zTj
theorem zaf:E3 zTi zTj:=E3.rfl
abbrev zTl:List XO:=[
 ⟨some 36,.p (.mov (T 6)),none⟩,
 ⟨some 37,.p (.bin .add (T 36) (C (.int .i64 1))),none⟩,
 ⟨some 6,.p (.mov (T 37)),none⟩]
def zTk:List XO:=zTl
theorem zag:E3 zTk zTl:=E3.rfl
def zGc:XC :=
 .seq (.seq (.ops zTa) (.cond (T 35) (.skip) (.exit 4))) (.seq (.block 5 (.seq (.draw zTc []) (.seq (.ops zTe) (.seq (.ops zTg) (.draw zTi []))))) (.ops zTk))
def zJI:XC:=zGc
theorem zTo {pr:Prog} {k:List KI} {Q:XE→Fr→Heap→Prop} {t:Fr} {h:Heap} (hw:wpk pr zGc k Q t h):wpk pr zJI k Q t h:=hw
abbrev zTq:List XO:=[
 ⟨some 77,.r (.loadN 64 (T 3)),none⟩,
 ⟨none,.e (.store 64 (T 2) (T 77)),none⟩]
def zTp:List XO:=zTq
theorem zah:E3 zTp zTq:=E3.rfl
def xq246:XF:=⟨1,[.cellN 2 64],
 .seq (.ops zTS) (.seq (.ops zTU) (.seq (.seq (.ops zTn) (.block 0 (.loop zJH))) (.seq (.seq (.ops zTY) (.block 4 (.loop zJI))) (.seq (.ops zTp) (.ret)))))⟩
def yq246:=PLift.up (And.intro (And.intro (And.intro (And.intro (@xq246_0e) (@xq246_1e)) (And.intro (@xq246_2e) (@xq246_3e))) (And.intro (And.intro (@xq246_4e) (@xq246_5e)) (And.intro (@xq246_6e) (And.intro (@xq246_7e) (@xq246_8e))))) (And.intro (And.intro (And.intro (@xq246_9e) (@zaZ)) (And.intro (@zaa) (And.intro (@zab) (@zac)))) (And.intro (And.intro (@zad) (@zae)) (And.intro (@zaf) (And.intro (@zag) (@zah))))))
theorem cq246:zX Tryz.prog Tryz.f246=some xq246:=by kernel_rfl
abbrev zSa:List XO:=[
 ⟨some 14,.call (.func 245) [],none⟩,
 ⟨some 15,.p (.mov (T 1)),none⟩,
 ⟨some 16,.call (.func 246) [(T 15)],none⟩,
 ⟨some 4,.a (.alloc (List.replicate 64 (.int .u32 0))),none⟩,
 ⟨some 5,.a (.alloc (List.replicate 64 (.int .u32 0))),none⟩,
 ⟨none,.e (.store 64 (T 4) (T 14)),none⟩,
 ⟨none,.e (.store 64 (T 5) (T 16)),none⟩]
def zSZ:List XO:=zSa
theorem xq222_0e:E3 zSZ zSa:=E3.rfl
abbrev zSq:List XO:=[
 ⟨some 17,.p (.mov (T 0)),none⟩,
 ⟨some 18,.p (.nilc (T 17)),none⟩,
 ⟨some 19,.p (.faddr 0 (T 18)),none⟩,
 ⟨some 20,.r (.loadN 8 (T 19)),none⟩,
 ⟨some 6,.a (.alloc (List.replicate 8 (.int .u32 0))),none⟩,
 ⟨none,.e (.store 8 (T 6) (T 20)),none⟩]
def zSb:List XO:=zSq
theorem xq222_1e:E3 zSb zSq:=E3.rfl
abbrev zSs:List XO:=[
 ⟨some 21,.p (.mov (C (.int .i64 0))),none⟩]
def zSr:List XO:=zSs
theorem xq222_2e:E3 zSr zSs:=E3.rfl
abbrev zSu:List XO:=[
 ⟨some 22,.p (.bin .lss (T 21) (C (.int .i64 64))),none⟩]
def zSt:List XO:=zSu
theorem xq222_3e:E3 zSt zSu:=E3.rfl
abbrev zSw:List XO:=[
 ⟨some 23,.p (.mov (T 21)),none⟩,
 ⟨some 7,.p (.mov (T 23)),none⟩]
def zSv:List XO:=zSw
theorem xq222_4e:E3 zSv zSw:=E3.rfl
abbrev zSy:List XO:=[
 ⟨some 24,.p (.iaddrA 8 1 (T 6) (C (.int .i64 4))),none⟩,
 ⟨some 25,.r (.load1 (T 24)),none⟩,
 ⟨some 26,.call (.func 247) [(T 25),(C (.int .i64 6))],none⟩,
 ⟨some 27,.p (.iaddrA 8 1 (T 6) (C (.int .i64 4))),none⟩,
 ⟨some 28,.r (.load1 (T 27)),none⟩,
 ⟨some 29,.call (.func 247) [(T 28),(C (.int .i64 11))],none⟩,
 ⟨some 30,.p (.bin .xor (T 26) (T 29)),none⟩,
 ⟨some 31,.p (.iaddrA 8 1 (T 6) (C (.int .i64 4))),none⟩,
 ⟨some 32,.r (.load1 (T 31)),none⟩,
 ⟨some 33,.call (.func 247) [(T 32),(C (.int .i64 25))],none⟩,
 ⟨some 34,.p (.bin .xor (T 30) (T 33)),none⟩,
 ⟨some 8,.p (.mov (T 34)),none⟩]
def zSx:List XO:=zSy
theorem xq222_5e:E3 zSx zSy:=E3.rfl
abbrev zS0:List XO:=[
 ⟨some 35,.p (.iaddrA 8 1 (T 6) (C (.int .i64 4))),none⟩,
 ⟨some 36,.r (.load1 (T 35)),none⟩,
 ⟨some 37,.p (.iaddrA 8 1 (T 6) (C (.int .i64 5))),none⟩,
 ⟨some 38,.r (.load1 (T 37)),none⟩,
 ⟨some 39,.p (.bin .and (T 36) (T 38)),none⟩,
 ⟨some 40,.p (.iaddrA 8 1 (T 6) (C (.int .i64 4))),none⟩,
 ⟨some 41,.r (.load1 (T 40)),none⟩,
 ⟨some 42,.p (.un .xor (T 41)),none⟩,
 ⟨some 43,.p (.iaddrA 8 1 (T 6) (C (.int .i64 6))),none⟩,
 ⟨some 44,.r (.load1 (T 43)),none⟩,
 ⟨some 45,.p (.bin .and (T 42) (T 44)),none⟩,
 ⟨some 46,.p (.bin .xor (T 39) (T 45)),none⟩,
 ⟨some 9,.p (.mov (T 46)),none⟩]
def zSz:List XO:=zS0
theorem xq222_6e:E3 zSz zS0:=E3.rfl
abbrev zS2:List XO:=[
 ⟨some 47,.p (.iaddrA 8 1 (T 6) (C (.int .i64 7))),none⟩,
 ⟨some 48,.r (.load1 (T 47)),none⟩,
 ⟨some 49,.p (.mov (T 8)),none⟩,
 ⟨some 50,.p (.bin .add (T 48) (T 49)),none⟩,
 ⟨some 51,.p (.mov (T 9)),none⟩,
 ⟨some 52,.p (.bin .add (T 50) (T 51)),none⟩,
 ⟨some 53,.p (.mov (T 7)),none⟩,
 ⟨some 54,.p (.iaddrA 64 1 (T 4) (T 53)),none⟩,
 ⟨some 55,.r (.load1 (T 54)),none⟩,
 ⟨some 56,.p (.bin .add (T 52) (T 55)),none⟩,
 ⟨some 57,.p (.mov (T 7)),none⟩,
 ⟨some 58,.p (.iaddrA 64 1 (T 5) (T 57)),none⟩,
 ⟨some 59,.r (.load1 (T 58)),none⟩,
 ⟨some 60,.p (.bin .add (T 56) (T 59)),none⟩,
 ⟨some 10,.p (.mov (T 60)),none⟩]
def zS1:List XO:=zS2
theorem xq222_7e:E3 zS1 zS2:=E3.rfl
abbrev zS4:List XO:=[
 ⟨some 61,.p (.iaddrA 8 1 (T 6) (C (.int .i64 0))),none⟩,
 ⟨some 62,.r (.load1 (T 61)),none⟩,
 ⟨some 63,.call (.func 247) [(T 62),(C (.int .i64 2))],none⟩,
 ⟨some 64,.p (.iaddrA 8 1 (T 6) (C (.int .i64 0))),none⟩,
 ⟨some 65,.r (.load1 (T 64)),none⟩,
 ⟨some 66,.call (.func 247) [(T 65),(C (.int .i64 13))],none⟩,
 ⟨some 67,.p (.bin .xor (T 63) (T 66)),none⟩,
 ⟨some 68,.p (.iaddrA 8 1 (T 6) (C (.int .i64 0))),none⟩,
 ⟨some 69,.r (.load1 (T 68)),none⟩,
 ⟨some 70,.call (.func 247) [(T 69),(C (.int .i64 22))],none⟩,
 ⟨some 71,.p (.bin .xor (T 67) (T 70)),none⟩,
 ⟨some 11,.p (.mov (T 71)),none⟩]
def zS3:List XO:=zS4
theorem xq222_8e:E3 zS3 zS4:=E3.rfl
abbrev zS6:List XO:=[
 ⟨some 72,.p (.iaddrA 8 1 (T 6) (C (.int .i64 0))),none⟩,
 ⟨some 73,.r (.load1 (T 72)),none⟩,
 ⟨some 74,.p (.iaddrA 8 1 (T 6) (C (.int .i64 1))),none⟩,
 ⟨some 75,.r (.load1 (T 74)),none⟩,
 ⟨some 76,.p (.bin .and (T 73) (T 75)),none⟩,
 ⟨some 77,.p (.iaddrA 8 1 (T 6) (C (.int .i64 0))),none⟩,
 ⟨some 78,.r (.load1 (T 77)),none⟩,
 ⟨some 79,.p (.iaddrA 8 1 (T 6) (C (.int .i64 2))),none⟩,
 ⟨some 80,.r (.load1 (T 79)),none⟩,
 ⟨some 81,.p (.bin .and (T 78) (T 80)),none⟩,
 ⟨some 82,.p (.bin .xor (T 76) (T 81)),none⟩,
 ⟨some 83,.p (.iaddrA 8 1 (T 6) (C (.int .i64 1))),none⟩,
 ⟨some 84,.r (.load1 (T 83)),none⟩,
 ⟨some 85,.p (.iaddrA 8 1 (T 6) (C (.int .i64 2))),none⟩,
 ⟨some 86,.r (.load1 (T 85)),none⟩,
 ⟨some 87,.p (.bin .and (T 84) (T 86)),none⟩,
 ⟨some 88,.p (.bin .xor (T 82) (T 87)),none⟩,
 ⟨some 12,.p (.mov (T 88)),none⟩]
def zS5:List XO:=zS6
theorem xq222_9e:E3 zS5 zS6:=E3.rfl
abbrev zSd:List XO:=[
 ⟨some 89,.p (.mov (T 10)),none⟩,
 ⟨some 90,.p (.mov (T 11)),none⟩,
 ⟨some 91,.p (.bin .add (T 89) (T 90)),none⟩,
 ⟨some 92,.p (.mov (T 12)),none⟩,
 ⟨some 93,.p (.bin .add (T 91) (T 92)),none⟩,
 ⟨some 94,.p (.iaddrA 8 1 (T 6) (C (.int .i64 0))),none⟩,
 ⟨some 95,.r (.load1 (T 94)),none⟩,
 ⟨some 96,.p (.iaddrA 8 1 (T 6) (C (.int .i64 1))),none⟩,
 ⟨some 97,.r (.load1 (T 96)),none⟩,
 ⟨some 98,.p (.iaddrA 8 1 (T 6) (C (.int .i64 2))),none⟩,
 ⟨some 99,.r (.load1 (T 98)),none⟩,
 ⟨some 100,.p (.iaddrA 8 1 (T 6) (C (.int .i64 3))),none⟩,
 ⟨some 101,.r (.load1 (T 100)),none⟩,
 ⟨some 102,.p (.mov (T 10)),none⟩,
 ⟨some 103,.p (.bin .add (T 101) (T 102)),none⟩,
 ⟨some 104,.p (.iaddrA 8 1 (T 6) (C (.int .i64 4))),none⟩,
 ⟨some 105,.r (.load1 (T 104)),none⟩,
 ⟨some 106,.p (.iaddrA 8 1 (T 6) (C (.int .i64 5))),none⟩,
 ⟨some 107,.r (.load1 (T 106)),none⟩,
 ⟨some 108,.p (.iaddrA 8 1 (T 6) (C (.int .i64 6))),none⟩,
 ⟨some 109,.r (.load1 (T 108)),none⟩,
 ⟨some 110,.p (.build (List.replicate 8 (.int .u32 0)) [(0,1,(T 93)),(1,1,(T 95)),(2,1,(T 97)),(3,1,(T 99)),(4,1,(T 103)),(5,1,(T 105)),(6,1,(T 107)),(7,1,(T 109))]),none⟩,
 ⟨none,.e (.store 8 (T 6) (T 110)),none⟩]
def zSc:List XO:=zSd
theorem zaO:E3 zSc zSd:=E3.rfl
abbrev zSf:List XO:=[
 ⟨some 111,.p (.bin .add (T 21) (C (.int .i64 1))),none⟩,
 ⟨some 21,.p (.mov (T 111)),none⟩]
def zSe:List XO:=zSf
theorem zaP:E3 zSe zSf:=E3.rfl
def zI7:XC :=
 .seq (.ops zSt) (.seq (.cond (T 22) (.skip) (.exit 0)) (.seq (.block 1 (.seq (.ops zSv) (.seq (.draw zSx [(4,(2,[])),(8,(2,[])),(8,(5,[]))]) (.seq (.ops zSz) (.seq (.draw zS1 []) (.seq (.draw zS3 [(4,(2,[])),(8,(2,[])),(8,(5,[]))]) (.seq (.ops zS5) (.ops zSc)))))))) (.ops zSe)))
def zI6:XC:=zI7
theorem zaQ {pr:Prog} {k:List KI} {Q:XE→Fr→Heap→Prop} {t:Fr} {h:Heap} (hw:wpk pr zI7 k Q t h):wpk pr zI6 k Q t h:=hw
abbrev zSh:List XO:=[
 ⟨some 112,.p (.mov (C (.int .i64 0))),none⟩]
def zSg:List XO:=zSh
theorem zaR:E3 zSg zSh:=E3.rfl
abbrev zSj:List XO:=[
 ⟨some 113,.p (.bin .lss (T 112) (C (.int .i64 8))),none⟩]
def zSi:List XO:=zSj
theorem zaS:E3 zSi zSj:=E3.rfl
abbrev zSl:List XO:=[
 ⟨some 114,.p (.mov (T 112)),none⟩,
 ⟨some 13,.p (.mov (T 114)),none⟩]
def zSk:List XO:=zSl
theorem zaT:E3 zSk zSl:=E3.rfl
abbrev zSn:List XO:=[
 ⟨some 115,.p (.mov (T 0)),none⟩,
 ⟨some 116,.p (.mov (T 13)),none⟩,
 ⟨some 117,.p (.nilc (T 115)),none⟩,
 ⟨some 118,.p (.faddr 0 (T 117)),none⟩,
 ⟨some 119,.p (.iaddrA 8 1 (T 118) (T 116)),none⟩,
 ⟨some 120,.r (.load1 (T 119)),none⟩,
 ⟨some 121,.p (.mov (T 13)),none⟩,
 ⟨some 122,.p (.iaddrA 8 1 (T 6) (T 121)),none⟩,
 ⟨some 123,.r (.load1 (T 122)),none⟩,
 ⟨some 124,.p (.bin .add (T 120) (T 123)),none⟩,
 ⟨some 125,.p (.nilc (T 115)),none⟩,
 ⟨some 126,.p (.faddr 0 (T 125)),none⟩,
 ⟨some 127,.p (.iaddrA 8 1 (T 126) (T 116)),none⟩,
 ⟨none,.e (.store 1 (T 127) (T 124)),none⟩]
def zSm:List XO:=zSn
theorem zaU:E3 zSm zSn:=E3.rfl
abbrev zSp:List XO:=[
 ⟨some 128,.p (.bin .add (T 112) (C (.int .i64 1))),none⟩,
 ⟨some 112,.p (.mov (T 128)),none⟩]
def zSo:List XO:=zSp
theorem zaV:E3 zSo zSp:=E3.rfl
def zI9:XC :=
 .seq (.ops zSi) (.seq (.cond (T 113) (.skip) (.exit 2)) (.seq (.block 3 (.seq (.ops zSk) (.draw zSm []))) (.ops zSo)))
def zI8:XC:=zI9
theorem zaW {pr:Prog} {k:List KI} {Q:XE→Fr→Heap→Prop} {t:Fr} {h:Heap} (hw:wpk pr zI9 k Q t h):wpk pr zI8 k Q t h:=hw
def zDe:XF:=⟨2,[],
 .seq (.ops zSZ) (.seq (.ops zSb) (.seq (.seq (.ops zSr) (.block 0 (.loop zI6))) (.seq (.ops zSg) (.block 2 (.loop zI8)))))⟩
def yq222:=PLift.up (And.intro (And.intro (And.intro (And.intro (@xq222_0e) (@xq222_1e)) (And.intro (@xq222_2e) (@xq222_3e))) (And.intro (And.intro (@xq222_4e) (@xq222_5e)) (And.intro (@xq222_6e) (@xq222_7e)))) (And.intro (And.intro (And.intro (@xq222_8e) (@xq222_9e)) (And.intro (@zaO) (@zaP))) (And.intro (And.intro (@zaR) (@zaS)) (And.intro (@zaT) (And.intro (@zaU) (@zaV))))))
theorem cq222:zX Tryz.prog Tryz.f222=some zDe:=by kernel_rfl
abbrev zQk:List XO:=[
 ⟨some 0,.p (.mov (C (.pointer none))),none⟩]
def zQj:List XO:=zQk
theorem xq194_0e:E3 zQj zQk:=E3.rfl
abbrev zQm:List XO:=[
 ⟨some 1,.call (.func 221) [],none⟩,
 ⟨some 2,.p (.build [(.int .u32 0),(.int .u32 0),(.int .u32 0),(.int .u32 0),(.int .u32 0),(.int .u32 0),(.int .u32 0),(.int .u32 0),(.slice none 0 0),(.int .u64 0)] [(0,8,(T 1))]),none⟩,
 ⟨some 3,.a (.box (T 2)),none⟩,
 ⟨some 0,.p (.mov (T 3)),none⟩]
def zQl:List XO:=zQm
theorem xq194_1e:E3 zQl zQm:=E3.rfl
def xq194:XF:=⟨0,[.tmp 0],
 .seq (.ops zQj) (.seq (.ops zQl) (.ret))⟩
def yq194:=PLift.up (And.intro (@xq194_0e) (@xq194_1e))
theorem cq194:zX Tryz.prog Tryz.f194=some xq194:=by kernel_rfl
abbrev zQo:List XO:=[
 ⟨some 4,.p (.mov (T 0)),none⟩,
 ⟨some 5,.p (.eql false .nptr (T 4) (C (.pointer none))),none⟩]
def zQn:List XO:=zQo
theorem xq195_0e:E3 zQn zQo:=E3.rfl
abbrev zQq:List XO:=[
 ⟨some 6,.p (.mov (T 0)),none⟩,
 ⟨some 7,.p (.nilc (T 6)),none⟩,
 ⟨some 8,.p (.faddr 9 (T 7)),none⟩,
 ⟨some 9,.r (.load1 (T 8)),none⟩,
 ⟨some 10,.p (.mov (T 1)),none⟩,
 ⟨some 11,.p (.lenS (T 10)),none⟩,
 ⟨some 12,.p (.cint .u64 (T 11)),none⟩,
 ⟨some 13,.p (.bin .add (T 9) (T 12)),none⟩,
 ⟨some 14,.p (.nilc (T 6)),none⟩,
 ⟨some 15,.p (.faddr 9 (T 14)),none⟩,
 ⟨none,.e (.store 1 (T 15) (T 13)),none⟩]
def zQp:List XO:=zQq
theorem xq195_1e:E3 zQp zQq:=E3.rfl
abbrev zQs:List XO:=[
 ⟨some 16,.p (.mov (T 0)),none⟩,
 ⟨some 17,.p (.mov (T 0)),none⟩,
 ⟨some 18,.p (.nilc (T 17)),none⟩,
 ⟨some 19,.p (.faddr 8 (T 18)),none⟩,
 ⟨some 20,.r (.load1 (T 19)),none⟩,
 ⟨some 21,.p (.mov (T 1)),none⟩,
 ⟨some 22,.e (.append 1 1 (T 20) (T 21)),none⟩,
 ⟨some 23,.p (.nilc (T 16)),none⟩,
 ⟨some 24,.p (.faddr 8 (T 23)),none⟩,
 ⟨none,.e (.store 1 (T 24) (T 22)),none⟩]
def zQr:List XO:=zQs
theorem xq195_2e:E3 zQr zQs:=E3.rfl
abbrev zQu:List XO:=[
 ⟨some 25,.p (.mov (T 0)),none⟩,
 ⟨some 26,.p (.nilc (T 25)),none⟩,
 ⟨some 27,.p (.faddr 8 (T 26)),none⟩,
 ⟨some 28,.r (.load1 (T 27)),none⟩,
 ⟨some 29,.p (.lenV (T 28)),none⟩,
 ⟨some 30,.p (.bin .geq (T 29) (C (.int .i64 64))),none⟩]
def zQt:List XO:=zQu
theorem xq195_3e:E3 zQt zQu:=E3.rfl
abbrev zQw:List XO:=[
 ⟨some 31,.p (.mov (T 0)),none⟩,
 ⟨some 32,.p (.mov (T 0)),none⟩,
 ⟨some 33,.p (.nilc (T 32)),none⟩,
 ⟨some 34,.p (.faddr 8 (T 33)),none⟩,
 ⟨some 35,.r (.load1 (T 34)),none⟩,
 ⟨some 36,.p (.slc 1 (T 35) none (some (C (.int .i64 64))) none),none⟩,
 ⟨some 37,.call (.func 222) [(T 31),(T 36)],none⟩]
def zQv:List XO:=zQw
theorem xq195_4e:E3 zQv zQw:=E3.rfl
abbrev zQy:List XO:=[
 ⟨some 38,.p (.mov (T 0)),none⟩,
 ⟨some 39,.p (.mov (T 0)),none⟩,
 ⟨some 40,.p (.nilc (T 39)),none⟩,
 ⟨some 41,.p (.faddr 8 (T 40)),none⟩,
 ⟨some 42,.r (.load1 (T 41)),none⟩,
 ⟨some 43,.p (.slc 1 (T 42) (some (C (.int .i64 64))) none none),none⟩,
 ⟨some 44,.p (.nilc (T 38)),none⟩,
 ⟨some 45,.p (.faddr 8 (T 44)),none⟩,
 ⟨none,.e (.store 1 (T 45) (T 43)),none⟩]
def zQx:List XO:=zQy
theorem xq195_5e:E3 zQx zQy:=E3.rfl
def zIu:XC :=
 .seq (.seq (.ops zQt) (.cond (T 30) (.skip) (.exit 0))) (.block 1 (.seq (.ops zQv) (.ops zQx)))
def zQz:XC:=zIu
theorem xq195_6k {pr:Prog} {k:List KI} {Q:XE→Fr→Heap→Prop} {t:Fr} {h:Heap} (hw:wpk pr zIu k Q t h):wpk pr zQz k Q t h:=hw
def xq195:XF:=⟨2,[],
 .seq (.seq (.ops zQn) (.cond (T 5) (.ret) (.skip))) (.seq (.ops zQp) (.seq (.ops zQr) (.block 0 (.loop zQz))))⟩
def yq195:=PLift.up (And.intro (And.intro (@xq195_0e) (And.intro (@xq195_1e) (@xq195_2e))) (And.intro (@xq195_3e) (And.intro (@xq195_4e) (@xq195_5e))))
theorem cq195:zX Tryz.prog Tryz.f195=some xq195:=by kernel_rfl
abbrev zQ5:List XO:=[
 ⟨some 2,.p (.mov (C (.string (strOf [])))),none⟩]
def zQ4:List XO:=zQ5
theorem xq197_0e:E3 zQ4 zQ5:=E3.rfl
abbrev zRN:List XO:=[
 ⟨some 9,.p (.mov (T 0)),none⟩,
 ⟨some 10,.p (.eql false .nptr (T 9) (C (.pointer none))),none⟩]
def zQ6:List XO:=zRN
theorem xq197_1e:E3 zQ6 zRN:=E3.rfl
abbrev zRf:List XO:=[
 ⟨some 2,.p (.mov (C (.string (strOf [])))),none⟩]
def zRO:List XO:=zRf
theorem xq197_2e:E3 zRO zRf:=E3.rfl
abbrev zRj:List XO:=[
 ⟨some 11,.p (.mov (T 0)),none⟩,
 ⟨some 12,.p (.nilc (T 11)),none⟩,
 ⟨some 13,.p (.faddr 0 (T 12)),none⟩,
 ⟨some 14,.r (.loadN 8 (T 13)),none⟩,
 ⟨some 15,.p (.mov (T 0)),none⟩,
 ⟨some 16,.p (.nilc (T 15)),none⟩,
 ⟨some 17,.p (.faddr 9 (T 16)),none⟩,
 ⟨some 18,.r (.load1 (T 17)),none⟩,
 ⟨some 19,.p (.build [(.int .u32 0),(.int .u32 0),(.int .u32 0),(.int .u32 0),(.int .u32 0),(.int .u32 0),(.int .u32 0),(.int .u32 0),(.slice none 0 0),(.int .u64 0)] [(0,8,(T 14)),(9,1,(T 18))]),none⟩,
 ⟨some 20,.a (.box (T 19)),none⟩,
 ⟨some 3,.p (.mov (T 20)),none⟩]
def zRg:List XO:=zRj
theorem xq197_3e:E3 zRg zRj:=E3.rfl
abbrev zRl:List XO:=[
 ⟨some 21,.p (.mov (T 3)),none⟩,
 ⟨some 22,.p (.mov (T 3)),none⟩,
 ⟨some 23,.p (.nilc (T 22)),none⟩,
 ⟨some 24,.p (.faddr 8 (T 23)),none⟩,
 ⟨some 25,.r (.load1 (T 24)),none⟩,
 ⟨some 26,.p (.mov (T 0)),none⟩,
 ⟨some 27,.p (.nilc (T 26)),none⟩,
 ⟨some 28,.p (.faddr 8 (T 27)),none⟩,
 ⟨some 29,.r (.load1 (T 28)),none⟩,
 ⟨some 30,.e (.append 1 1 (T 25) (T 29)),none⟩,
 ⟨some 31,.a (.bslice [(.int .u8 0)] 1 [(0,1,(C (.int .u8 128)))]),none⟩,
 ⟨some 32,.e (.append 1 1 (T 30) (T 31)),none⟩,
 ⟨some 33,.p (.nilc (T 21)),none⟩,
 ⟨some 34,.p (.faddr 8 (T 33)),none⟩,
 ⟨none,.e (.store 1 (T 34) (T 32)),none⟩]
def zRk:List XO:=zRl
theorem xq197_4e:E3 zRk zRl:=E3.rfl
abbrev zRn:List XO:=[
 ⟨some 35,.p (.mov (T 3)),none⟩,
 ⟨some 36,.p (.nilc (T 35)),none⟩,
 ⟨some 37,.p (.faddr 8 (T 36)),none⟩,
 ⟨some 38,.r (.load1 (T 37)),none⟩,
 ⟨some 39,.p (.lenV (T 38)),none⟩,
 ⟨some 40,.p (.bin .rem (T 39) (C (.int .i64 64))),none⟩,
 ⟨some 41,.p (.eql true .int (T 40) (C (.int .i64 56))),none⟩]
def zRm:List XO:=zRn
theorem xq197_5e:E3 zRm zRn:=E3.rfl
abbrev zRp:List XO:=[
 ⟨some 42,.p (.mov (T 3)),none⟩,
 ⟨some 43,.p (.mov (T 3)),none⟩,
 ⟨some 44,.p (.nilc (T 43)),none⟩,
 ⟨some 45,.p (.faddr 8 (T 44)),none⟩,
 ⟨some 46,.r (.load1 (T 45)),none⟩,
 ⟨some 47,.a (.bslice [(.int .u8 0)] 1 [(0,1,(C (.int .u8 0)))]),none⟩,
 ⟨some 48,.e (.append 1 1 (T 46) (T 47)),none⟩,
 ⟨some 49,.p (.nilc (T 42)),none⟩,
 ⟨some 50,.p (.faddr 8 (T 49)),none⟩,
 ⟨none,.e (.store 1 (T 50) (T 48)),none⟩]
def zRo:List XO:=zRp
theorem xq197_6e:E3 zRo zRp:=E3.rfl
def zI4:XC :=
 .seq (.seq (.ops zRm) (.cond (T 41) (.skip) (.exit 0))) (.block 1 (.ops zRo))
def zI3:XC:=zI4
theorem xq197_7k {pr:Prog} {k:List KI} {Q:XE→Fr→Heap→Prop} {t:Fr} {h:Heap} (hw:wpk pr zI4 k Q t h):wpk pr zI3 k Q t h:=hw
abbrev zRr:List XO:=[
 ⟨some 51,.p (.mov (C (.int .i64 0))),none⟩]
def zRq:List XO:=zRr
theorem xq197_8e:E3 zRq zRr:=E3.rfl
abbrev zRt:List XO:=[
 ⟨some 52,.p (.bin .lss (T 51) (C (.int .i64 8))),none⟩]
def zRs:List XO:=zRt
theorem xq197_9e:E3 zRs zRt:=E3.rfl
abbrev zQ8:List XO:=[
 ⟨some 53,.p (.mov (T 51)),none⟩,
 ⟨some 4,.p (.mov (T 53)),none⟩]
def zQ7:List XO:=zQ8
theorem zZ2:E3 zQ7 zQ8:=E3.rfl
abbrev zRA:List XO:=[
 ⟨some 54,.p (.mov (T 3)),none⟩,
 ⟨some 55,.p (.mov (T 3)),none⟩,
 ⟨some 56,.p (.nilc (T 55)),none⟩,
 ⟨some 57,.p (.faddr 8 (T 56)),none⟩,
 ⟨some 58,.r (.load1 (T 57)),none⟩,
 ⟨some 59,.p (.mov (T 3)),none⟩,
 ⟨some 60,.p (.nilc (T 59)),none⟩,
 ⟨some 61,.p (.faddr 9 (T 60)),none⟩,
 ⟨some 62,.r (.load1 (T 61)),none⟩,
 ⟨some 63,.p (.bin .mul (T 62) (C (.int .u64 8))),none⟩,
 ⟨some 64,.p (.mov (T 4)),none⟩,
 ⟨some 65,.p (.bin .sub (C (.int .i64 7)) (T 64)),none⟩,
 ⟨some 66,.p (.bin .mul (C (.int .i64 8)) (T 65)),none⟩,
 ⟨some 67,.p (.bin .shr (T 63) (T 66)),none⟩,
 ⟨some 68,.p (.cint .u8 (T 67)),none⟩,
 ⟨some 69,.a (.bslice [(.int .u8 0)] 1 [(0,1,(T 68))]),none⟩,
 ⟨some 70,.e (.append 1 1 (T 58) (T 69)),none⟩,
 ⟨some 71,.p (.nilc (T 54)),none⟩,
 ⟨some 72,.p (.faddr 8 (T 71)),none⟩,
 ⟨none,.e (.store 1 (T 72) (T 70)),none⟩]
def zQ9:List XO:=zRA
theorem zZ3:E3 zQ9 zRA:=E3.rfl
abbrev zRC:List XO:=[
 ⟨some 73,.p (.bin .add (T 51) (C (.int .i64 1))),none⟩,
 ⟨some 51,.p (.mov (T 73)),none⟩]
def zRB:List XO:=zRC
theorem zZ4:E3 zRB zRC:=E3.rfl
def zIw:XC :=
 .seq (.ops zRs) (.seq (.cond (T 52) (.skip) (.exit 2)) (.seq (.block 3 (.seq (.ops zQ7) (.draw zQ9 [(4,(16,[])),(8,(16,[]))]))) (.ops zRB)))
def zIv:XC:=zIw
theorem zZ5 {pr:Prog} {k:List KI} {Q:XE→Fr→Heap→Prop} {t:Fr} {h:Heap} (hw:wpk pr zIw k Q t h):wpk pr zIv k Q t h:=hw
abbrev zRE:List XO:=[
 ⟨some 74,.p (.mov (T 3)),none⟩,
 ⟨some 75,.p (.nilc (T 74)),none⟩,
 ⟨some 76,.p (.faddr 8 (T 75)),none⟩,
 ⟨some 77,.r (.load1 (T 76)),none⟩,
 ⟨some 78,.p (.lenV (T 77)),none⟩,
 ⟨some 79,.p (.bin .gtr (T 78) (C (.int .i64 0))),none⟩]
def zRD:List XO:=zRE
theorem zZ6:E3 zRD zRE:=E3.rfl
abbrev zRG:List XO:=[
 ⟨some 80,.p (.mov (T 3)),none⟩,
 ⟨some 81,.p (.mov (T 3)),none⟩,
 ⟨some 82,.p (.nilc (T 81)),none⟩,
 ⟨some 83,.p (.faddr 8 (T 82)),none⟩,
 ⟨some 84,.r (.load1 (T 83)),none⟩,
 ⟨some 85,.p (.slc 1 (T 84) none (some (C (.int .i64 64))) none),none⟩,
 ⟨some 86,.call (.func 222) [(T 80),(T 85)],none⟩]
def zRF:List XO:=zRG
theorem zZ7:E3 zRF zRG:=E3.rfl
abbrev zRI:List XO:=[
 ⟨some 87,.p (.mov (T 3)),none⟩,
 ⟨some 88,.p (.mov (T 3)),none⟩,
 ⟨some 89,.p (.nilc (T 88)),none⟩,
 ⟨some 90,.p (.faddr 8 (T 89)),none⟩,
 ⟨some 91,.r (.load1 (T 90)),none⟩,
 ⟨some 92,.p (.slc 1 (T 91) (some (C (.int .i64 64))) none none),none⟩,
 ⟨some 93,.p (.nilc (T 87)),none⟩,
 ⟨some 94,.p (.faddr 8 (T 93)),none⟩,
 ⟨none,.e (.store 1 (T 94) (T 92)),none⟩]
def zRH:List XO:=zRI
theorem zZ8:E3 zRH zRI:=E3.rfl
def zIy:XC :=
 .seq (.seq (.ops zRD) (.cond (T 79) (.skip) (.exit 4))) (.block 5 (.seq (.ops zRF) (.ops zRH)))
def zIx:XC:=zIy
theorem zZ9 {pr:Prog} {k:List KI} {Q:XE→Fr→Heap→Prop} {t:Fr} {h:Heap} (hw:wpk pr zIy k Q t h):wpk pr zIx k Q t h:=hw
abbrev zRK:List XO:=[
 ⟨some 5,.p (.mov (C (.slice none 0 0))),none⟩]
def zRJ:List XO:=zRK
theorem zaA:E3 zRJ zRK:=E3.rfl
abbrev zRM:List XO:=[
 ⟨some 95,.p (.mov (T 3)),none⟩,
 ⟨some 96,.p (.nilc (T 95)),none⟩,
 ⟨some 97,.p (.faddr 0 (T 96)),none⟩,
 ⟨some 98,.r (.loadN 8 (T 97)),none⟩,
 ⟨some 99,.p (.mov (C (.int .i64 0))),none⟩]
def zRL:List XO:=zRM
theorem zaB:E3 zRL zRM:=E3.rfl
abbrev zRQ:List XO:=[
 ⟨some 100,.p (.bin .lss (T 99) (C (.int .i64 8))),none⟩]
def zRP:List XO:=zRQ
theorem zaC:E3 zRP zRQ:=E3.rfl
abbrev zRS:List XO:=[
 ⟨some 101,.p (.idxA1 8 (T 98) (T 99)),none⟩,
 ⟨some 7,.p (.mov (T 101)),none⟩]
def zRR:List XO:=zRS
theorem zaD:E3 zRR zRS:=E3.rfl
abbrev zRU:List XO:=[
 ⟨some 102,.p (.mov (C (.int .i64 0))),none⟩]
def zRT:List XO:=zRU
theorem zaE:E3 zRT zRU:=E3.rfl
abbrev zRW:List XO:=[
 ⟨some 103,.p (.bin .lss (T 102) (C (.int .i64 4))),none⟩]
def zRV:List XO:=zRW
theorem zaF:E3 zRV zRW:=E3.rfl
abbrev zRY:List XO:=[
 ⟨some 104,.p (.mov (T 102)),none⟩,
 ⟨some 8,.p (.mov (T 104)),none⟩]
def zRX:List XO:=zRY
theorem zaG:E3 zRX zRY:=E3.rfl
abbrev zRa:List XO:=[
 ⟨some 105,.p (.mov (T 5)),none⟩,
 ⟨some 106,.p (.mov (T 7)),none⟩,
 ⟨some 107,.p (.mov (T 8)),none⟩,
 ⟨some 108,.p (.bin .sub (C (.int .i64 3)) (T 107)),none⟩,
 ⟨some 109,.p (.bin .mul (C (.int .i64 8)) (T 108)),none⟩,
 ⟨some 110,.p (.bin .shr (T 106) (T 109)),none⟩,
 ⟨some 111,.p (.cint .u8 (T 110)),none⟩,
 ⟨some 112,.a (.bslice [(.int .u8 0)] 1 [(0,1,(T 111))]),none⟩,
 ⟨some 113,.e (.append 1 1 (T 105) (T 112)),none⟩,
 ⟨some 5,.p (.mov (T 113)),none⟩]
def zRZ:List XO:=zRa
theorem zaH:E3 zRZ zRa:=E3.rfl
abbrev zRc:List XO:=[
 ⟨some 114,.p (.bin .add (T 102) (C (.int .i64 1))),none⟩,
 ⟨some 102,.p (.mov (T 114)),none⟩]
def zRb:List XO:=zRc
theorem zaI:E3 zRb zRc:=E3.rfl
def zI0:XC :=
 .seq (.ops zRV) (.seq (.cond (T 103) (.skip) (.exit 8)) (.seq (.block 9 (.seq (.ops zRX) (.ops zRZ))) (.ops zRb)))
def zIz:XC:=zI0
theorem zaJ {pr:Prog} {k:List KI} {Q:XE→Fr→Heap→Prop} {t:Fr} {h:Heap} (hw:wpk pr zI0 k Q t h):wpk pr zIz k Q t h:=hw
abbrev zRe:List XO:=[
 ⟨some 115,.p (.bin .add (T 99) (C (.int .i64 1))),none⟩,
 ⟨some 99,.p (.mov (T 115)),none⟩]
def zRd:List XO:=zRe
theorem zaK:E3 zRd zRe:=E3.rfl
def zI2:XC :=
 .seq (.ops zRP) (.seq (.cond (T 100) (.skip) (.exit 6)) (.seq (.block 7 (.seq (.ops zRR) (.seq (.ops zRT) (.block 8 (.loop zIz))))) (.ops zRd)))
def zI1:XC:=zI2
theorem zaL {pr:Prog} {k:List KI} {Q:XE→Fr→Heap→Prop} {t:Fr} {h:Heap} (hw:wpk pr zI2 k Q t h):wpk pr zI1 k Q t h:=hw
abbrev zRi:List XO:=[
 ⟨some 116,.p (.mov (T 5)),none⟩,
 ⟨some 117,.r (.cb2s (T 116)),none⟩,
 ⟨some 2,.p (.mov (T 117)),none⟩]
def zRh:List XO:=zRi
theorem zaM:E3 zRh zRi:=E3.rfl
def xq197:XF:=⟨1,[.tmp 2],
 .seq (.ops zQ4) (.seq (.seq (.ops zQ6) (.cond (T 10) (.seq (.ops zRO) (.ret)) (.skip))) (.seq (.draw zRg [(3,(11,[])),(7,(11,[]))]) (.seq (.draw zRk []) (.seq (.block 0 (.loop zI3)) (.seq (.seq (.ops zRq) (.block 2 (.loop zIv))) (.seq (.block 4 (.loop zIx)) (.seq (.ops zRJ) (.seq (.seq (.ops zRL) (.block 6 (.loop zI1))) (.seq (.ops zRh) (.ret))))))))))⟩
def yq197:=PLift.up (And.intro (And.intro (And.intro (And.intro (@xq197_0e) (And.intro (@xq197_1e) (@xq197_2e))) (And.intro (@xq197_3e) (And.intro (@xq197_4e) (@xq197_5e)))) (And.intro (And.intro (@xq197_6e) (And.intro (@xq197_8e) (@xq197_9e))) (And.intro (And.intro (@zZ2) (@zZ3)) (And.intro (@zZ4) (@zZ6))))) (And.intro (And.intro (And.intro (@zZ7) (And.intro (@zZ8) (@zaA))) (And.intro (@zaB) (And.intro (@zaC) (@zaD)))) (And.intro (And.intro (@zaE) (And.intro (@zaF) (@zaG))) (And.intro (And.intro (@zaH) (@zaI)) (And.intro (@zaK) (@zaM))))))
theorem cq197:zX Tryz.prog Tryz.f197=some xq197:=by kernel_rfl
abbrev zPy:List XO:=[
 ⟨some 2,.p (.mov (C (.string (strOf [])))),none⟩]
def zPx:List XO:=zPy
theorem xq179_0e:E3 zPx zPy:=E3.rfl
abbrev zP0:List XO:=[
 ⟨some 4,.call (.func 194) [],none⟩,
 ⟨some 3,.p (.mov (T 4)),none⟩]
def zPz:List XO:=zP0
theorem xq179_1e:E3 zPz zP0:=E3.rfl
abbrev zP2:List XO:=[
 ⟨some 5,.p (.mov (T 3)),none⟩,
 ⟨some 6,.p (.mov (T 0)),none⟩,
 ⟨some 7,.call (.func 195) [(T 5),(T 6)],none⟩]
def zP1:List XO:=zP2
theorem xq179_2e:E3 zP1 zP2:=E3.rfl
abbrev zP4:List XO:=[
 ⟨some 8,.p (.mov (T 3)),none⟩,
 ⟨some 9,.call (.func 197) [(T 8)],none⟩,
 ⟨some 2,.p (.mov (T 9)),none⟩]
def zP3:List XO:=zP4
theorem xq179_3e:E3 zP3 zP4:=E3.rfl
def xq179:XF:=⟨1,[.tmp 2],
 .seq (.ops zPx) (.seq (.ops zPz) (.seq (.ops zP1) (.seq (.ops zP3) (.ret))))⟩
def yq179:=PLift.up (And.intro (And.intro (@xq179_0e) (@xq179_1e)) (And.intro (@xq179_2e) (@xq179_3e)))
theorem cq179:zX Tryz.prog Tryz.f179=some xq179:=by kernel_rfl
abbrev zS8:List XO:=[
 ⟨some 4,.p (.mov (C (.string (strOf [])))),none⟩]
def zS7:List XO:=zS8
theorem xq223_0e:E3 zS7 zS8:=E3.rfl
abbrev zTB:List XO:=[
 ⟨some 7,.p (.mov (T 0)),none⟩,
 ⟨some 8,.p (.lenS (T 7)),none⟩,
 ⟨some 9,.p (.bin .gtr (T 8) (C (.int .i64 64))),none⟩]
def zS9:List XO:=zTB
theorem xq223_1e:E3 zS9 zTB:=E3.rfl
abbrev zTD:List XO:=[
 ⟨some 10,.p (.mov (T 0)),none⟩,
 ⟨some 11,.call (.func 179) [(T 10)],none⟩,
 ⟨some 0,.p (.mov (T 11)),none⟩]
def zTC:List XO:=zTD
theorem xq223_2e:E3 zTC zTD:=E3.rfl
abbrev zTE:List XO:=[
 ⟨some 12,.p (.mov (T 0)),none⟩,
 ⟨some 13,.p (.mov (T 0)),none⟩,
 ⟨some 14,.p (.lenS (T 13)),none⟩,
 ⟨some 15,.p (.bin .sub (C (.int .i64 64)) (T 14)),none⟩,
 ⟨some 16,.call (.func 248) [(C (.string (strOf [0]))),(T 15)],none⟩,
 ⟨some 17,.p (.bin .add (T 12) (T 16)),none⟩,
 ⟨some 18,.a (.cs2b (T 17)),none⟩,
 ⟨some 5,.p (.mov (T 18)),none⟩]
def zJB:List XO:=zTE
theorem xq223_3e:E3 zJB zTE:=E3.rfl
abbrev zTF:List XO:=[
 ⟨some 19,.p (.mov (T 5)),none⟩,
 ⟨some 20,.p (.lenV (T 19)),none⟩,
 ⟨some 21,.p (.mov (C (.int .i64 0))),none⟩]
def zJC:List XO:=zTF
theorem xq223_4e:E3 zJC zTF:=E3.rfl
abbrev zTH:List XO:=[
 ⟨some 22,.p (.bin .lss (T 21) (T 20)),none⟩]
def zTG:List XO:=zTH
theorem xq223_5e:E3 zTG zTH:=E3.rfl
abbrev zTJ:List XO:=[
 ⟨some 23,.p (.mov (T 21)),none⟩,
 ⟨some 6,.p (.mov (T 23)),none⟩]
def zTI:List XO:=zTJ
theorem xq223_6e:E3 zTI zTJ:=E3.rfl
abbrev zTL:List XO:=[
 ⟨some 24,.p (.mov (T 5)),none⟩,
 ⟨some 25,.p (.mov (T 6)),none⟩,
 ⟨some 26,.p (.iaddrS 1 (T 24) (T 25)),none⟩,
 ⟨some 27,.r (.load1 (T 26)),none⟩,
 ⟨some 28,.p (.mov (T 1)),none⟩,
 ⟨some 29,.p (.bin .xor (T 27) (T 28)),none⟩,
 ⟨some 30,.p (.iaddrS 1 (T 24) (T 25)),none⟩,
 ⟨none,.e (.store 1 (T 30) (T 29)),none⟩]
def zTK:List XO:=zTL
theorem xq223_7e:E3 zTK zTL:=E3.rfl
abbrev zTN:List XO:=[
 ⟨some 31,.p (.bin .add (T 21) (C (.int .i64 1))),none⟩,
 ⟨some 21,.p (.mov (T 31)),none⟩]
def zTM:List XO:=zTN
theorem xq223_8e:E3 zTM zTN:=E3.rfl
def zJE:XC :=
 .seq (.ops zTG) (.seq (.cond (T 22) (.skip) (.exit 0)) (.seq (.block 1 (.seq (.ops zTI) (.ops zTK))) (.ops zTM)))
def zJD:XC:=zJE
theorem xq223_9k {pr:Prog} {k:List KI} {Q:XE→Fr→Heap→Prop} {t:Fr} {h:Heap} (hw:wpk pr zJE k Q t h):wpk pr zJD k Q t h:=hw
abbrev zTA:List XO:=[
 ⟨some 32,.p (.mov (T 5)),none⟩,
 ⟨some 33,.r (.cb2s (T 32)),none⟩,
 ⟨some 4,.p (.mov (T 33)),none⟩]
def zJA:List XO:=zTA
theorem zaX:E3 zJA zTA:=E3.rfl
def xq223:XF:=⟨2,[.tmp 4],
 .seq (.ops zS7) (.seq (.seq (.ops zS9) (.cond (T 9) (.ops zTC) (.skip))) (.seq (.ops zJB) (.seq (.seq (.ops zJC) (.block 0 (.loop zJD))) (.seq (.ops zJA) (.ret)))))⟩
def yq223:=PLift.up (And.intro (And.intro (And.intro (@xq223_0e) (@xq223_1e)) (And.intro (@xq223_2e) (And.intro (@xq223_3e) (@xq223_4e)))) (And.intro (And.intro (@xq223_5e) (@xq223_6e)) (And.intro (@xq223_7e) (And.intro (@xq223_8e) (@zaX)))))
theorem cq223:zX Tryz.prog Tryz.f223=some xq223:=by kernel_rfl
abbrev zRv:List XO:=[
 ⟨some 4,.p (.mov (C (.string (strOf [])))),none⟩]
def zRu:List XO:=zRv
theorem xq199_0e:E3 zRu zRv:=E3.rfl
abbrev zRx:List XO:=[
 ⟨some 5,.p (.mov (T 0)),none⟩,
 ⟨some 6,.call (.func 223) [(T 5),(C (.int .u8 92))],none⟩,
 ⟨some 7,.p (.mov (T 0)),none⟩,
 ⟨some 8,.call (.func 223) [(T 7),(C (.int .u8 54))],none⟩,
 ⟨some 9,.p (.mov (T 1)),none⟩,
 ⟨some 10,.p (.bin .add (T 8) (T 9)),none⟩,
 ⟨some 11,.call (.func 179) [(T 10)],none⟩,
 ⟨some 12,.p (.bin .add (T 6) (T 11)),none⟩,
 ⟨some 13,.call (.func 179) [(T 12)],none⟩,
 ⟨some 4,.p (.mov (T 13)),none⟩]
def zRw:List XO:=zRx
theorem xq199_1e:E3 zRw zRx:=E3.rfl
def xq199:XF:=⟨2,[.tmp 4],
 .seq (.ops zRu) (.seq (.ops zRw) (.ret))⟩
def yq199:=PLift.up (And.intro (@xq199_0e) (@xq199_1e))
theorem cq199:zX Tryz.prog Tryz.f199=some xq199:=by kernel_rfl
abbrev zSS:List XO:=[
 ⟨some 6,.p (.mov (C (.bool false))),none⟩]
def zSR:List XO:=zSS
theorem xq216_0e:E3 zSR zSS:=E3.rfl
abbrev zSU:List XO:=[
 ⟨some 7,.p (.mov (T 0)),none⟩,
 ⟨some 8,.p (.mov (T 1)),none⟩,
 ⟨some 9,.call (.func 199) [(T 7),(T 8)],none⟩,
 ⟨some 10,.p (.mov (T 2)),none⟩,
 ⟨some 11,.call (.func 212) [(T 9),(T 10)],none⟩,
 ⟨some 6,.p (.mov (T 11)),none⟩]
def zST:List XO:=zSU
theorem xq216_1e:E3 zST zSU:=E3.rfl
def xq216:XF:=⟨3,[.tmp 6],
 .seq (.ops zSR) (.seq (.ops zST) (.ret))⟩
def yq216:=PLift.up (And.intro (@xq216_0e) (@xq216_1e))
theorem cq216:zX Tryz.prog Tryz.f216=some xq216:=by kernel_rfl
abbrev zR7:List XO:=[
 ⟨some 4,.p (.mov (C (.bool false))),none⟩]
def zR6:List XO:=zR7
theorem xq212_0e:E3 zR6 zR7:=E3.rfl
abbrev zSB:List XO:=[
 ⟨some 7,.p (.mov (T 0)),none⟩,
 ⟨some 8,.p (.lenS (T 7)),none⟩,
 ⟨some 9,.p (.mov (T 1)),none⟩,
 ⟨some 10,.p (.lenS (T 9)),none⟩,
 ⟨some 11,.p (.eql true .int (T 8) (T 10)),none⟩]
def zR8:List XO:=zSB
theorem xq212_1e:E3 zR8 zSB:=E3.rfl
abbrev zSD:List XO:=[
 ⟨some 4,.p (.mov (C (.bool false))),none⟩]
def zSC:List XO:=zSD
theorem xq212_2e:E3 zSC zSD:=E3.rfl
abbrev zSF:List XO:=[
 ⟨some 5,.p (.mov (C (.int .u8 0))),none⟩]
def zSE:List XO:=zSF
theorem xq212_3e:E3 zSE zSF:=E3.rfl
abbrev zSH:List XO:=[
 ⟨some 12,.p (.mov (T 0)),none⟩,
 ⟨some 13,.p (.lenS (T 12)),none⟩,
 ⟨some 14,.p (.mov (C (.int .i64 0))),none⟩]
def zSG:List XO:=zSH
theorem xq212_4e:E3 zSG zSH:=E3.rfl
abbrev zSJ:List XO:=[
 ⟨some 15,.p (.bin .lss (T 14) (T 13)),none⟩]
def zSI:List XO:=zSJ
theorem xq212_5e:E3 zSI zSJ:=E3.rfl
abbrev zSL:List XO:=[
 ⟨some 16,.p (.mov (T 14)),none⟩,
 ⟨some 6,.p (.mov (T 16)),none⟩]
def zSK:List XO:=zSL
theorem xq212_6e:E3 zSK zSL:=E3.rfl
abbrev zSN:List XO:=[
 ⟨some 17,.p (.mov (T 5)),none⟩,
 ⟨some 18,.p (.mov (T 0)),none⟩,
 ⟨some 19,.p (.mov (T 6)),none⟩,
 ⟨some 20,.p (.idxS (T 18) (T 19)),none⟩,
 ⟨some 21,.p (.mov (T 1)),none⟩,
 ⟨some 22,.p (.mov (T 6)),none⟩,
 ⟨some 23,.p (.idxS (T 21) (T 22)),none⟩,
 ⟨some 24,.p (.bin .xor (T 20) (T 23)),none⟩,
 ⟨some 25,.p (.bin .or (T 17) (T 24)),none⟩,
 ⟨some 5,.p (.mov (T 25)),none⟩]
def zSM:List XO:=zSN
theorem xq212_7e:E3 zSM zSN:=E3.rfl
abbrev zSP:List XO:=[
 ⟨some 26,.p (.bin .add (T 14) (C (.int .i64 1))),none⟩,
 ⟨some 14,.p (.mov (T 26)),none⟩]
def zSO:List XO:=zSP
theorem xq212_8e:E3 zSO zSP:=E3.rfl
def zI5:XC :=
 .seq (.ops zSI) (.seq (.cond (T 15) (.skip) (.exit 0)) (.seq (.block 1 (.seq (.ops zSK) (.draw zSM []))) (.ops zSO)))
def zSQ:XC:=zI5
theorem xq212_9k {pr:Prog} {k:List KI} {Q:XE→Fr→Heap→Prop} {t:Fr} {h:Heap} (hw:wpk pr zI5 k Q t h):wpk pr zSQ k Q t h:=hw
abbrev zSA:List XO:=[
 ⟨some 27,.p (.mov (T 5)),none⟩,
 ⟨some 28,.p (.eql false .int (T 27) (C (.int .u8 0))),none⟩,
 ⟨some 4,.p (.mov (T 28)),none⟩]
def zR9:List XO:=zSA
theorem zaN:E3 zR9 zSA:=E3.rfl
def xq212:XF:=⟨2,[.tmp 4],
 .seq (.ops zR6) (.seq (.seq (.ops zR8) (.cond (T 11) (.seq (.ops zSC) (.ret)) (.skip))) (.seq (.ops zSE) (.seq (.seq (.ops zSG) (.block 0 (.loop zSQ))) (.seq (.ops zR9) (.ret)))))⟩
def yq212:=PLift.up (And.intro (And.intro (And.intro (@xq212_0e) (@xq212_1e)) (And.intro (@xq212_2e) (And.intro (@xq212_3e) (@xq212_4e)))) (And.intro (And.intro (@xq212_5e) (@xq212_6e)) (And.intro (@xq212_7e) (And.intro (@xq212_8e) (@zaN)))))
theorem cq212:zX Tryz.prog Tryz.f212=some xq212:=by kernel_rfl
end Go.X
end
section
namespace Go.X
open Go.Proofs
end Go.X
end
section
namespace Go.X
open Go.Proofs
abbrev zQ1:List XO:=[
 ⟨some 2,.p (.mov (C (.string (strOf [])))),none⟩]
def zQ0:List XO:=zQ1
theorem xq196_0e:E3 zQ0 zQ1:=E3.rfl
abbrev zQ3:List XO:=[
 ⟨some 3,.p (.mov (T 0)),none⟩,
 ⟨some 4,.p (.bin .shr (T 3) (C (.int .u64 24))),none⟩,
 ⟨some 5,.p (.cint .u8 (T 4)),none⟩,
 ⟨some 6,.p (.mov (T 0)),none⟩,
 ⟨some 7,.p (.bin .shr (T 6) (C (.int .u64 16))),none⟩,
 ⟨some 8,.p (.cint .u8 (T 7)),none⟩,
 ⟨some 9,.p (.mov (T 0)),none⟩,
 ⟨some 10,.p (.bin .shr (T 9) (C (.int .u64 8))),none⟩,
 ⟨some 11,.p (.cint .u8 (T 10)),none⟩,
 ⟨some 12,.p (.mov (T 0)),none⟩,
 ⟨some 13,.p (.cint .u8 (T 12)),none⟩,
 ⟨some 14,.a (.bslice (List.replicate 4 (.int .u8 0)) 4 [(0,1,(T 5)),(1,1,(T 8)),(2,1,(T 11)),(3,1,(T 13))]),none⟩,
 ⟨some 15,.r (.cb2s (T 14)),none⟩,
 ⟨some 2,.p (.mov (T 15)),none⟩]
def zQ2:List XO:=zQ3
theorem xq196_1e:E3 zQ2 zQ3:=E3.rfl
def xq196:XF:=⟨1,[.tmp 2],
 .seq (.ops zQ0) (.seq (.ops zQ2) (.ret))⟩
def yq196:=PLift.up (And.intro (@xq196_0e) (@xq196_1e))
theorem cq196:zX Tryz.prog Tryz.f196=some xq196:=by kernel_rfl
abbrev zPb:List XO:=[
 ⟨some 4,.p (.mov (C (.string (strOf [])))),none⟩]
def zPa:List XO:=zPb
theorem xq160_0e:E3 zPa zPb:=E3.rfl
abbrev zPf:List XO:=[
 ⟨some 8,.call (.func 194) [],none⟩,
 ⟨some 5,.p (.mov (T 8)),none⟩]
def zPc:List XO:=zPf
theorem xq160_1e:E3 zPc zPf:=E3.rfl
abbrev zPh:List XO:=[
 ⟨some 9,.p (.mov (T 5)),none⟩,
 ⟨some 10,.p (.mov (T 0)),none⟩,
 ⟨some 11,.a (.bslice [(.int .u8 0)] 1 [(0,1,(T 10))]),none⟩,
 ⟨some 12,.r (.cb2s (T 11)),none⟩,
 ⟨some 13,.call (.func 195) [(T 9),(T 12)],none⟩]
def zPg:List XO:=zPh
theorem xq160_2e:E3 zPg zPh:=E3.rfl
abbrev zPj:List XO:=[
 ⟨some 14,.p (.mov (T 1)),none⟩,
 ⟨some 15,.p (.lenV (T 14)),none⟩,
 ⟨some 16,.p (.mov (C (.int .i64 0))),none⟩]
def zPi:List XO:=zPj
theorem xq160_3e:E3 zPi zPj:=E3.rfl
abbrev zPl:List XO:=[
 ⟨some 17,.p (.bin .lss (T 16) (T 15)),none⟩]
def zPk:List XO:=zPl
theorem xq160_4e:E3 zPk zPl:=E3.rfl
abbrev zPn:List XO:=[
 ⟨some 18,.p (.iaddrS 1 (T 14) (T 16)),none⟩,
 ⟨some 19,.r (.load1 (T 18)),none⟩,
 ⟨some 7,.p (.mov (T 19)),none⟩]
def zPm:List XO:=zPn
theorem xq160_5e:E3 zPm zPn:=E3.rfl
abbrev zPp:List XO:=[
 ⟨some 20,.p (.mov (T 5)),none⟩,
 ⟨some 21,.p (.mov (T 7)),none⟩,
 ⟨some 22,.p (.lenS (T 21)),none⟩,
 ⟨some 23,.call (.func 196) [(T 22)],none⟩,
 ⟨some 24,.call (.func 195) [(T 20),(T 23)],none⟩]
def zPo:List XO:=zPp
theorem xq160_6e:E3 zPo zPp:=E3.rfl
abbrev zPr:List XO:=[
 ⟨some 25,.p (.mov (T 5)),none⟩,
 ⟨some 26,.p (.mov (T 7)),none⟩,
 ⟨some 27,.call (.func 195) [(T 25),(T 26)],none⟩]
def zPq:List XO:=zPr
theorem xq160_7e:E3 zPq zPr:=E3.rfl
abbrev zPt:List XO:=[
 ⟨some 28,.p (.bin .add (T 16) (C (.int .i64 1))),none⟩,
 ⟨some 16,.p (.mov (T 28)),none⟩]
def zPs:List XO:=zPt
theorem xq160_8e:E3 zPs zPt:=E3.rfl
def zIt:XC :=
 .seq (.ops zPk) (.seq (.cond (T 17) (.skip) (.exit 0)) (.seq (.block 1 (.seq (.ops zPm) (.seq (.ops zPo) (.ops zPq)))) (.ops zPs)))
def zPu:XC:=zIt
theorem xq160_9k {pr:Prog} {k:List KI} {Q:XE→Fr→Heap→Prop} {t:Fr} {h:Heap} (hw:wpk pr zIt k Q t h):wpk pr zPu k Q t h:=hw
abbrev zPe:List XO:=[
 ⟨some 29,.p (.mov (T 5)),none⟩,
 ⟨some 30,.call (.func 197) [(T 29)],none⟩,
 ⟨some 4,.p (.mov (T 30)),none⟩]
def zPd:List XO:=zPe
theorem zZ1:E3 zPd zPe:=E3.rfl
def xq160:XF:=⟨2,[.tmp 4],
 .seq (.ops zPa) (.seq (.ops zPc) (.seq (.ops zPg) (.seq (.seq (.ops zPi) (.block 0 (.loop zPu))) (.seq (.ops zPd) (.ret)))))⟩
def yq160:=PLift.up (And.intro (And.intro (And.intro (@xq160_0e) (@xq160_1e)) (And.intro (@xq160_2e) (And.intro (@xq160_3e) (@xq160_4e)))) (And.intro (And.intro (@xq160_5e) (@xq160_6e)) (And.intro (@xq160_7e) (And.intro (@xq160_8e) (@zZ1)))))
theorem cq160:zX Tryz.prog Tryz.f160=some xq160:=by kernel_rfl
end Go.X
end
