/- The digest in plain words; the functions of the seat as the interpreter has them, each held against the loaded program. -/
import Derived.Test.YtjlhabhibmgbdaaGreatDoorProg
import Derived.KernelRfl
import Derived.Test.YtjlhabhibmgbdaaGreatDoorXC
set_option linter.unusedSimpArgs false
set_option linter.unusedVariables false
set_option maxHeartbeats 2000000
open Nat renaming reduceLeDiff → zPT, reduceEqDiff → zPU, reduceAdd → zPV
open Int renaming reduceBEq → zPW, reduceLT → zPX, reduceLE → zPY, reduceGT → zPZ, reduceGE → zPa, reduceEq → zPb, reduceAdd → zPc, reduceSub → zPd, reduceMul → zPe
section
namespace Go.X.Sha
def rotr (x n:Nat):Nat:=Nat.lor ((x % 4294967296) >>> n) ((x <<< (32 - n)) % 4294967296)
def s0 (x:Nat):Nat:=Nat.xor (Nat.xor (rotr x 7) (rotr x 18)) ((x % 4294967296) >>> 3)
def s1 (x:Nat):Nat:=Nat.xor (Nat.xor (rotr x 17) (rotr x 19)) ((x % 4294967296) >>> 10)
def e0 (x:Nat):Nat:=Nat.xor (Nat.xor (rotr x 2) (rotr x 13)) (rotr x 22)
def e1 (x:Nat):Nat:=Nat.xor (Nat.xor (rotr x 6) (rotr x 11)) (rotr x 25)
def ch (e f g:Nat):Nat:=Nat.xor (Nat.land e f) (Nat.land (4294967295 - e % 4294967296) g)
def maj (a b c:Nat):Nat:=Nat.xor (Nat.xor (Nat.land a b) (Nat.land a c)) (Nat.land b c)
def K:List Nat:=[
0x428a2f98,0x71374491,0xb5c0fbcf,0xe9b5dba5,0x3956c25b,0x59f111f1,0x923f82a4,0xab1c5ed5,
 0xd807aa98,0x12835b01,0x243185be,0x550c7dc3,0x72be5d74,0x80deb1fe,0x9bdc06a7,0xc19bf174,
 0xe49b69c1,0xefbe4786,0x0fc19dc6,0x240ca1cc,0x2de92c6f,0x4a7484aa,0x5cb0a9dc,0x76f988da,
 0x983e5152,0xa831c66d,0xb00327c8,0xbf597fc7,0xc6e00bf3,0xd5a79147,0x06ca6351,0x14292967,
 0x27b70a85,0x2e1b2138,0x4d2c6dfc,0x53380d13,0x650a7354,0x766a0abb,0x81c2c92e,0x92722c85,
 0xa2bfe8a1,0xa81a664b,0xc24b8b70,0xc76c51a3,0xd192e819,0xd6990624,0xf40e3585,0x106aa070,
 0x19a4c116,0x1e376c08,0x2748774c,0x34b0bcb5,0x391c0cb3,0x4ed8aa4a,0x5b9cca4f,0x682e6ff3,
 0x748f82ee,0x78a5636f,0x84c87814,0x8cc70208,0x90befffa,0xa4506ceb,0xbef9a3f7,0xc67178f2]
def H0:List Nat:=[0x6a09e667,0xbb67ae85,0x3c6ef372,0xa54ff53a,0x510e527f,0x9b05688c,0x1f83d9ab,0x5be0cd19]
def round (k w:Nat):List Nat→List Nat
 | [a,b,c,d,e,f,g,h] =>
  let t:=(h+e1 e+ch e f g+k+w) % 4294967296
  [(t+e0 a+maj a b c) % 4294967296,a,b,c,(d+t) % 4294967296,e,f,g]
 | l=>l
def sched:Nat→List Nat→List Nat
 | 0,_=>[]
 | n+1,w=>(w.getD 0 0)::sched n (w.drop 1++[(w.getD 0 0+s0 (w.getD 1 0)+w.getD 9 0+s1 (w.getD 14 0)) % 4294967296])
def rounds:List Nat→List Nat→List Nat→List Nat
 | k::ks,w::ws,v=>rounds ks ws (round k w v)
 | _,_,v=>v
def addAll:List Nat→List Nat→List Nat
 | a::u,b::bs=>((a+b) % 4294967296)::addAll u bs
 | _,_=>[]
def block (h w:List Nat):List Nat:=addAll h (rounds K (sched 64 w) h)
def words:List Nat→List Nat
 | a::b::c::d::r=>(((a*256+b)*256+c)*256+d)::words r
 | _=>[]
def zDk:Nat→List Nat→List Nat→List Nat
 | 0,h,_=>h
 | n+1,h,w=>zDk n (block h (w.take 16)) (w.drop 16)
def zD4 (n:Nat):List Nat:=[n / 72057594037927936 % 256,n / 281474976710656 % 256,n / 1099511627776 % 256,n / 4294967296 % 256,n / 16777216 % 256,n / 65536 % 256,n / 256 % 256,n % 256]
def pad (b:List Nat):List Nat:=b++128::List.replicate ((119 - b.length % 64) % 64) 0++zD4 (b.length*8 % 18446744073709551616)
def zES:List Nat→List Nat
 | []=>[]
 | x::r=>(x / 16777216 % 256)::(x / 65536 % 256)::(x / 256 % 256)::(x % 256)::zES r
def shaN (b:List Nat):List Nat:=zES (zDk ((pad b).length / 64) H0 (words (pad b)))
def sha (b:List UInt8):List UInt8:=(shaN (b.map (·.toNat))).map UInt8.ofNat
end Go.X.Sha
end
section
namespace Go.X.Sha
def nxt (l:List Nat):Nat:=(l.getD (l.length - 16) 0+s0 (l.getD (l.length - 15) 0)+l.getD (l.length - 7) 0+s1 (l.getD (l.length - 2) 0)) % 4294967296
def ext:List Nat→Nat→List Nat
 | l,0=>l
 | l,n+1=>ext (l++[nxt l]) n
theorem ext_succ:∀ (n:Nat) (l:List Nat),ext l (n+1)=ext l n++[nxt (ext l n)]
 | 0,l=>rfl
 | n+1,l=>by
  show ext (l++[nxt l]) (n+1)=ext (l++[nxt l]) n++[nxt (ext (l++[nxt l]) n)]
  exact ext_succ n _
theorem ext_len:∀ (n:Nat) (l:List Nat),(ext l n).length=l.length+n
 | 0,l=>rfl
 | n+1,l=>by rw[ext_succ,List.length_append,ext_len n l];rfl
theorem nxt_cons (a:Nat) (l:List Nat) (h:16≤l.length):nxt (a::l)=nxt l:=by
 have e:∀j,j≤16→1≤j→(a::l).getD ((a::l).length - j) 0=l.getD (l.length - j) 0:=fun j h1 h2=>by
  rw[show (a::l).length - j=(l.length - j)+1 by simp;omega];rfl
 unfold nxt
 rw[e 16 (by omega) (by omega),e 15 (by omega) (by omega),e 7 (by omega) (by omega),e 2 (by omega) (by omega)]
theorem zHL:∀ (n a:Nat) (l:List Nat),16≤l.length→ext (a::l) n=a::ext l n
 | 0,a,l,h=>rfl
 | n+1,a,l,h=>by
  show ext (a::l++[nxt (a::l)]) n=a::ext (l++[nxt l]) n
  rw[nxt_cons a l h,List.cons_append]
  exact zHL n a _ (by simp;omega)
theorem nxt_win (w:List Nat) (h:w.length=16):nxt w=(w.getD 0 0+s0 (w.getD 1 0)+w.getD 9 0+s1 (w.getD 14 0)) % 4294967296:=by
 unfold nxt;rw[h]
theorem zOF:∀ (n:Nat) (w:List Nat),w.length=16→n≤16→sched n w=w.take n:=by
 have key:∀ (n:Nat) (w:List Nat) (x:List Nat),w.length+x.length=16→n≤w.length→sched n (w++x)=w.take n:=by
  intro n
  induction n with
  | zero=>intro w x _ _;rfl
  | succ n ih =>
   intro w x h hn
   cases w with
   | nil=>simp at hn
   | cons a w =>
    simp only[sched,List.cons_append,List.drop_succ_cons,List.drop_zero,List.take_succ_cons]
    rw[List.append_assoc,ih w _ (by simp at h ⊢;omega) (by simp at hn;omega)]
    rfl
 intro n w h hn
 have:=key n w [] (by simpa using h) (by omega)
 simpa using this
theorem sched_ext:∀ (m:Nat) (w:List Nat),w.length=16→sched (16+m) w=ext w m
 | 0,w,h=>by rw[zOF 16 w h (Nat.le_refl _)];simp[ext,←h]
 | m+1,w,h=>by
  cases w with
  | nil=>simp at h
  | cons a w =>
   show sched ((16+m)+1) (a::w)=ext (a::w++[nxt (a::w)]) m
   rw[List.cons_append,zHL m a _ (by simp at h ⊢;omega),nxt_win _ h]
   simp only[sched]
   rw[sched_ext m _ (by simp at h ⊢;omega)]
   rfl
end Go.X.Sha
end
section
namespace Go.X
def zCt (b:Nat→Nat) (i:Nat):Nat:=((b (4*i)*256+b (4*i+1))*256+b (4*i+2))*256+b (4*i+3)
def zAn (b:Nat→Nat):List Nat:=(List.range 16).map (zCt b)
theorem zBw (b:Nat→Nat):(zAn b).length=16:=by simp[zAn]
def winB (l:List UInt8):List Nat:=zAn fun j=>(l.getD j 0).toNat
theorem zF6 {l:List UInt8} {n:Nat} (hn:64≤n):winB (l.take n)=winB l:=by
 unfold winB zAn
 refine List.map_congr_left fun i hi=>?_
 have hi':i<16:=List.mem_range.1 hi
 have e:∀j,j<64→(l.take n).getD j 0=l.getD j 0:=fun j hj=>by
  simp only[List.getD_eq_getElem?_getD]
  rw[List.getElem?_take,if_pos (by omega)]
 unfold zCt
 dsimp only
 rw[e _ (by omega),e _ (by omega),e _ (by omega),e _ (by omega)]
def absorb:Nat→List Nat→List UInt8→List Nat
 | 0,h,_=>h
 | n+1,h,b=>absorb n (Sha.block h (winB b)) (b.drop 64)
theorem zEc:∀ (i:Nat) (h:List Nat) (b:List UInt8),absorb (i+1) h b=Sha.block (absorb i h b) (winB (b.drop (64*i)))
 | 0,h,b=>by simp[absorb]
 | i+1,h,b=>by
  rw[absorb,zEc i]
  simp only[absorb,List.drop_drop]
  rw[show 64+64*i=64*(i+1) by omega]
theorem zEa:∀ (i j:Nat) (h:List Nat) (b:List UInt8),absorb (i+j) h b=absorb j (absorb i h b) (b.drop (64*i))
 | 0,j,h,b=>by simp[absorb]
 | i+1,j,h,b=>by
  rw[show i+1+j=(i+j)+1 by omega]
  simp only[absorb]
  rw[zEa i j,List.drop_drop,show 64+64*i=64*(i+1) by omega]
theorem zOf {a b:List UInt8} (h:64≤a.length):winB (a++b)=winB a:=by
 rw[←zF6 (l:=a++b) h]
 simp
theorem zDd:∀ (i:Nat) (h:List Nat) (a b:List UInt8),64*i≤a.length→absorb i h (a++b)=absorb i h a
 | 0,h,a,b,_=>rfl
 | i+1,h,a,b,hl=>by
  simp only[absorb]
  rw[zOf (by omega),List.drop_append_of_le_length (by omega)]
  exact zDd i _ _ b (by simp;omega)
theorem zCw:∀ (a b:List Nat),a.length=b.length→(Sha.addAll a b).length=a.length
 | [],[],_=>rfl
 | x::a,y::b,h=>by simp[Sha.addAll,zCw a b (by simpa using h)]
 | [],_::_,h=>by simp at h
 | _::_,[],h=>by simp at h
def lenB (n:Nat):List UInt8:=(List.range 8).map fun i=>UInt8.ofNat ((n % 18446744073709551616) >>> (8*(7 - i)))
theorem zDF (n:Nat):(lenB n).length=8:=by simp[lenB]
def zAL (n:Nat):Nat:=(119 - n % 64) % 64
def padB (r:List UInt8) (n:Nat):List UInt8:=r++[128]++List.replicate (zAL r.length) 0++lenB (n*8)
theorem zH1 (r:List UInt8) (n:Nat):(padB r n).length=64*((padB r n).length / 64):=by
 have:(padB r n).length=r.length+1+zAL r.length+8:=by simp[padB,zDF];omega
 rw[this]
 unfold zAL
 omega
def outW (x:Nat):List UInt8:=(List.range 4).map fun k=>UInt8.ofNat ((x % 4294967296) >>> (8*(3 - k)))
def outB (hs:List Nat):List UInt8:=hs.flatMap outW
def fin (hs:List Nat) (r:List UInt8) (n:Nat):List UInt8:=outB (absorb ((padB r n).length / 64) hs (padB r n))
def sha (s:List UInt8):List UInt8:=fin Sha.H0 s s.length
theorem zPS (a b:Nat) (h:a=b % 64):zAL a=zAL b:=by unfold zAL;omega
theorem zIZ (s:List UInt8):fin (absorb (s.length / 64) Sha.H0 s) (s.drop (64*(s.length / 64))) s.length=sha s:=by
 unfold sha fin
 have hl:(s.drop (64*(s.length / 64))).length=s.length % 64:=by rw[List.length_drop];omega
 have hp:padB s s.length=s.take (64*(s.length / 64))++padB (s.drop (64*(s.length / 64))) s.length:=by
  unfold padB
  rw[zPS _ s.length hl]
  simp only[←List.append_assoc]
  rw[List.take_append_drop]
 have hq:=zH1 (s.drop (64*(s.length / 64))) s.length
 generalize padB (s.drop (64*(s.length / 64))) s.length=p at *
 generalize padB s s.length=q at *
 subst hp
 have htl:(s.take (64*(s.length / 64))).length=64*(s.length / 64):=by rw[List.length_take];omega
 have hn:(s.take (64*(s.length / 64))++p).length / 64=s.length / 64+p.length / 64:=by
  rw[List.length_append,htl];omega
 rw[hn,zEa]
 congr 1
 rw[zDd _ _ _ _ (by omega),List.drop_append,htl,List.drop_of_length_le (by omega)]
 simp only[Nat.sub_self,List.drop_zero,List.nil_append]
 congr 1
 have:=zDd (s.length / 64) Sha.H0 (s.take (64*(s.length / 64))) (s.drop (64*(s.length / 64))) (by rw[htl];exact Nat.le_refl _)
 rw[List.take_append_drop] at this
 exact this
theorem zHz:∀ (hs:List Nat),(outB hs).length=4*hs.length
 | []=>rfl
 | x::hs=>by
  have:=zHz hs
  simp only[outB,List.flatMap_cons,List.length_append,List.length_cons] at *
  rw[this]
  simp[outW];omega
end Go.X
end
section
namespace Go.X
open Go.Proofs
abbrev zMK:List XO:=[
 ⟨some 4,.p (.mov (C (.int .u32 0))),none⟩]
def zMJ:List XO:=zMK
theorem xq417_0e:E3 zMJ zMK:=E3.rfl
abbrev zMM:List XO:=[
 ⟨some 5,.p (.mov (T 0)),none⟩,
 ⟨some 6,.p (.mov (T 1)),none⟩,
 ⟨some 7,.p (.un .neg (T 6)),none⟩,
 ⟨some 8,.call (.func 454) [(T 5),(T 7)],none⟩,
 ⟨some 4,.p (.mov (T 8)),none⟩]
def zML:List XO:=zMM
theorem xq417_1e:E3 zML zMM:=E3.rfl
def xq417:XF:=⟨2,[.tmp 4],
 .seq (.ops zMJ) (.seq (.ops zML) (.ret))⟩
def yq417:=PLift.up (And.intro (@xq417_0e) (@xq417_1e))
theorem cq417:zt Tryz.prog Tryz.f417=some xq417:=by kernel_rfl
abbrev zMO:List XO:=[
 ⟨some 4,.p (.mov (C (.int .u32 0))),none⟩]
def zMN:List XO:=zMO
theorem xq454_0e:E3 zMN zMO:=E3.rfl
abbrev zMQ:List XO:=[
 ⟨some 6,.p (.mov (T 1)),none⟩,
 ⟨some 7,.p (.cint .u64 (T 6)),none⟩,
 ⟨some 8,.p (.bin .and (T 7) (C (.int .u64 31))),none⟩,
 ⟨some 5,.p (.mov (T 8)),none⟩]
def zMP:List XO:=zMQ
theorem xq454_1e:E3 zMP zMQ:=E3.rfl
abbrev zMS:List XO:=[
 ⟨some 9,.p (.mov (T 0)),none⟩,
 ⟨some 10,.p (.mov (T 5)),none⟩,
 ⟨some 11,.p (.bin .shl (T 9) (T 10)),none⟩,
 ⟨some 12,.p (.mov (T 0)),none⟩,
 ⟨some 13,.p (.mov (T 5)),none⟩,
 ⟨some 14,.p (.bin .sub (C (.int .u64 32)) (T 13)),none⟩,
 ⟨some 15,.p (.bin .shr (T 12) (T 14)),none⟩,
 ⟨some 16,.p (.bin .or (T 11) (T 15)),none⟩,
 ⟨some 4,.p (.mov (T 16)),none⟩]
def zMR:List XO:=zMS
theorem xq454_2e:E3 zMR zMS:=E3.rfl
def xq454:XF:=⟨2,[.tmp 4],
 .seq (.ops zMN) (.seq (.ops zMP) (.seq (.ops zMR) (.ret)))⟩
def yq454:=PLift.up (And.intro (@xq454_0e) (And.intro (@xq454_1e) (@xq454_2e)))
theorem cq454:zt Tryz.prog Tryz.f454=some xq454:=by kernel_rfl
abbrev zLc:List XO:=[
 ⟨some 0,.a (.alloc (List.replicate 64 (.int .u32 0))),none⟩]
def zLb:List XO:=zLc
theorem xq415_0e:E3 zLb zLc:=E3.rfl
abbrev zLe:List XO:=[
 ⟨some 1,.p (.build (List.replicate 64 (.int .u32 0)) [(0,1,(C (.int .u32 1116352408))),(1,1,(C (.int .u32 1899447441))),(2,1,(C (.int .u32 3049323471))),(3,1,(C (.int .u32 3921009573))),(4,1,(C (.int .u32 961987163))),(5,1,(C (.int .u32 1508970993))),(6,1,(C (.int .u32 2453635748))),(7,1,(C (.int .u32 2870763221))),(8,1,(C (.int .u32 3624381080))),(9,1,(C (.int .u32 310598401))),(10,1,(C (.int .u32 607225278))),(11,1,(C (.int .u32 1426881987))),(12,1,(C (.int .u32 1925078388))),(13,1,(C (.int .u32 2162078206))),(14,1,(C (.int .u32 2614888103))),(15,1,(C (.int .u32 3248222580))),(16,1,(C (.int .u32 3835390401))),(17,1,(C (.int .u32 4022224774))),(18,1,(C (.int .u32 264347078))),(19,1,(C (.int .u32 604807628))),(20,1,(C (.int .u32 770255983))),(21,1,(C (.int .u32 1249150122))),(22,1,(C (.int .u32 1555081692))),(23,1,(C (.int .u32 1996064986))),(24,1,(C (.int .u32 2554220882))),(25,1,(C (.int .u32 2821834349))),(26,1,(C (.int .u32 2952996808))),(27,1,(C (.int .u32 3210313671))),(28,1,(C (.int .u32 3336571891))),(29,1,(C (.int .u32 3584528711))),(30,1,(C (.int .u32 113926993))),(31,1,(C (.int .u32 338241895))),(32,1,(C (.int .u32 666307205))),(33,1,(C (.int .u32 773529912))),(34,1,(C (.int .u32 1294757372))),(35,1,(C (.int .u32 1396182291))),(36,1,(C (.int .u32 1695183700))),(37,1,(C (.int .u32 1986661051))),(38,1,(C (.int .u32 2177026350))),(39,1,(C (.int .u32 2456956037))),(40,1,(C (.int .u32 2730485921))),(41,1,(C (.int .u32 2820302411))),(42,1,(C (.int .u32 3259730800))),(43,1,(C (.int .u32 3345764771))),(44,1,(C (.int .u32 3516065817))),(45,1,(C (.int .u32 3600352804))),(46,1,(C (.int .u32 4094571909))),(47,1,(C (.int .u32 275423344))),(48,1,(C (.int .u32 430227734))),(49,1,(C (.int .u32 506948616))),(50,1,(C (.int .u32 659060556))),(51,1,(C (.int .u32 883997877))),(52,1,(C (.int .u32 958139571))),(53,1,(C (.int .u32 1322822218))),(54,1,(C (.int .u32 1537002063))),(55,1,(C (.int .u32 1747873779))),(56,1,(C (.int .u32 1955562222))),(57,1,(C (.int .u32 2024104815))),(58,1,(C (.int .u32 2227730452))),(59,1,(C (.int .u32 2361852424))),(60,1,(C (.int .u32 2428436474))),(61,1,(C (.int .u32 2756734187))),(62,1,(C (.int .u32 3204031479))),(63,1,(C (.int .u32 3329325298)))]),none⟩,
 ⟨none,.e (.store 64 (T 0) (T 1)),none⟩]
def zLd:List XO:=zLe
theorem xq415_1e:E3 zLd zLe:=E3.rfl
def xq415:XF:=⟨0,[.cellN 0 64],
 .seq (.ops zLb) (.seq (.ops zLd) (.ret))⟩
def yq415:=PLift.up (And.intro (@xq415_0e) (@xq415_1e))
theorem cq415:zt Tryz.prog Tryz.f415=some xq415:=by kernel_rfl
abbrev zKf:List XO:=[
 ⟨some 0,.a (.alloc (List.replicate 8 (.int .u32 0))),none⟩]
def zKe:List XO:=zKf
theorem xq346_0e:E3 zKe zKf:=E3.rfl
abbrev zKh:List XO:=[
 ⟨some 1,.p (.build (List.replicate 8 (.int .u32 0)) [(0,1,(C (.int .u32 1779033703))),(1,1,(C (.int .u32 3144134277))),(2,1,(C (.int .u32 1013904242))),(3,1,(C (.int .u32 2773480762))),(4,1,(C (.int .u32 1359893119))),(5,1,(C (.int .u32 2600822924))),(6,1,(C (.int .u32 528734635))),(7,1,(C (.int .u32 1541459225)))]),none⟩,
 ⟨none,.e (.store 8 (T 0) (T 1)),none⟩]
def zKg:List XO:=zKh
theorem xq346_1e:E3 zKg zKh:=E3.rfl
def xq346:XF:=⟨0,[.cellN 0 8],
 .seq (.ops zKe) (.seq (.ops zKg) (.ret))⟩
def yq346:=PLift.up (And.intro (@xq346_0e) (@xq346_1e))
theorem cq346:zt Tryz.prog Tryz.f346=some xq346:=by kernel_rfl
abbrev zLg:List XO:=[
 ⟨some 2,.a (.alloc (List.replicate 64 (.int .u32 0))),none⟩]
def zLf:List XO:=zLg
theorem xq416_0e:E3 zLf zLg:=E3.rfl
abbrev zLz:List XO:=[
 ⟨some 3,.a (.alloc (List.replicate 64 (.int .u32 0))),none⟩]
def zLh:List XO:=zLz
theorem xq416_1e:E3 zLh zLz:=E3.rfl
abbrev zL4:List XO:=[
 ⟨some 11,.p (.mov (C (.int .i64 0))),none⟩]
def zL0:List XO:=zL4
theorem xq416_2e:E3 zL0 zL4:=E3.rfl
abbrev zL6:List XO:=[
 ⟨some 12,.p (.bin .lss (T 11) (C (.int .i64 16))),none⟩]
def zL5:List XO:=zL6
theorem xq416_3e:E3 zL5 zL6:=E3.rfl
abbrev zL8:List XO:=[
 ⟨some 13,.p (.mov (T 11)),none⟩,
 ⟨some 4,.p (.mov (T 13)),none⟩]
def zL7:List XO:=zL8
theorem xq416_4e:E3 zL7 zL8:=E3.rfl
abbrev zMA:List XO:=[
 ⟨some 14,.p (.mov (C (.int .i64 0))),none⟩]
def zL9:List XO:=zMA
theorem xq416_5e:E3 zL9 zMA:=E3.rfl
abbrev zMC:List XO:=[
 ⟨some 15,.p (.bin .lss (T 14) (C (.int .i64 4))),none⟩]
def zMB:List XO:=zMC
theorem xq416_6e:E3 zMB zMC:=E3.rfl
abbrev zME:List XO:=[
 ⟨some 16,.p (.mov (T 14)),none⟩,
 ⟨some 5,.p (.mov (T 16)),none⟩]
def zMD:List XO:=zME
theorem xq416_7e:E3 zMD zME:=E3.rfl
abbrev zMG:List XO:=[
 ⟨some 17,.p (.mov (T 4)),none⟩,
 ⟨some 18,.p (.mov (T 4)),none⟩,
 ⟨some 19,.p (.iaddrA 64 1 (T 3) (T 18)),none⟩,
 ⟨some 20,.r (.load1 (T 19)),none⟩,
 ⟨some 21,.p (.bin .shl (T 20) (C (.int .u64 8))),none⟩,
 ⟨some 22,.p (.mov (T 0)),none⟩,
 ⟨some 23,.p (.mov (T 4)),none⟩,
 ⟨some 24,.p (.bin .mul (C (.int .i64 4)) (T 23)),none⟩,
 ⟨some 25,.p (.mov (T 5)),none⟩,
 ⟨some 26,.p (.bin .add (T 24) (T 25)),none⟩,
 ⟨some 27,.p (.iaddrS 1 (T 22) (T 26)),none⟩,
 ⟨some 28,.r (.load1 (T 27)),none⟩,
 ⟨some 29,.p (.cint .u32 (T 28)),none⟩,
 ⟨some 30,.p (.bin .or (T 21) (T 29)),none⟩,
 ⟨some 31,.p (.iaddrA 64 1 (T 3) (T 17)),none⟩,
 ⟨none,.e (.store 1 (T 31) (T 30)),none⟩]
def zMF:List XO:=zMG
theorem xq416_8e:E3 zMF zMG:=E3.rfl
abbrev zMI:List XO:=[
 ⟨some 32,.p (.bin .add (T 14) (C (.int .i64 1))),none⟩,
 ⟨some 14,.p (.mov (T 32)),none⟩]
def zMH:List XO:=zMI
theorem xq416_9e:E3 zMH zMI:=E3.rfl
def zGS:XC :=
 .seq (.ops zMB) (.seq (.cond (T 15) (.skip) (.exit 2)) (.seq (.block 3 (.seq (.ops zMD) (.draw zMF []))) (.ops zMH)))
def zGR:XC:=zGS
theorem zPF {pr:Prog} {k:List KI} {Q:XE→Fr→Heap→Prop} {t:Fr} {h:Heap} (hw:wpk pr zGS k Q t h):wpk pr zGR k Q t h:=hw
abbrev zLj:List XO:=[
 ⟨some 33,.p (.bin .add (T 11) (C (.int .i64 1))),none⟩,
 ⟨some 11,.p (.mov (T 33)),none⟩]
def zLi:List XO:=zLj
theorem zPG:E3 zLi zLj:=E3.rfl
def zEW:XC :=
 .seq (.ops zL5) (.seq (.cond (T 12) (.skip) (.exit 0)) (.seq (.block 1 (.seq (.ops zL7) (.seq (.ops zL9) (.block 2 (.loop zGR))))) (.ops zLi)))
def zGT:XC:=zEW
theorem zLk {pr:Prog} {k:List KI} {Q:XE→Fr→Heap→Prop} {t:Fr} {h:Heap} (hw:wpk pr zEW k Q t h):wpk pr zGT k Q t h:=hw
abbrev zLm:List XO:=[
 ⟨some 6,.p (.mov (C (.int .i64 16))),none⟩]
def zLl:List XO:=zLm
theorem zPH:E3 zLl zLm:=E3.rfl
abbrev zLo:List XO:=[
 ⟨some 34,.p (.mov (T 6)),none⟩,
 ⟨some 35,.p (.bin .lss (T 34) (C (.int .i64 64))),none⟩]
def zLn:List XO:=zLo
theorem zPI:E3 zLn zLo:=E3.rfl
abbrev zLq:List XO:=[
 ⟨some 38,.p (.mov (T 6)),none⟩,
 ⟨some 39,.p (.bin .sub (T 38) (C (.int .i64 15))),none⟩,
 ⟨some 40,.p (.iaddrA 64 1 (T 3) (T 39)),none⟩,
 ⟨some 41,.r (.load1 (T 40)),none⟩,
 ⟨some 42,.p (.mov (T 6)),none⟩,
 ⟨some 43,.p (.bin .sub (T 42) (C (.int .i64 2))),none⟩,
 ⟨some 44,.p (.iaddrA 64 1 (T 3) (T 43)),none⟩,
 ⟨some 45,.r (.load1 (T 44)),none⟩,
 ⟨some 7,.p (.mov (T 41)),none⟩,
 ⟨some 8,.p (.mov (T 45)),none⟩]
def zLp:List XO:=zLq
theorem zPJ:E3 zLp zLq:=E3.rfl
abbrev zLs:List XO:=[
 ⟨some 46,.p (.mov (T 7)),none⟩,
 ⟨some 47,.call (.func 417) [(T 46),(C (.int .i64 7))],none⟩,
 ⟨some 48,.p (.mov (T 7)),none⟩,
 ⟨some 49,.call (.func 417) [(T 48),(C (.int .i64 18))],none⟩,
 ⟨some 50,.p (.bin .xor (T 47) (T 49)),none⟩,
 ⟨some 51,.p (.mov (T 7)),none⟩,
 ⟨some 52,.p (.bin .shr (T 51) (C (.int .u64 3))),none⟩,
 ⟨some 53,.p (.bin .xor (T 50) (T 52)),none⟩,
 ⟨some 9,.p (.mov (T 53)),none⟩]
def zLr:List XO:=zLs
theorem zPK:E3 zLr zLs:=E3.rfl
abbrev zLu:List XO:=[
 ⟨some 54,.p (.mov (T 8)),none⟩,
 ⟨some 55,.call (.func 417) [(T 54),(C (.int .i64 17))],none⟩,
 ⟨some 56,.p (.mov (T 8)),none⟩,
 ⟨some 57,.call (.func 417) [(T 56),(C (.int .i64 19))],none⟩,
 ⟨some 58,.p (.bin .xor (T 55) (T 57)),none⟩,
 ⟨some 59,.p (.mov (T 8)),none⟩,
 ⟨some 60,.p (.bin .shr (T 59) (C (.int .u64 10))),none⟩,
 ⟨some 61,.p (.bin .xor (T 58) (T 60)),none⟩,
 ⟨some 10,.p (.mov (T 61)),none⟩]
def zLt:List XO:=zLu
theorem zPL:E3 zLt zLu:=E3.rfl
abbrev zLw:List XO:=[
 ⟨some 62,.p (.mov (T 6)),none⟩,
 ⟨some 63,.p (.mov (T 6)),none⟩,
 ⟨some 64,.p (.bin .sub (T 63) (C (.int .i64 16))),none⟩,
 ⟨some 65,.p (.iaddrA 64 1 (T 3) (T 64)),none⟩,
 ⟨some 66,.r (.load1 (T 65)),none⟩,
 ⟨some 67,.p (.mov (T 9)),none⟩,
 ⟨some 68,.p (.bin .add (T 66) (T 67)),none⟩,
 ⟨some 69,.p (.mov (T 6)),none⟩,
 ⟨some 70,.p (.bin .sub (T 69) (C (.int .i64 7))),none⟩,
 ⟨some 71,.p (.iaddrA 64 1 (T 3) (T 70)),none⟩,
 ⟨some 72,.r (.load1 (T 71)),none⟩,
 ⟨some 73,.p (.bin .add (T 68) (T 72)),none⟩,
 ⟨some 74,.p (.mov (T 10)),none⟩,
 ⟨some 75,.p (.bin .add (T 73) (T 74)),none⟩,
 ⟨some 76,.p (.iaddrA 64 1 (T 3) (T 62)),none⟩,
 ⟨none,.e (.store 1 (T 76) (T 75)),none⟩]
def zLv:List XO:=zLw
theorem zPM:E3 zLv zLw:=E3.rfl
abbrev zLy:List XO:=[
 ⟨some 36,.p (.mov (T 6)),none⟩,
 ⟨some 37,.p (.bin .add (T 36) (C (.int .i64 1))),none⟩,
 ⟨some 6,.p (.mov (T 37)),none⟩]
def zLx:List XO:=zLy
theorem zPN:E3 zLx zLy:=E3.rfl
def zEX:XC :=
 .seq (.seq (.ops zLn) (.cond (T 35) (.skip) (.exit 4))) (.seq (.block 5 (.seq (.draw zLp []) (.seq (.ops zLr) (.seq (.ops zLt) (.draw zLv []))))) (.ops zLx))
def zGU:XC:=zEX
theorem zL1 {pr:Prog} {k:List KI} {Q:XE→Fr→Heap→Prop} {t:Fr} {h:Heap} (hw:wpk pr zEX k Q t h):wpk pr zGU k Q t h:=hw
abbrev zL3:List XO:=[
 ⟨some 77,.r (.loadN 64 (T 3)),none⟩,
 ⟨none,.e (.store 64 (T 2) (T 77)),none⟩]
def zL2:List XO:=zL3
theorem zPO:E3 zL2 zL3:=E3.rfl
def xq416:XF:=⟨1,[.cellN 2 64],
 .seq (.ops zLf) (.seq (.ops zLh) (.seq (.seq (.ops zL0) (.block 0 (.loop zGT))) (.seq (.seq (.ops zLl) (.block 4 (.loop zGU))) (.seq (.ops zL2) (.ret)))))⟩
def yq416:=PLift.up (And.intro (And.intro (And.intro (And.intro (@xq416_0e) (@xq416_1e)) (And.intro (@xq416_2e) (@xq416_3e))) (And.intro (And.intro (@xq416_4e) (@xq416_5e)) (And.intro (@xq416_6e) (And.intro (@xq416_7e) (@xq416_8e))))) (And.intro (And.intro (And.intro (@xq416_9e) (@zPG)) (And.intro (@zPH) (And.intro (@zPI) (@zPJ)))) (And.intro (And.intro (@zPK) (@zPL)) (And.intro (@zPM) (And.intro (@zPN) (@zPO))))))
theorem cq416:zt Tryz.prog Tryz.f416=some xq416:=by kernel_rfl
abbrev zKj:List XO:=[
 ⟨some 14,.call (.func 415) [],none⟩,
 ⟨some 15,.p (.mov (T 1)),none⟩,
 ⟨some 16,.call (.func 416) [(T 15)],none⟩,
 ⟨some 4,.a (.alloc (List.replicate 64 (.int .u32 0))),none⟩,
 ⟨some 5,.a (.alloc (List.replicate 64 (.int .u32 0))),none⟩,
 ⟨none,.e (.store 64 (T 4) (T 14)),none⟩,
 ⟨none,.e (.store 64 (T 5) (T 16)),none⟩]
def zKi:List XO:=zKj
theorem xq347_0e:E3 zKi zKj:=E3.rfl
abbrev zKz:List XO:=[
 ⟨some 17,.p (.mov (T 0)),none⟩,
 ⟨some 18,.p (.nilc (T 17)),none⟩,
 ⟨some 19,.p (.faddr 0 (T 18)),none⟩,
 ⟨some 20,.r (.loadN 8 (T 19)),none⟩,
 ⟨some 6,.a (.alloc (List.replicate 8 (.int .u32 0))),none⟩,
 ⟨none,.e (.store 8 (T 6) (T 20)),none⟩]
def zKk:List XO:=zKz
theorem xq347_1e:E3 zKk zKz:=E3.rfl
abbrev zK1:List XO:=[
 ⟨some 21,.p (.mov (C (.int .i64 0))),none⟩]
def zK0:List XO:=zK1
theorem xq347_2e:E3 zK0 zK1:=E3.rfl
abbrev zK3:List XO:=[
 ⟨some 22,.p (.bin .lss (T 21) (C (.int .i64 64))),none⟩]
def zK2:List XO:=zK3
theorem xq347_3e:E3 zK2 zK3:=E3.rfl
abbrev zK5:List XO:=[
 ⟨some 23,.p (.mov (T 21)),none⟩,
 ⟨some 7,.p (.mov (T 23)),none⟩]
def zK4:List XO:=zK5
theorem xq347_4e:E3 zK4 zK5:=E3.rfl
abbrev zK7:List XO:=[
 ⟨some 24,.p (.iaddrA 8 1 (T 6) (C (.int .i64 4))),none⟩,
 ⟨some 25,.r (.load1 (T 24)),none⟩,
 ⟨some 26,.call (.func 417) [(T 25),(C (.int .i64 6))],none⟩,
 ⟨some 27,.p (.iaddrA 8 1 (T 6) (C (.int .i64 4))),none⟩,
 ⟨some 28,.r (.load1 (T 27)),none⟩,
 ⟨some 29,.call (.func 417) [(T 28),(C (.int .i64 11))],none⟩,
 ⟨some 30,.p (.bin .xor (T 26) (T 29)),none⟩,
 ⟨some 31,.p (.iaddrA 8 1 (T 6) (C (.int .i64 4))),none⟩,
 ⟨some 32,.r (.load1 (T 31)),none⟩,
 ⟨some 33,.call (.func 417) [(T 32),(C (.int .i64 25))],none⟩,
 ⟨some 34,.p (.bin .xor (T 30) (T 33)),none⟩,
 ⟨some 8,.p (.mov (T 34)),none⟩]
def zK6:List XO:=zK7
theorem xq347_5e:E3 zK6 zK7:=E3.rfl
abbrev zK9:List XO:=[
 ⟨some 35,.p (.iaddrA 8 1 (T 6) (C (.int .i64 4))),none⟩,
 ⟨some 36,.r (.load1 (T 35)),none⟩,
 ⟨some 37,.p (.iaddrA 8 1 (T 6) (C (.int .i64 5))),none⟩,
 ⟨some 38,.r (.load1 (T 37)),none⟩,
 ⟨some 39,.p (.bin .and (T 36) (T 38)),none⟩,
 ⟨some 40,.p (.iaddrA 8 1 (T 6) (C (.int .i64 4))),none⟩,
 ⟨some 41,.r (.load1 (T 40)),none⟩,
 ⟨some 42,.p (.un .xor (T 41)),none⟩,
 ⟨some 43,.p (.iaddrA 8 1 (T 6) (C (.int .i64 6))),none⟩,
 ⟨some 44,.r (.load1 (T 43)),none⟩,
 ⟨some 45,.p (.bin .and (T 42) (T 44)),none⟩,
 ⟨some 46,.p (.bin .xor (T 39) (T 45)),none⟩,
 ⟨some 9,.p (.mov (T 46)),none⟩]
def zK8:List XO:=zK9
theorem xq347_6e:E3 zK8 zK9:=E3.rfl
abbrev zLB:List XO:=[
 ⟨some 47,.p (.iaddrA 8 1 (T 6) (C (.int .i64 7))),none⟩,
 ⟨some 48,.r (.load1 (T 47)),none⟩,
 ⟨some 49,.p (.mov (T 8)),none⟩,
 ⟨some 50,.p (.bin .add (T 48) (T 49)),none⟩,
 ⟨some 51,.p (.mov (T 9)),none⟩,
 ⟨some 52,.p (.bin .add (T 50) (T 51)),none⟩,
 ⟨some 53,.p (.mov (T 7)),none⟩,
 ⟨some 54,.p (.iaddrA 64 1 (T 4) (T 53)),none⟩,
 ⟨some 55,.r (.load1 (T 54)),none⟩,
 ⟨some 56,.p (.bin .add (T 52) (T 55)),none⟩,
 ⟨some 57,.p (.mov (T 7)),none⟩,
 ⟨some 58,.p (.iaddrA 64 1 (T 5) (T 57)),none⟩,
 ⟨some 59,.r (.load1 (T 58)),none⟩,
 ⟨some 60,.p (.bin .add (T 56) (T 59)),none⟩,
 ⟨some 10,.p (.mov (T 60)),none⟩]
def zLA:List XO:=zLB
theorem xq347_7e:E3 zLA zLB:=E3.rfl
abbrev zLD:List XO:=[
 ⟨some 61,.p (.iaddrA 8 1 (T 6) (C (.int .i64 0))),none⟩,
 ⟨some 62,.r (.load1 (T 61)),none⟩,
 ⟨some 63,.call (.func 417) [(T 62),(C (.int .i64 2))],none⟩,
 ⟨some 64,.p (.iaddrA 8 1 (T 6) (C (.int .i64 0))),none⟩,
 ⟨some 65,.r (.load1 (T 64)),none⟩,
 ⟨some 66,.call (.func 417) [(T 65),(C (.int .i64 13))],none⟩,
 ⟨some 67,.p (.bin .xor (T 63) (T 66)),none⟩,
 ⟨some 68,.p (.iaddrA 8 1 (T 6) (C (.int .i64 0))),none⟩,
 ⟨some 69,.r (.load1 (T 68)),none⟩,
 ⟨some 70,.call (.func 417) [(T 69),(C (.int .i64 22))],none⟩,
 ⟨some 71,.p (.bin .xor (T 67) (T 70)),none⟩,
 ⟨some 11,.p (.mov (T 71)),none⟩]
def zLC:List XO:=zLD
theorem xq347_8e:E3 zLC zLD:=E3.rfl
abbrev zLF:List XO:=[
 ⟨some 72,.p (.iaddrA 8 1 (T 6) (C (.int .i64 0))),none⟩,
 ⟨some 73,.r (.load1 (T 72)),none⟩,
 ⟨some 74,.p (.iaddrA 8 1 (T 6) (C (.int .i64 1))),none⟩,
 ⟨some 75,.r (.load1 (T 74)),none⟩,
 ⟨some 76,.p (.bin .and (T 73) (T 75)),none⟩,
 ⟨some 77,.p (.iaddrA 8 1 (T 6) (C (.int .i64 0))),none⟩,
 ⟨some 78,.r (.load1 (T 77)),none⟩,
 ⟨some 79,.p (.iaddrA 8 1 (T 6) (C (.int .i64 2))),none⟩,
 ⟨some 80,.r (.load1 (T 79)),none⟩,
 ⟨some 81,.p (.bin .and (T 78) (T 80)),none⟩,
 ⟨some 82,.p (.bin .xor (T 76) (T 81)),none⟩,
 ⟨some 83,.p (.iaddrA 8 1 (T 6) (C (.int .i64 1))),none⟩,
 ⟨some 84,.r (.load1 (T 83)),none⟩,
 ⟨some 85,.p (.iaddrA 8 1 (T 6) (C (.int .i64 2))),none⟩,
 ⟨some 86,.r (.load1 (T 85)),none⟩,
 ⟨some 87,.p (.bin .and (T 84) (T 86)),none⟩,
 ⟨some 88,.p (.bin .xor (T 82) (T 87)),none⟩,
 ⟨some 12,.p (.mov (T 88)),none⟩]
def zLE:List XO:=zLF
theorem xq347_9e:E3 zLE zLF:=E3.rfl
abbrev zKm:List XO:=[
 ⟨some 89,.p (.mov (T 10)),none⟩,
 ⟨some 90,.p (.mov (T 11)),none⟩,
 ⟨some 91,.p (.bin .add (T 89) (T 90)),none⟩,
 ⟨some 92,.p (.mov (T 12)),none⟩,
 ⟨some 93,.p (.bin .add (T 91) (T 92)),none⟩,
 ⟨some 94,.p (.iaddrA 8 1 (T 6) (C (.int .i64 0))),none⟩,
 ⟨some 95,.r (.load1 (T 94)),none⟩,
 ⟨some 96,.p (.iaddrA 8 1 (T 6) (C (.int .i64 1))),none⟩,
 ⟨some 97,.r (.load1 (T 96)),none⟩,
 ⟨some 98,.p (.iaddrA 8 1 (T 6) (C (.int .i64 2))),none⟩,
 ⟨some 99,.r (.load1 (T 98)),none⟩,
 ⟨some 100,.p (.iaddrA 8 1 (T 6) (C (.int .i64 3))),none⟩,
 ⟨some 101,.r (.load1 (T 100)),none⟩,
 ⟨some 102,.p (.mov (T 10)),none⟩,
 ⟨some 103,.p (.bin .add (T 101) (T 102)),none⟩,
 ⟨some 104,.p (.iaddrA 8 1 (T 6) (C (.int .i64 4))),none⟩,
 ⟨some 105,.r (.load1 (T 104)),none⟩,
 ⟨some 106,.p (.iaddrA 8 1 (T 6) (C (.int .i64 5))),none⟩,
 ⟨some 107,.r (.load1 (T 106)),none⟩,
 ⟨some 108,.p (.iaddrA 8 1 (T 6) (C (.int .i64 6))),none⟩,
 ⟨some 109,.r (.load1 (T 108)),none⟩,
 ⟨some 110,.p (.build (List.replicate 8 (.int .u32 0)) [(0,1,(T 93)),(1,1,(T 95)),(2,1,(T 97)),(3,1,(T 99)),(4,1,(T 103)),(5,1,(T 105)),(6,1,(T 107)),(7,1,(T 109))]),none⟩,
 ⟨none,.e (.store 8 (T 6) (T 110)),none⟩]
def zKl:List XO:=zKm
theorem zO5:E3 zKl zKm:=E3.rfl
abbrev zKo:List XO:=[
 ⟨some 111,.p (.bin .add (T 21) (C (.int .i64 1))),none⟩,
 ⟨some 21,.p (.mov (T 111)),none⟩]
def zKn:List XO:=zKo
theorem zO6:E3 zKn zKo:=E3.rfl
def zGN:XC :=
 .seq (.ops zK2) (.seq (.cond (T 22) (.skip) (.exit 0)) (.seq (.block 1 (.seq (.ops zK4) (.seq (.draw zK6 [(4,(2,[])),(8,(2,[])),(8,(5,[]))]) (.seq (.ops zK8) (.seq (.draw zLA []) (.seq (.draw zLC [(4,(2,[])),(8,(2,[])),(8,(5,[]))]) (.seq (.ops zLE) (.ops zKl)))))))) (.ops zKn)))
def zGM:XC:=zGN
theorem zO7 {pr:Prog} {k:List KI} {Q:XE→Fr→Heap→Prop} {t:Fr} {h:Heap} (hw:wpk pr zGN k Q t h):wpk pr zGM k Q t h:=hw
abbrev zKq:List XO:=[
 ⟨some 112,.p (.mov (C (.int .i64 0))),none⟩]
def zKp:List XO:=zKq
theorem zO8:E3 zKp zKq:=E3.rfl
abbrev zKs:List XO:=[
 ⟨some 113,.p (.bin .lss (T 112) (C (.int .i64 8))),none⟩]
def zKr:List XO:=zKs
theorem zO9:E3 zKr zKs:=E3.rfl
abbrev zKu:List XO:=[
 ⟨some 114,.p (.mov (T 112)),none⟩,
 ⟨some 13,.p (.mov (T 114)),none⟩]
def zKt:List XO:=zKu
theorem zPA:E3 zKt zKu:=E3.rfl
abbrev zKw:List XO:=[
 ⟨some 115,.p (.mov (T 0)),none⟩,
 ⟨some 116,.p (.mov (T 13)),none⟩,
 ⟨some 117,.p (.nilc (T 115)),none⟩,
 ⟨some 118,.p (.faddr 0 (T 117)),none⟩,
 ⟨some 119,.p (.iaddrA 8 1 (T 118) (T 116)),none⟩,
 ⟨some 120,.r (.load1 (T 119)),none⟩,
 ⟨some 121,.p (.mov (T 13)),none⟩,
 ⟨some 122,.p (.iaddrA 8 1 (T 6) (T 121)),none⟩,
 ⟨some 123,.r (.load1 (T 122)),none⟩,
 ⟨some 124,.p (.bin .add (T 120) (T 123)),none⟩,
 ⟨some 125,.p (.nilc (T 115)),none⟩,
 ⟨some 126,.p (.faddr 0 (T 125)),none⟩,
 ⟨some 127,.p (.iaddrA 8 1 (T 126) (T 116)),none⟩,
 ⟨none,.e (.store 1 (T 127) (T 124)),none⟩]
def zKv:List XO:=zKw
theorem zPB:E3 zKv zKw:=E3.rfl
abbrev zKy:List XO:=[
 ⟨some 128,.p (.bin .add (T 112) (C (.int .i64 1))),none⟩,
 ⟨some 112,.p (.mov (T 128)),none⟩]
def zKx:List XO:=zKy
theorem zPC:E3 zKx zKy:=E3.rfl
def zGP:XC :=
 .seq (.ops zKr) (.seq (.cond (T 113) (.skip) (.exit 2)) (.seq (.block 3 (.seq (.ops zKt) (.draw zKv []))) (.ops zKx)))
def zGO:XC:=zGP
theorem zPD {pr:Prog} {k:List KI} {Q:XE→Fr→Heap→Prop} {t:Fr} {h:Heap} (hw:wpk pr zGP k Q t h):wpk pr zGO k Q t h:=hw
def zCJ:XF:=⟨2,[],
 .seq (.ops zKi) (.seq (.ops zKk) (.seq (.seq (.ops zK0) (.block 0 (.loop zGM))) (.seq (.ops zKp) (.block 2 (.loop zGO)))))⟩
def yq347:=PLift.up (And.intro (And.intro (And.intro (And.intro (@xq347_0e) (@xq347_1e)) (And.intro (@xq347_2e) (@xq347_3e))) (And.intro (And.intro (@xq347_4e) (@xq347_5e)) (And.intro (@xq347_6e) (@xq347_7e)))) (And.intro (And.intro (And.intro (@xq347_8e) (@xq347_9e)) (And.intro (@zO5) (@zO6))) (And.intro (And.intro (@zO8) (@zO9)) (And.intro (@zPA) (And.intro (@zPB) (@zPC))))))
theorem cq347:zt Tryz.prog Tryz.f347=some zCJ:=by kernel_rfl
abbrev zJM:List XO:=[
 ⟨some 0,.p (.mov (C (.pointer none))),none⟩]
def zJL:List XO:=zJM
theorem xq245_0e:E3 zJL zJM:=E3.rfl
abbrev zJO:List XO:=[
 ⟨some 1,.call (.func 346) [],none⟩,
 ⟨some 2,.p (.build [(.int .u32 0),(.int .u32 0),(.int .u32 0),(.int .u32 0),(.int .u32 0),(.int .u32 0),(.int .u32 0),(.int .u32 0),(.slice none 0 0),(.int .u64 0)] [(0,8,(T 1))]),none⟩,
 ⟨some 3,.a (.box (T 2)),none⟩,
 ⟨some 0,.p (.mov (T 3)),none⟩]
def zJN:List XO:=zJO
theorem xq245_1e:E3 zJN zJO:=E3.rfl
def xq245:XF:=⟨0,[.tmp 0],
 .seq (.ops zJL) (.seq (.ops zJN) (.ret))⟩
def yq245:=PLift.up (And.intro (@xq245_0e) (@xq245_1e))
theorem cq245:zt Tryz.prog Tryz.f245=some xq245:=by kernel_rfl
abbrev zJQ:List XO:=[
 ⟨some 4,.p (.mov (T 0)),none⟩,
 ⟨some 5,.p (.eql false .nptr (T 4) (C (.pointer none))),none⟩]
def zJP:List XO:=zJQ
theorem xq246_0e:E3 zJP zJQ:=E3.rfl
abbrev zJS:List XO:=[
 ⟨some 6,.p (.mov (T 0)),none⟩,
 ⟨some 7,.p (.nilc (T 6)),none⟩,
 ⟨some 8,.p (.faddr 9 (T 7)),none⟩,
 ⟨some 9,.r (.load1 (T 8)),none⟩,
 ⟨some 10,.p (.mov (T 1)),none⟩,
 ⟨some 11,.p (.lenS (T 10)),none⟩,
 ⟨some 12,.p (.cint .u64 (T 11)),none⟩,
 ⟨some 13,.p (.bin .add (T 9) (T 12)),none⟩,
 ⟨some 14,.p (.nilc (T 6)),none⟩,
 ⟨some 15,.p (.faddr 9 (T 14)),none⟩,
 ⟨none,.e (.store 1 (T 15) (T 13)),none⟩]
def zJR:List XO:=zJS
theorem xq246_1e:E3 zJR zJS:=E3.rfl
abbrev zJU:List XO:=[
 ⟨some 16,.p (.mov (T 0)),none⟩,
 ⟨some 17,.p (.mov (T 0)),none⟩,
 ⟨some 18,.p (.nilc (T 17)),none⟩,
 ⟨some 19,.p (.faddr 8 (T 18)),none⟩,
 ⟨some 20,.r (.load1 (T 19)),none⟩,
 ⟨some 21,.p (.mov (T 1)),none⟩,
 ⟨some 22,.e (.append 1 1 (T 20) (T 21)),none⟩,
 ⟨some 23,.p (.nilc (T 16)),none⟩,
 ⟨some 24,.p (.faddr 8 (T 23)),none⟩,
 ⟨none,.e (.store 1 (T 24) (T 22)),none⟩]
def zJT:List XO:=zJU
theorem xq246_2e:E3 zJT zJU:=E3.rfl
abbrev zJW:List XO:=[
 ⟨some 25,.p (.mov (T 0)),none⟩,
 ⟨some 26,.p (.nilc (T 25)),none⟩,
 ⟨some 27,.p (.faddr 8 (T 26)),none⟩,
 ⟨some 28,.r (.load1 (T 27)),none⟩,
 ⟨some 29,.p (.lenV (T 28)),none⟩,
 ⟨some 30,.p (.bin .geq (T 29) (C (.int .i64 64))),none⟩]
def zJV:List XO:=zJW
theorem xq246_3e:E3 zJV zJW:=E3.rfl
abbrev zJY:List XO:=[
 ⟨some 31,.p (.mov (T 0)),none⟩,
 ⟨some 32,.p (.mov (T 0)),none⟩,
 ⟨some 33,.p (.nilc (T 32)),none⟩,
 ⟨some 34,.p (.faddr 8 (T 33)),none⟩,
 ⟨some 35,.r (.load1 (T 34)),none⟩,
 ⟨some 36,.p (.slc 1 (T 35) none (some (C (.int .i64 64))) none),none⟩,
 ⟨some 37,.call (.func 347) [(T 31),(T 36)],none⟩]
def zJX:List XO:=zJY
theorem xq246_4e:E3 zJX zJY:=E3.rfl
abbrev zJa:List XO:=[
 ⟨some 38,.p (.mov (T 0)),none⟩,
 ⟨some 39,.p (.mov (T 0)),none⟩,
 ⟨some 40,.p (.nilc (T 39)),none⟩,
 ⟨some 41,.p (.faddr 8 (T 40)),none⟩,
 ⟨some 42,.r (.load1 (T 41)),none⟩,
 ⟨some 43,.p (.slc 1 (T 42) (some (C (.int .i64 64))) none none),none⟩,
 ⟨some 44,.p (.nilc (T 38)),none⟩,
 ⟨some 45,.p (.faddr 8 (T 44)),none⟩,
 ⟨none,.e (.store 1 (T 45) (T 43)),none⟩]
def zJZ:List XO:=zJa
theorem xq246_5e:E3 zJZ zJa:=E3.rfl
def zGB:XC :=
 .seq (.seq (.ops zJV) (.cond (T 30) (.skip) (.exit 0))) (.block 1 (.seq (.ops zJX) (.ops zJZ)))
def zJb:XC:=zGB
theorem xq246_6k {pr:Prog} {k:List KI} {Q:XE→Fr→Heap→Prop} {t:Fr} {h:Heap} (hw:wpk pr zGB k Q t h):wpk pr zJb k Q t h:=hw
def xq246:XF:=⟨2,[],
 .seq (.seq (.ops zJP) (.cond (T 5) (.ret) (.skip))) (.seq (.ops zJR) (.seq (.ops zJT) (.block 0 (.loop zJb))))⟩
def yq246:=PLift.up (And.intro (And.intro (@xq246_0e) (And.intro (@xq246_1e) (@xq246_2e))) (And.intro (@xq246_3e) (And.intro (@xq246_4e) (@xq246_5e))))
theorem cq246:zt Tryz.prog Tryz.f246=some xq246:=by kernel_rfl
abbrev zJh:List XO:=[
 ⟨some 2,.p (.mov (C (.string (zY [])))),none⟩]
def zJg:List XO:=zJh
theorem xq248_0e:E3 zJg zJh:=E3.rfl
abbrev zJz:List XO:=[
 ⟨some 9,.p (.mov (T 0)),none⟩,
 ⟨some 10,.p (.eql false .nptr (T 9) (C (.pointer none))),none⟩]
def zJi:List XO:=zJz
theorem xq248_1e:E3 zJi zJz:=E3.rfl
abbrev zKH:List XO:=[
 ⟨some 2,.p (.mov (C (.string (zY [])))),none⟩]
def zJ0:List XO:=zKH
theorem xq248_2e:E3 zJ0 zKH:=E3.rfl
abbrev zKL:List XO:=[
 ⟨some 11,.p (.mov (T 0)),none⟩,
 ⟨some 12,.p (.nilc (T 11)),none⟩,
 ⟨some 13,.p (.faddr 0 (T 12)),none⟩,
 ⟨some 14,.r (.loadN 8 (T 13)),none⟩,
 ⟨some 15,.p (.mov (T 0)),none⟩,
 ⟨some 16,.p (.nilc (T 15)),none⟩,
 ⟨some 17,.p (.faddr 9 (T 16)),none⟩,
 ⟨some 18,.r (.load1 (T 17)),none⟩,
 ⟨some 19,.p (.build [(.int .u32 0),(.int .u32 0),(.int .u32 0),(.int .u32 0),(.int .u32 0),(.int .u32 0),(.int .u32 0),(.int .u32 0),(.slice none 0 0),(.int .u64 0)] [(0,8,(T 14)),(9,1,(T 18))]),none⟩,
 ⟨some 20,.a (.box (T 19)),none⟩,
 ⟨some 3,.p (.mov (T 20)),none⟩]
def zKI:List XO:=zKL
theorem xq248_3e:E3 zKI zKL:=E3.rfl
abbrev zKN:List XO:=[
 ⟨some 21,.p (.mov (T 3)),none⟩,
 ⟨some 22,.p (.mov (T 3)),none⟩,
 ⟨some 23,.p (.nilc (T 22)),none⟩,
 ⟨some 24,.p (.faddr 8 (T 23)),none⟩,
 ⟨some 25,.r (.load1 (T 24)),none⟩,
 ⟨some 26,.p (.mov (T 0)),none⟩,
 ⟨some 27,.p (.nilc (T 26)),none⟩,
 ⟨some 28,.p (.faddr 8 (T 27)),none⟩,
 ⟨some 29,.r (.load1 (T 28)),none⟩,
 ⟨some 30,.e (.append 1 1 (T 25) (T 29)),none⟩,
 ⟨some 31,.a (.bslice [(.int .u8 0)] 1 [(0,1,(C (.int .u8 128)))]),none⟩,
 ⟨some 32,.e (.append 1 1 (T 30) (T 31)),none⟩,
 ⟨some 33,.p (.nilc (T 21)),none⟩,
 ⟨some 34,.p (.faddr 8 (T 33)),none⟩,
 ⟨none,.e (.store 1 (T 34) (T 32)),none⟩]
def zKM:List XO:=zKN
theorem xq248_4e:E3 zKM zKN:=E3.rfl
abbrev zKP:List XO:=[
 ⟨some 35,.p (.mov (T 3)),none⟩,
 ⟨some 36,.p (.nilc (T 35)),none⟩,
 ⟨some 37,.p (.faddr 8 (T 36)),none⟩,
 ⟨some 38,.r (.load1 (T 37)),none⟩,
 ⟨some 39,.p (.lenV (T 38)),none⟩,
 ⟨some 40,.p (.bin .rem (T 39) (C (.int .i64 64))),none⟩,
 ⟨some 41,.p (.eql true .int (T 40) (C (.int .i64 56))),none⟩]
def zKO:List XO:=zKP
theorem xq248_5e:E3 zKO zKP:=E3.rfl
abbrev zKR:List XO:=[
 ⟨some 42,.p (.mov (T 3)),none⟩,
 ⟨some 43,.p (.mov (T 3)),none⟩,
 ⟨some 44,.p (.nilc (T 43)),none⟩,
 ⟨some 45,.p (.faddr 8 (T 44)),none⟩,
 ⟨some 46,.r (.load1 (T 45)),none⟩,
 ⟨some 47,.a (.bslice [(.int .u8 0)] 1 [(0,1,(C (.int .u8 0)))]),none⟩,
 ⟨some 48,.e (.append 1 1 (T 46) (T 47)),none⟩,
 ⟨some 49,.p (.nilc (T 42)),none⟩,
 ⟨some 50,.p (.faddr 8 (T 49)),none⟩,
 ⟨none,.e (.store 1 (T 50) (T 48)),none⟩]
def zKQ:List XO:=zKR
theorem xq248_6e:E3 zKQ zKR:=E3.rfl
def zGL:XC :=
 .seq (.seq (.ops zKO) (.cond (T 41) (.skip) (.exit 0))) (.block 1 (.ops zKQ))
def zGK:XC:=zGL
theorem xq248_7k {pr:Prog} {k:List KI} {Q:XE→Fr→Heap→Prop} {t:Fr} {h:Heap} (hw:wpk pr zGL k Q t h):wpk pr zGK k Q t h:=hw
abbrev zKT:List XO:=[
 ⟨some 51,.p (.mov (C (.int .i64 0))),none⟩]
def zKS:List XO:=zKT
theorem xq248_8e:E3 zKS zKT:=E3.rfl
abbrev zKV:List XO:=[
 ⟨some 52,.p (.bin .lss (T 51) (C (.int .i64 8))),none⟩]
def zKU:List XO:=zKV
theorem xq248_9e:E3 zKU zKV:=E3.rfl
abbrev zJk:List XO:=[
 ⟨some 53,.p (.mov (T 51)),none⟩,
 ⟨some 4,.p (.mov (T 53)),none⟩]
def zJj:List XO:=zJk
theorem zOk:E3 zJj zJk:=E3.rfl
abbrev zJm:List XO:=[
 ⟨some 54,.p (.mov (T 3)),none⟩,
 ⟨some 55,.p (.mov (T 3)),none⟩,
 ⟨some 56,.p (.nilc (T 55)),none⟩,
 ⟨some 57,.p (.faddr 8 (T 56)),none⟩,
 ⟨some 58,.r (.load1 (T 57)),none⟩,
 ⟨some 59,.p (.mov (T 3)),none⟩,
 ⟨some 60,.p (.nilc (T 59)),none⟩,
 ⟨some 61,.p (.faddr 9 (T 60)),none⟩,
 ⟨some 62,.r (.load1 (T 61)),none⟩,
 ⟨some 63,.p (.bin .mul (T 62) (C (.int .u64 8))),none⟩,
 ⟨some 64,.p (.mov (T 4)),none⟩,
 ⟨some 65,.p (.bin .sub (C (.int .i64 7)) (T 64)),none⟩,
 ⟨some 66,.p (.bin .mul (C (.int .i64 8)) (T 65)),none⟩,
 ⟨some 67,.p (.bin .shr (T 63) (T 66)),none⟩,
 ⟨some 68,.p (.cint .u8 (T 67)),none⟩,
 ⟨some 69,.a (.bslice [(.int .u8 0)] 1 [(0,1,(T 68))]),none⟩,
 ⟨some 70,.e (.append 1 1 (T 58) (T 69)),none⟩,
 ⟨some 71,.p (.nilc (T 54)),none⟩,
 ⟨some 72,.p (.faddr 8 (T 71)),none⟩,
 ⟨none,.e (.store 1 (T 72) (T 70)),none⟩]
def zJl:List XO:=zJm
theorem zOl:E3 zJl zJm:=E3.rfl
abbrev zJo:List XO:=[
 ⟨some 73,.p (.bin .add (T 51) (C (.int .i64 1))),none⟩,
 ⟨some 51,.p (.mov (T 73)),none⟩]
def zJn:List XO:=zJo
theorem zOm:E3 zJn zJo:=E3.rfl
def zGD:XC :=
 .seq (.ops zKU) (.seq (.cond (T 52) (.skip) (.exit 2)) (.seq (.block 3 (.seq (.ops zJj) (.draw zJl [(4,(16,[])),(8,(16,[]))]))) (.ops zJn)))
def zGC:XC:=zGD
theorem zOn {pr:Prog} {k:List KI} {Q:XE→Fr→Heap→Prop} {t:Fr} {h:Heap} (hw:wpk pr zGD k Q t h):wpk pr zGC k Q t h:=hw
abbrev zJq:List XO:=[
 ⟨some 74,.p (.mov (T 3)),none⟩,
 ⟨some 75,.p (.nilc (T 74)),none⟩,
 ⟨some 76,.p (.faddr 8 (T 75)),none⟩,
 ⟨some 77,.r (.load1 (T 76)),none⟩,
 ⟨some 78,.p (.lenV (T 77)),none⟩,
 ⟨some 79,.p (.bin .gtr (T 78) (C (.int .i64 0))),none⟩]
def zJp:List XO:=zJq
theorem zOo:E3 zJp zJq:=E3.rfl
abbrev zJs:List XO:=[
 ⟨some 80,.p (.mov (T 3)),none⟩,
 ⟨some 81,.p (.mov (T 3)),none⟩,
 ⟨some 82,.p (.nilc (T 81)),none⟩,
 ⟨some 83,.p (.faddr 8 (T 82)),none⟩,
 ⟨some 84,.r (.load1 (T 83)),none⟩,
 ⟨some 85,.p (.slc 1 (T 84) none (some (C (.int .i64 64))) none),none⟩,
 ⟨some 86,.call (.func 347) [(T 80),(T 85)],none⟩]
def zJr:List XO:=zJs
theorem zOp:E3 zJr zJs:=E3.rfl
abbrev zJu:List XO:=[
 ⟨some 87,.p (.mov (T 3)),none⟩,
 ⟨some 88,.p (.mov (T 3)),none⟩,
 ⟨some 89,.p (.nilc (T 88)),none⟩,
 ⟨some 90,.p (.faddr 8 (T 89)),none⟩,
 ⟨some 91,.r (.load1 (T 90)),none⟩,
 ⟨some 92,.p (.slc 1 (T 91) (some (C (.int .i64 64))) none none),none⟩,
 ⟨some 93,.p (.nilc (T 87)),none⟩,
 ⟨some 94,.p (.faddr 8 (T 93)),none⟩,
 ⟨none,.e (.store 1 (T 94) (T 92)),none⟩]
def zJt:List XO:=zJu
theorem zOq:E3 zJt zJu:=E3.rfl
def zGF:XC :=
 .seq (.seq (.ops zJp) (.cond (T 79) (.skip) (.exit 4))) (.block 5 (.seq (.ops zJr) (.ops zJt)))
def zGE:XC:=zGF
theorem zOr {pr:Prog} {k:List KI} {Q:XE→Fr→Heap→Prop} {t:Fr} {h:Heap} (hw:wpk pr zGF k Q t h):wpk pr zGE k Q t h:=hw
abbrev zJw:List XO:=[
 ⟨some 5,.p (.mov (C (.slice none 0 0))),none⟩]
def zJv:List XO:=zJw
theorem zOs:E3 zJv zJw:=E3.rfl
abbrev zJy:List XO:=[
 ⟨some 95,.p (.mov (T 3)),none⟩,
 ⟨some 96,.p (.nilc (T 95)),none⟩,
 ⟨some 97,.p (.faddr 0 (T 96)),none⟩,
 ⟨some 98,.r (.loadN 8 (T 97)),none⟩,
 ⟨some 99,.p (.mov (C (.int .i64 0))),none⟩]
def zJx:List XO:=zJy
theorem zOt:E3 zJx zJy:=E3.rfl
abbrev zJ2:List XO:=[
 ⟨some 100,.p (.bin .lss (T 99) (C (.int .i64 8))),none⟩]
def zJ1:List XO:=zJ2
theorem zOu:E3 zJ1 zJ2:=E3.rfl
abbrev zJ4:List XO:=[
 ⟨some 101,.p (.idxA1 8 (T 98) (T 99)),none⟩,
 ⟨some 7,.p (.mov (T 101)),none⟩]
def zJ3:List XO:=zJ4
theorem zOv:E3 zJ3 zJ4:=E3.rfl
abbrev zJ6:List XO:=[
 ⟨some 102,.p (.mov (C (.int .i64 0))),none⟩]
def zJ5:List XO:=zJ6
theorem zOw:E3 zJ5 zJ6:=E3.rfl
abbrev zJ8:List XO:=[
 ⟨some 103,.p (.bin .lss (T 102) (C (.int .i64 4))),none⟩]
def zJ7:List XO:=zJ8
theorem zOx:E3 zJ7 zJ8:=E3.rfl
abbrev zKA:List XO:=[
 ⟨some 104,.p (.mov (T 102)),none⟩,
 ⟨some 8,.p (.mov (T 104)),none⟩]
def zJ9:List XO:=zKA
theorem zOy:E3 zJ9 zKA:=E3.rfl
abbrev zKC:List XO:=[
 ⟨some 105,.p (.mov (T 5)),none⟩,
 ⟨some 106,.p (.mov (T 7)),none⟩,
 ⟨some 107,.p (.mov (T 8)),none⟩,
 ⟨some 108,.p (.bin .sub (C (.int .i64 3)) (T 107)),none⟩,
 ⟨some 109,.p (.bin .mul (C (.int .i64 8)) (T 108)),none⟩,
 ⟨some 110,.p (.bin .shr (T 106) (T 109)),none⟩,
 ⟨some 111,.p (.cint .u8 (T 110)),none⟩,
 ⟨some 112,.a (.bslice [(.int .u8 0)] 1 [(0,1,(T 111))]),none⟩,
 ⟨some 113,.e (.append 1 1 (T 105) (T 112)),none⟩,
 ⟨some 5,.p (.mov (T 113)),none⟩]
def zKB:List XO:=zKC
theorem zOz:E3 zKB zKC:=E3.rfl
abbrev zKE:List XO:=[
 ⟨some 114,.p (.bin .add (T 102) (C (.int .i64 1))),none⟩,
 ⟨some 102,.p (.mov (T 114)),none⟩]
def zKD:List XO:=zKE
theorem zO0:E3 zKD zKE:=E3.rfl
def zGH:XC :=
 .seq (.ops zJ7) (.seq (.cond (T 103) (.skip) (.exit 8)) (.seq (.block 9 (.seq (.ops zJ9) (.ops zKB))) (.ops zKD)))
def zGG:XC:=zGH
theorem zO1 {pr:Prog} {k:List KI} {Q:XE→Fr→Heap→Prop} {t:Fr} {h:Heap} (hw:wpk pr zGH k Q t h):wpk pr zGG k Q t h:=hw
abbrev zKG:List XO:=[
 ⟨some 115,.p (.bin .add (T 99) (C (.int .i64 1))),none⟩,
 ⟨some 99,.p (.mov (T 115)),none⟩]
def zKF:List XO:=zKG
theorem zO2:E3 zKF zKG:=E3.rfl
def zGJ:XC :=
 .seq (.ops zJ1) (.seq (.cond (T 100) (.skip) (.exit 6)) (.seq (.block 7 (.seq (.ops zJ3) (.seq (.ops zJ5) (.block 8 (.loop zGG))))) (.ops zKF)))
def zGI:XC:=zGJ
theorem zO3 {pr:Prog} {k:List KI} {Q:XE→Fr→Heap→Prop} {t:Fr} {h:Heap} (hw:wpk pr zGJ k Q t h):wpk pr zGI k Q t h:=hw
abbrev zKK:List XO:=[
 ⟨some 116,.p (.mov (T 5)),none⟩,
 ⟨some 117,.r (.cb2s (T 116)),none⟩,
 ⟨some 2,.p (.mov (T 117)),none⟩]
def zKJ:List XO:=zKK
theorem zO4:E3 zKJ zKK:=E3.rfl
def xq248:XF:=⟨1,[.tmp 2],
 .seq (.ops zJg) (.seq (.seq (.ops zJi) (.cond (T 10) (.seq (.ops zJ0) (.ret)) (.skip))) (.seq (.draw zKI [(3,(11,[])),(7,(11,[]))]) (.seq (.draw zKM []) (.seq (.block 0 (.loop zGK)) (.seq (.seq (.ops zKS) (.block 2 (.loop zGC))) (.seq (.block 4 (.loop zGE)) (.seq (.ops zJv) (.seq (.seq (.ops zJx) (.block 6 (.loop zGI))) (.seq (.ops zKJ) (.ret))))))))))⟩
def yq248:=PLift.up (And.intro (And.intro (And.intro (And.intro (@xq248_0e) (And.intro (@xq248_1e) (@xq248_2e))) (And.intro (@xq248_3e) (And.intro (@xq248_4e) (@xq248_5e)))) (And.intro (And.intro (@xq248_6e) (And.intro (@xq248_8e) (@xq248_9e))) (And.intro (And.intro (@zOk) (@zOl)) (And.intro (@zOm) (@zOo))))) (And.intro (And.intro (And.intro (@zOp) (And.intro (@zOq) (@zOs))) (And.intro (@zOt) (And.intro (@zOu) (@zOv)))) (And.intro (And.intro (@zOw) (And.intro (@zOx) (@zOy))) (And.intro (And.intro (@zOz) (@zO0)) (And.intro (@zO2) (@zO4))))))
theorem cq248:zt Tryz.prog Tryz.f248=some xq248:=by kernel_rfl
abbrev zKX:List XO:=[
 ⟨some 2,.p (.mov (C (.string (zY [])))),none⟩]
def zKW:List XO:=zKX
theorem xq266_0e:E3 zKW zKX:=E3.rfl
abbrev zKZ:List XO:=[
 ⟨some 4,.call (.func 245) [],none⟩,
 ⟨some 3,.p (.mov (T 4)),none⟩]
def zKY:List XO:=zKZ
theorem xq266_1e:E3 zKY zKZ:=E3.rfl
abbrev zKb:List XO:=[
 ⟨some 5,.p (.mov (T 3)),none⟩,
 ⟨some 6,.p (.mov (T 0)),none⟩,
 ⟨some 7,.call (.func 246) [(T 5),(T 6)],none⟩]
def zKa:List XO:=zKb
theorem xq266_2e:E3 zKa zKb:=E3.rfl
abbrev zKd:List XO:=[
 ⟨some 8,.p (.mov (T 3)),none⟩,
 ⟨some 9,.call (.func 248) [(T 8)],none⟩,
 ⟨some 2,.p (.mov (T 9)),none⟩]
def zKc:List XO:=zKd
theorem xq266_3e:E3 zKc zKd:=E3.rfl
def xq266:XF:=⟨1,[.tmp 2],
 .seq (.ops zKW) (.seq (.ops zKY) (.seq (.ops zKa) (.seq (.ops zKc) (.ret))))⟩
def yq266:=PLift.up (And.intro (And.intro (@xq266_0e) (@xq266_1e)) (And.intro (@xq266_2e) (@xq266_3e)))
theorem cq266:zt Tryz.prog Tryz.f266=some xq266:=by kernel_rfl
abbrev zLH:List XO:=[
 ⟨some 4,.p (.mov (C (.bool false))),none⟩]
def zLG:List XO:=zLH
theorem xq381_0e:E3 zLG zLH:=E3.rfl
abbrev zLL:List XO:=[
 ⟨some 7,.p (.mov (T 0)),none⟩,
 ⟨some 8,.p (.lenS (T 7)),none⟩,
 ⟨some 9,.p (.mov (T 1)),none⟩,
 ⟨some 10,.p (.lenS (T 9)),none⟩,
 ⟨some 11,.p (.eql true .int (T 8) (T 10)),none⟩]
def zLI:List XO:=zLL
theorem xq381_1e:E3 zLI zLL:=E3.rfl
abbrev zLN:List XO:=[
 ⟨some 4,.p (.mov (C (.bool false))),none⟩]
def zLM:List XO:=zLN
theorem xq381_2e:E3 zLM zLN:=E3.rfl
abbrev zLP:List XO:=[
 ⟨some 5,.p (.mov (C (.int .u8 0))),none⟩]
def zLO:List XO:=zLP
theorem xq381_3e:E3 zLO zLP:=E3.rfl
abbrev zLR:List XO:=[
 ⟨some 12,.p (.mov (T 0)),none⟩,
 ⟨some 13,.p (.lenS (T 12)),none⟩,
 ⟨some 14,.p (.mov (C (.int .i64 0))),none⟩]
def zLQ:List XO:=zLR
theorem xq381_4e:E3 zLQ zLR:=E3.rfl
abbrev zLT:List XO:=[
 ⟨some 15,.p (.bin .lss (T 14) (T 13)),none⟩]
def zLS:List XO:=zLT
theorem xq381_5e:E3 zLS zLT:=E3.rfl
abbrev zLV:List XO:=[
 ⟨some 16,.p (.mov (T 14)),none⟩,
 ⟨some 6,.p (.mov (T 16)),none⟩]
def zLU:List XO:=zLV
theorem xq381_6e:E3 zLU zLV:=E3.rfl
abbrev zLX:List XO:=[
 ⟨some 17,.p (.mov (T 5)),none⟩,
 ⟨some 18,.p (.mov (T 0)),none⟩,
 ⟨some 19,.p (.mov (T 6)),none⟩,
 ⟨some 20,.p (.idxS (T 18) (T 19)),none⟩,
 ⟨some 21,.p (.mov (T 1)),none⟩,
 ⟨some 22,.p (.mov (T 6)),none⟩,
 ⟨some 23,.p (.idxS (T 21) (T 22)),none⟩,
 ⟨some 24,.p (.bin .xor (T 20) (T 23)),none⟩,
 ⟨some 25,.p (.bin .or (T 17) (T 24)),none⟩,
 ⟨some 5,.p (.mov (T 25)),none⟩]
def zLW:List XO:=zLX
theorem xq381_7e:E3 zLW zLX:=E3.rfl
abbrev zLZ:List XO:=[
 ⟨some 26,.p (.bin .add (T 14) (C (.int .i64 1))),none⟩,
 ⟨some 14,.p (.mov (T 26)),none⟩]
def zLY:List XO:=zLZ
theorem xq381_8e:E3 zLY zLZ:=E3.rfl
def zGQ:XC :=
 .seq (.ops zLS) (.seq (.cond (T 15) (.skip) (.exit 0)) (.seq (.block 1 (.seq (.ops zLU) (.draw zLW []))) (.ops zLY)))
def zLa:XC:=zGQ
theorem xq381_9k {pr:Prog} {k:List KI} {Q:XE→Fr→Heap→Prop} {t:Fr} {h:Heap} (hw:wpk pr zGQ k Q t h):wpk pr zLa k Q t h:=hw
abbrev zLK:List XO:=[
 ⟨some 27,.p (.mov (T 5)),none⟩,
 ⟨some 28,.p (.eql false .int (T 27) (C (.int .u8 0))),none⟩,
 ⟨some 4,.p (.mov (T 28)),none⟩]
def zLJ:List XO:=zLK
theorem zPE:E3 zLJ zLK:=E3.rfl
def xq381:XF:=⟨2,[.tmp 4],
 .seq (.ops zLG) (.seq (.seq (.ops zLI) (.cond (T 11) (.seq (.ops zLM) (.ret)) (.skip))) (.seq (.ops zLO) (.seq (.seq (.ops zLQ) (.block 0 (.loop zLa))) (.seq (.ops zLJ) (.ret)))))⟩
def yq381:=PLift.up (And.intro (And.intro (And.intro (@xq381_0e) (@xq381_1e)) (And.intro (@xq381_2e) (And.intro (@xq381_3e) (@xq381_4e)))) (And.intro (And.intro (@xq381_5e) (@xq381_6e)) (And.intro (@xq381_7e) (And.intro (@xq381_8e) (@zPE)))))
end Go.X
end
section
namespace Go.X
open Go.Proofs
abbrev zJd:List XO:=[
 ⟨some 2,.p (.mov (C (.string (zY [])))),none⟩]
def zJc:List XO:=zJd
theorem xq247_0e:E3 zJc zJd:=E3.rfl
abbrev zJf:List XO:=[
 ⟨some 3,.p (.mov (T 0)),none⟩,
 ⟨some 4,.p (.bin .shr (T 3) (C (.int .u64 24))),none⟩,
 ⟨some 5,.p (.cint .u8 (T 4)),none⟩,
 ⟨some 6,.p (.mov (T 0)),none⟩,
 ⟨some 7,.p (.bin .shr (T 6) (C (.int .u64 16))),none⟩,
 ⟨some 8,.p (.cint .u8 (T 7)),none⟩,
 ⟨some 9,.p (.mov (T 0)),none⟩,
 ⟨some 10,.p (.bin .shr (T 9) (C (.int .u64 8))),none⟩,
 ⟨some 11,.p (.cint .u8 (T 10)),none⟩,
 ⟨some 12,.p (.mov (T 0)),none⟩,
 ⟨some 13,.p (.cint .u8 (T 12)),none⟩,
 ⟨some 14,.a (.bslice (List.replicate 4 (.int .u8 0)) 4 [(0,1,(T 5)),(1,1,(T 8)),(2,1,(T 11)),(3,1,(T 13))]),none⟩,
 ⟨some 15,.r (.cb2s (T 14)),none⟩,
 ⟨some 2,.p (.mov (T 15)),none⟩]
def zJe:List XO:=zJf
theorem xq247_1e:E3 zJe zJf:=E3.rfl
def xq247:XF:=⟨1,[.tmp 2],
 .seq (.ops zJc) (.seq (.ops zJe) (.ret))⟩
def yq247:=PLift.up (And.intro (@xq247_0e) (@xq247_1e))
theorem cq247:zt Tryz.prog Tryz.f247=some xq247:=by kernel_rfl
abbrev zI1:List XO:=[
 ⟨some 4,.p (.mov (C (.string (zY [])))),none⟩]
def zI0:List XO:=zI1
theorem xq144_0e:E3 zI0 zI1:=E3.rfl
abbrev zI5:List XO:=[
 ⟨some 8,.call (.func 245) [],none⟩,
 ⟨some 5,.p (.mov (T 8)),none⟩]
def zI2:List XO:=zI5
theorem xq144_1e:E3 zI2 zI5:=E3.rfl
abbrev zI7:List XO:=[
 ⟨some 9,.p (.mov (T 5)),none⟩,
 ⟨some 10,.p (.mov (T 0)),none⟩,
 ⟨some 11,.a (.bslice [(.int .u8 0)] 1 [(0,1,(T 10))]),none⟩,
 ⟨some 12,.r (.cb2s (T 11)),none⟩,
 ⟨some 13,.call (.func 246) [(T 9),(T 12)],none⟩]
def zI6:List XO:=zI7
theorem xq144_2e:E3 zI6 zI7:=E3.rfl
abbrev zI9:List XO:=[
 ⟨some 14,.p (.mov (T 1)),none⟩,
 ⟨some 15,.p (.lenV (T 14)),none⟩,
 ⟨some 16,.p (.mov (C (.int .i64 0))),none⟩]
def zI8:List XO:=zI9
theorem xq144_3e:E3 zI8 zI9:=E3.rfl
abbrev zJB:List XO:=[
 ⟨some 17,.p (.bin .lss (T 16) (T 15)),none⟩]
def zJA:List XO:=zJB
theorem xq144_4e:E3 zJA zJB:=E3.rfl
abbrev zJD:List XO:=[
 ⟨some 18,.p (.iaddrS 1 (T 14) (T 16)),none⟩,
 ⟨some 19,.r (.load1 (T 18)),none⟩,
 ⟨some 7,.p (.mov (T 19)),none⟩]
def zJC:List XO:=zJD
theorem xq144_5e:E3 zJC zJD:=E3.rfl
abbrev zJF:List XO:=[
 ⟨some 20,.p (.mov (T 5)),none⟩,
 ⟨some 21,.p (.mov (T 7)),none⟩,
 ⟨some 22,.p (.lenS (T 21)),none⟩,
 ⟨some 23,.call (.func 247) [(T 22)],none⟩,
 ⟨some 24,.call (.func 246) [(T 20),(T 23)],none⟩]
def zJE:List XO:=zJF
theorem xq144_6e:E3 zJE zJF:=E3.rfl
abbrev zJH:List XO:=[
 ⟨some 25,.p (.mov (T 5)),none⟩,
 ⟨some 26,.p (.mov (T 7)),none⟩,
 ⟨some 27,.call (.func 246) [(T 25),(T 26)],none⟩]
def zJG:List XO:=zJH
theorem xq144_7e:E3 zJG zJH:=E3.rfl
abbrev zJJ:List XO:=[
 ⟨some 28,.p (.bin .add (T 16) (C (.int .i64 1))),none⟩,
 ⟨some 16,.p (.mov (T 28)),none⟩]
def zJI:List XO:=zJJ
theorem xq144_8e:E3 zJI zJJ:=E3.rfl
def zGA:XC :=
 .seq (.ops zJA) (.seq (.cond (T 17) (.skip) (.exit 0)) (.seq (.block 1 (.seq (.ops zJC) (.seq (.ops zJE) (.ops zJG)))) (.ops zJI)))
def zJK:XC:=zGA
theorem xq144_9k {pr:Prog} {k:List KI} {Q:XE→Fr→Heap→Prop} {t:Fr} {h:Heap} (hw:wpk pr zGA k Q t h):wpk pr zJK k Q t h:=hw
abbrev zI4:List XO:=[
 ⟨some 29,.p (.mov (T 5)),none⟩,
 ⟨some 30,.call (.func 248) [(T 29)],none⟩,
 ⟨some 4,.p (.mov (T 30)),none⟩]
def zI3:List XO:=zI4
theorem zOj:E3 zI3 zI4:=E3.rfl
def xq144:XF:=⟨2,[.tmp 4],
 .seq (.ops zI0) (.seq (.ops zI2) (.seq (.ops zI6) (.seq (.seq (.ops zI8) (.block 0 (.loop zJK))) (.seq (.ops zI3) (.ret)))))⟩
def yq144:=PLift.up (And.intro (And.intro (And.intro (@xq144_0e) (@xq144_1e)) (And.intro (@xq144_2e) (And.intro (@xq144_3e) (@xq144_4e)))) (And.intro (And.intro (@xq144_5e) (@xq144_6e)) (And.intro (@xq144_7e) (And.intro (@xq144_8e) (@zOj)))))
theorem cq144:zt Tryz.prog Tryz.f144=some xq144:=by kernel_rfl
end Go.X
end
