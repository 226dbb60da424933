/- The digest in plain words; the functions of the seat as the interpreter has them, each held against the loaded program. -/
import Derived.Test.YtnppabpbdobaiaaGreatProg
import Derived.KernelRfl
import Derived.Test.YtnppabpbdobaiaaGreatXC
set_option linter.unusedSimpArgs false
set_option linter.unusedVariables false
set_option maxHeartbeats 2000000
open Nat renaming reduceLeDiff → zeu, reduceEqDiff → zev, reduceAdd → zew
open Int renaming reduceBEq → zex, reduceLT → zey, reduceLE → zez, reduceGT → ze0, reduceGE → ze1, reduceEq → ze2, reduceAdd → ze3, reduceSub → ze4, reduceMul → ze5
section
namespace Go.X.Sha
def rotr (x n:Nat):Nat:=Nat.lor ((x % 4294967296) >>> n) ((x <<< (32 - n)) % 4294967296)
def s0 (x:Nat):Nat:=Nat.xor (Nat.xor (rotr x 7) (rotr x 18)) ((x % 4294967296) >>> 3)
def s1 (x:Nat):Nat:=Nat.xor (Nat.xor (rotr x 17) (rotr x 19)) ((x % 4294967296) >>> 10)
def e0 (x:Nat):Nat:=Nat.xor (Nat.xor (rotr x 2) (rotr x 13)) (rotr x 22)
def e1 (x:Nat):Nat:=Nat.xor (Nat.xor (rotr x 6) (rotr x 11)) (rotr x 25)
def ch (e f g:Nat):Nat:=Nat.xor (Nat.land e f) (Nat.land (4294967295 - e % 4294967296) g)
def maj (a b c:Nat):Nat:=Nat.xor (Nat.xor (Nat.land a b) (Nat.land a c)) (Nat.land b c)
def K:List Nat:=[
0x428a2f98,0x71374491,0xb5c0fbcf,0xe9b5dba5,0x3956c25b,0x59f111f1,0x923f82a4,0xab1c5ed5,
 0xd807aa98,0x12835b01,0x243185be,0x550c7dc3,0x72be5d74,0x80deb1fe,0x9bdc06a7,0xc19bf174,
 0xe49b69c1,0xefbe4786,0x0fc19dc6,0x240ca1cc,0x2de92c6f,0x4a7484aa,0x5cb0a9dc,0x76f988da,
 0x983e5152,0xa831c66d,0xb00327c8,0xbf597fc7,0xc6e00bf3,0xd5a79147,0x06ca6351,0x14292967,
 0x27b70a85,0x2e1b2138,0x4d2c6dfc,0x53380d13,0x650a7354,0x766a0abb,0x81c2c92e,0x92722c85,
 0xa2bfe8a1,0xa81a664b,0xc24b8b70,0xc76c51a3,0xd192e819,0xd6990624,0xf40e3585,0x106aa070,
 0x19a4c116,0x1e376c08,0x2748774c,0x34b0bcb5,0x391c0cb3,0x4ed8aa4a,0x5b9cca4f,0x682e6ff3,
 0x748f82ee,0x78a5636f,0x84c87814,0x8cc70208,0x90befffa,0xa4506ceb,0xbef9a3f7,0xc67178f2]
def H0:List Nat:=[0x6a09e667,0xbb67ae85,0x3c6ef372,0xa54ff53a,0x510e527f,0x9b05688c,0x1f83d9ab,0x5be0cd19]
def round (k w:Nat):List Nat→List Nat
 | [a,b,c,d,e,f,g,h]=>
  let t:=(h + e1 e + ch e f g + k + w) % 4294967296
  [(t + e0 a + maj a b c) % 4294967296,a,b,c,(d + t) % 4294967296,e,f,g]
 | l=>l
def sched:Nat→List Nat→List Nat
 | 0,_=>[]
 | n + 1,w=>(w.getD 0 0) :: sched n (w.drop 1 ++ [(w.getD 0 0 + s0 (w.getD 1 0) + w.getD 9 0 + s1 (w.getD 14 0)) % 4294967296])
def rounds:List Nat→List Nat→List Nat→List Nat
 | k :: ks,w :: ws,v=>rounds ks ws (round k w v)
 | _,_,v=>v
def addAll:List Nat→List Nat→List Nat
 | a :: u,b :: bs=>((a + b) % 4294967296) :: addAll u bs
 | _,_=>[]
def block (h w:List Nat):List Nat:=addAll h (rounds K (sched 64 w) h)
def words:List Nat→List Nat
 | a :: b :: c :: d :: r=>(((a * 256 + b) * 256 + c) * 256 + d) :: words r
 | _=>[]
def zFm:Nat→List Nat→List Nat→List Nat
 | 0,h,_=>h
 | n + 1,h,w=>zFm n (block h (w.take 16)) (w.drop 16)
def zF7 (n:Nat):List Nat:=[n / 72057594037927936 % 256,n / 281474976710656 % 256,n / 1099511627776 % 256,n / 4294967296 % 256,n / 16777216 % 256,n / 65536 % 256,n / 256 % 256,n % 256]
def pad (b:List Nat):List Nat:=b ++ 128 :: List.replicate ((119 - b.length % 64) % 64) 0 ++ zF7 (b.length * 8 % 18446744073709551616)
def zGj:List Nat→List Nat
 | []=>[]
 | x :: r=>(x / 16777216 % 256) :: (x / 65536 % 256) :: (x / 256 % 256) :: (x % 256) :: zGj r
def shaN (b:List Nat):List Nat:=zGj (zFm ((pad b).length / 64) H0 (words (pad b)))
def sha (b:List UInt8):List UInt8:=(shaN (b.map (·.toNat))).map UInt8.ofNat
end Go.X.Sha
end
section
namespace Go.X
open Go.Proofs
abbrev zYG:List XO:=[
 ⟨some 4,.p (.mov (C (.int .u32 0))),none⟩]
def zYF:List XO:=zYG
theorem xq247_0e:E3 zYF zYG:=E3.rfl
abbrev zYI:List XO:=[
 ⟨some 5,.p (.mov (T 0)),none⟩,
 ⟨some 6,.p (.mov (T 1)),none⟩,
 ⟨some 7,.p (.un .neg (T 6)),none⟩,
 ⟨some 8,.call (.func 268) [(T 5),(T 7)],none⟩,
 ⟨some 4,.p (.mov (T 8)),none⟩]
def zYH:List XO:=zYI
theorem xq247_1e:E3 zYH zYI:=E3.rfl
def xq247:XF:=⟨2,[.tmp 4],
 .seq (.ops zYF) (.seq (.ops zYH) (.ret))⟩
def yq247:=PLift.up (And.intro (@xq247_0e) (@xq247_1e))
theorem cq247:zg Tryz.prog Tryz.f247 = some xq247:=by kernel_rfl
abbrev zYK:List XO:=[
 ⟨some 4,.p (.mov (C (.int .u32 0))),none⟩]
def zYJ:List XO:=zYK
theorem xq268_0e:E3 zYJ zYK:=E3.rfl
abbrev zYM:List XO:=[
 ⟨some 6,.p (.mov (T 1)),none⟩,
 ⟨some 7,.p (.cint .u64 (T 6)),none⟩,
 ⟨some 8,.p (.bin .and (T 7) (C (.int .u64 31))),none⟩,
 ⟨some 5,.p (.mov (T 8)),none⟩]
def zYL:List XO:=zYM
theorem xq268_1e:E3 zYL zYM:=E3.rfl
abbrev zYO:List XO:=[
 ⟨some 9,.p (.mov (T 0)),none⟩,
 ⟨some 10,.p (.mov (T 5)),none⟩,
 ⟨some 11,.p (.bin .shl (T 9) (T 10)),none⟩,
 ⟨some 12,.p (.mov (T 0)),none⟩,
 ⟨some 13,.p (.mov (T 5)),none⟩,
 ⟨some 14,.p (.bin .sub (C (.int .u64 32)) (T 13)),none⟩,
 ⟨some 15,.p (.bin .shr (T 12) (T 14)),none⟩,
 ⟨some 16,.p (.bin .or (T 11) (T 15)),none⟩,
 ⟨some 4,.p (.mov (T 16)),none⟩]
def zYN:List XO:=zYO
theorem xq268_2e:E3 zYN zYO:=E3.rfl
def xq268:XF:=⟨2,[.tmp 4],
 .seq (.ops zYJ) (.seq (.ops zYL) (.seq (.ops zYN) (.ret)))⟩
def yq268:=PLift.up (And.intro (@xq268_0e) (And.intro (@xq268_1e) (@xq268_2e)))
theorem cq268:zg Tryz.prog Tryz.f268 = some xq268:=by kernel_rfl
abbrev zXY:List XO:=[
 ⟨some 0,.a (.alloc (List.replicate 64 (.int .u32 0))),none⟩]
def zXX:List XO:=zXY
theorem xq245_0e:E3 zXX zXY:=E3.rfl
abbrev zXa:List XO:=[
 ⟨some 1,.p (.build (List.replicate 64 (.int .u32 0)) [(0,1,(C (.int .u32 1116352408))),(1,1,(C (.int .u32 1899447441))),(2,1,(C (.int .u32 3049323471))),(3,1,(C (.int .u32 3921009573))),(4,1,(C (.int .u32 961987163))),(5,1,(C (.int .u32 1508970993))),(6,1,(C (.int .u32 2453635748))),(7,1,(C (.int .u32 2870763221))),(8,1,(C (.int .u32 3624381080))),(9,1,(C (.int .u32 310598401))),(10,1,(C (.int .u32 607225278))),(11,1,(C (.int .u32 1426881987))),(12,1,(C (.int .u32 1925078388))),(13,1,(C (.int .u32 2162078206))),(14,1,(C (.int .u32 2614888103))),(15,1,(C (.int .u32 3248222580))),(16,1,(C (.int .u32 3835390401))),(17,1,(C (.int .u32 4022224774))),(18,1,(C (.int .u32 264347078))),(19,1,(C (.int .u32 604807628))),(20,1,(C (.int .u32 770255983))),(21,1,(C (.int .u32 1249150122))),(22,1,(C (.int .u32 1555081692))),(23,1,(C (.int .u32 1996064986))),(24,1,(C (.int .u32 2554220882))),(25,1,(C (.int .u32 2821834349))),(26,1,(C (.int .u32 2952996808))),(27,1,(C (.int .u32 3210313671))),(28,1,(C (.int .u32 3336571891))),(29,1,(C (.int .u32 3584528711))),(30,1,(C (.int .u32 113926993))),(31,1,(C (.int .u32 338241895))),(32,1,(C (.int .u32 666307205))),(33,1,(C (.int .u32 773529912))),(34,1,(C (.int .u32 1294757372))),(35,1,(C (.int .u32 1396182291))),(36,1,(C (.int .u32 1695183700))),(37,1,(C (.int .u32 1986661051))),(38,1,(C (.int .u32 2177026350))),(39,1,(C (.int .u32 2456956037))),(40,1,(C (.int .u32 2730485921))),(41,1,(C (.int .u32 2820302411))),(42,1,(C (.int .u32 3259730800))),(43,1,(C (.int .u32 3345764771))),(44,1,(C (.int .u32 3516065817))),(45,1,(C (.int .u32 3600352804))),(46,1,(C (.int .u32 4094571909))),(47,1,(C (.int .u32 275423344))),(48,1,(C (.int .u32 430227734))),(49,1,(C (.int .u32 506948616))),(50,1,(C (.int .u32 659060556))),(51,1,(C (.int .u32 883997877))),(52,1,(C (.int .u32 958139571))),(53,1,(C (.int .u32 1322822218))),(54,1,(C (.int .u32 1537002063))),(55,1,(C (.int .u32 1747873779))),(56,1,(C (.int .u32 1955562222))),(57,1,(C (.int .u32 2024104815))),(58,1,(C (.int .u32 2227730452))),(59,1,(C (.int .u32 2361852424))),(60,1,(C (.int .u32 2428436474))),(61,1,(C (.int .u32 2756734187))),(62,1,(C (.int .u32 3204031479))),(63,1,(C (.int .u32 3329325298)))]),none⟩,
 ⟨none,.e (.store 64 (T 0) (T 1)),none⟩]
def zXZ:List XO:=zXa
theorem xq245_1e:E3 zXZ zXa:=E3.rfl
def xq245:XF:=⟨0,[.cellN 0 64],
 .seq (.ops zXX) (.seq (.ops zXZ) (.ret))⟩
def yq245:=PLift.up (And.intro (@xq245_0e) (@xq245_1e))
theorem cq245:zg Tryz.prog Tryz.f245 = some xq245:=by kernel_rfl
abbrev zWX:List XO:=[
 ⟨some 0,.a (.alloc (List.replicate 8 (.int .u32 0))),none⟩]
def zWW:List XO:=zWX
theorem xq221_0e:E3 zWW zWX:=E3.rfl
abbrev zWZ:List XO:=[
 ⟨some 1,.p (.build (List.replicate 8 (.int .u32 0)) [(0,1,(C (.int .u32 1779033703))),(1,1,(C (.int .u32 3144134277))),(2,1,(C (.int .u32 1013904242))),(3,1,(C (.int .u32 2773480762))),(4,1,(C (.int .u32 1359893119))),(5,1,(C (.int .u32 2600822924))),(6,1,(C (.int .u32 528734635))),(7,1,(C (.int .u32 1541459225)))]),none⟩,
 ⟨none,.e (.store 8 (T 0) (T 1)),none⟩]
def zWY:List XO:=zWZ
theorem xq221_1e:E3 zWY zWZ:=E3.rfl
def xq221:XF:=⟨0,[.cellN 0 8],
 .seq (.ops zWW) (.seq (.ops zWY) (.ret))⟩
def yq221:=PLift.up (And.intro (@xq221_0e) (@xq221_1e))
theorem cq221:zg Tryz.prog Tryz.f221 = some xq221:=by kernel_rfl
abbrev zXc:List XO:=[
 ⟨some 2,.a (.alloc (List.replicate 64 (.int .u32 0))),none⟩]
def zXb:List XO:=zXc
theorem xq246_0e:E3 zXb zXc:=E3.rfl
abbrev zXv:List XO:=[
 ⟨some 3,.a (.alloc (List.replicate 64 (.int .u32 0))),none⟩]
def zXd:List XO:=zXv
theorem xq246_1e:E3 zXd zXv:=E3.rfl
abbrev zX0:List XO:=[
 ⟨some 11,.p (.mov (C (.int .i64 0))),none⟩]
def zXw:List XO:=zX0
theorem xq246_2e:E3 zXw zX0:=E3.rfl
abbrev zX2:List XO:=[
 ⟨some 12,.p (.bin .lss (T 11) (C (.int .i64 16))),none⟩]
def zX1:List XO:=zX2
theorem xq246_3e:E3 zX1 zX2:=E3.rfl
abbrev zX4:List XO:=[
 ⟨some 13,.p (.mov (T 11)),none⟩,
 ⟨some 4,.p (.mov (T 13)),none⟩]
def zX3:List XO:=zX4
theorem xq246_4e:E3 zX3 zX4:=E3.rfl
abbrev zX6:List XO:=[
 ⟨some 14,.p (.mov (C (.int .i64 0))),none⟩]
def zX5:List XO:=zX6
theorem xq246_5e:E3 zX5 zX6:=E3.rfl
abbrev zX8:List XO:=[
 ⟨some 15,.p (.bin .lss (T 14) (C (.int .i64 4))),none⟩]
def zX7:List XO:=zX8
theorem xq246_6e:E3 zX7 zX8:=E3.rfl
abbrev zYA:List XO:=[
 ⟨some 16,.p (.mov (T 14)),none⟩,
 ⟨some 5,.p (.mov (T 16)),none⟩]
def zX9:List XO:=zYA
theorem xq246_7e:E3 zX9 zYA:=E3.rfl
abbrev zYC:List XO:=[
 ⟨some 17,.p (.mov (T 4)),none⟩,
 ⟨some 18,.p (.mov (T 4)),none⟩,
 ⟨some 19,.p (.iaddrA 64 1 (T 3) (T 18)),none⟩,
 ⟨some 20,.r (.load1 (T 19)),none⟩,
 ⟨some 21,.p (.bin .shl (T 20) (C (.int .u64 8))),none⟩,
 ⟨some 22,.p (.mov (T 0)),none⟩,
 ⟨some 23,.p (.mov (T 4)),none⟩,
 ⟨some 24,.p (.bin .mul (C (.int .i64 4)) (T 23)),none⟩,
 ⟨some 25,.p (.mov (T 5)),none⟩,
 ⟨some 26,.p (.bin .add (T 24) (T 25)),none⟩,
 ⟨some 27,.p (.iaddrS 1 (T 22) (T 26)),none⟩,
 ⟨some 28,.r (.load1 (T 27)),none⟩,
 ⟨some 29,.p (.cint .u32 (T 28)),none⟩,
 ⟨some 30,.p (.bin .or (T 21) (T 29)),none⟩,
 ⟨some 31,.p (.iaddrA 64 1 (T 3) (T 17)),none⟩,
 ⟨none,.e (.store 1 (T 31) (T 30)),none⟩]
def zYB:List XO:=zYC
theorem xq246_8e:E3 zYB zYC:=E3.rfl
abbrev zYE:List XO:=[
 ⟨some 32,.p (.bin .add (T 14) (C (.int .i64 1))),none⟩,
 ⟨some 14,.p (.mov (T 32)),none⟩]
def zYD:List XO:=zYE
theorem xq246_9e:E3 zYD zYE:=E3.rfl
def zJw:XC:=
 .seq (.ops zX7) (.seq (.cond (T 15) (.skip) (.exit 2)) (.seq (.block 3 (.seq (.ops zX9) (.draw zYB []))) (.ops zYD)))
def zJv:XC:=zJw
theorem zef {pr:Prog} {k:List KI} {Q:XE→Fr→Heap→Prop} {t:Fr} {h:Heap} (hw:wpk pr zJw k Q t h):wpk pr zJv k Q t h:=hw
abbrev zXf:List XO:=[
 ⟨some 33,.p (.bin .add (T 11) (C (.int .i64 1))),none⟩,
 ⟨some 11,.p (.mov (T 33)),none⟩]
def zXe:List XO:=zXf
theorem zeg:E3 zXe zXf:=E3.rfl
def zGr:XC:=
 .seq (.ops zX1) (.seq (.cond (T 12) (.skip) (.exit 0)) (.seq (.block 1 (.seq (.ops zX3) (.seq (.ops zX5) (.block 2 (.loop zJv))))) (.ops zXe)))
def zJx:XC:=zGr
theorem zXg {pr:Prog} {k:List KI} {Q:XE→Fr→Heap→Prop} {t:Fr} {h:Heap} (hw:wpk pr zGr k Q t h):wpk pr zJx k Q t h:=hw
abbrev zXi:List XO:=[
 ⟨some 6,.p (.mov (C (.int .i64 16))),none⟩]
def zXh:List XO:=zXi
theorem zeh:E3 zXh zXi:=E3.rfl
abbrev zXk:List XO:=[
 ⟨some 34,.p (.mov (T 6)),none⟩,
 ⟨some 35,.p (.bin .lss (T 34) (C (.int .i64 64))),none⟩]
def zXj:List XO:=zXk
theorem zei:E3 zXj zXk:=E3.rfl
abbrev zXm:List XO:=[
 ⟨some 38,.p (.mov (T 6)),none⟩,
 ⟨some 39,.p (.bin .sub (T 38) (C (.int .i64 15))),none⟩,
 ⟨some 40,.p (.iaddrA 64 1 (T 3) (T 39)),none⟩,
 ⟨some 41,.r (.load1 (T 40)),none⟩,
 ⟨some 42,.p (.mov (T 6)),none⟩,
 ⟨some 43,.p (.bin .sub (T 42) (C (.int .i64 2))),none⟩,
 ⟨some 44,.p (.iaddrA 64 1 (T 3) (T 43)),none⟩,
 ⟨some 45,.r (.load1 (T 44)),none⟩,
 ⟨some 7,.p (.mov (T 41)),none⟩,
 ⟨some 8,.p (.mov (T 45)),none⟩]
def zXl:List XO:=zXm
theorem zej:E3 zXl zXm:=E3.rfl
abbrev zXo:List XO:=[
 ⟨some 46,.p (.mov (T 7)),none⟩,
 ⟨some 47,.call (.func 247) [(T 46),(C (.int .i64 7))],none⟩,
 ⟨some 48,.p (.mov (T 7)),none⟩,
 ⟨some 49,.call (.func 247) [(T 48),(C (.int .i64 18))],none⟩,
 ⟨some 50,.p (.bin .xor (T 47) (T 49)),none⟩,
 ⟨some 51,.p (.mov (T 7)),none⟩,
 ⟨some 52,.p (.bin .shr (T 51) (C (.int .u64 3))),none⟩,
 ⟨some 53,.p (.bin .xor (T 50) (T 52)),none⟩,
 ⟨some 9,.p (.mov (T 53)),none⟩]
def zXn:List XO:=zXo
theorem zek:E3 zXn zXo:=E3.rfl
abbrev zXq:List XO:=[
 ⟨some 54,.p (.mov (T 8)),none⟩,
 ⟨some 55,.call (.func 247) [(T 54),(C (.int .i64 17))],none⟩,
 ⟨some 56,.p (.mov (T 8)),none⟩,
 ⟨some 57,.call (.func 247) [(T 56),(C (.int .i64 19))],none⟩,
 ⟨some 58,.p (.bin .xor (T 55) (T 57)),none⟩,
 ⟨some 59,.p (.mov (T 8)),none⟩,
 ⟨some 60,.p (.bin .shr (T 59) (C (.int .u64 10))),none⟩,
 ⟨some 61,.p (.bin .xor (T 58) (T 60)),none⟩,
 ⟨some 10,.p (.mov (T 61)),none⟩]
def zXp:List XO:=zXq
theorem zel:E3 zXp zXq:=E3.rfl
abbrev zXs:List XO:=[
 ⟨some 62,.p (.mov (T 6)),none⟩,
 ⟨some 63,.p (.mov (T 6)),none⟩,
 ⟨some 64,.p (.bin .sub (T 63) (C (.int .i64 16))),none⟩,
 ⟨some 65,.p (.iaddrA 64 1 (T 3) (T 64)),none⟩,
 ⟨some 66,.r (.load1 (T 65)),none⟩,
 ⟨some 67,.p (.mov (T 9)),none⟩,
 ⟨some 68,.p (.bin .add (T 66) (T 67)),none⟩,
 ⟨some 69,.p (.mov (T 6)),none⟩,
 ⟨some 70,.p (.bin .sub (T 69) (C (.int .i64 7))),none⟩,
 ⟨some 71,.p (.iaddrA 64 1 (T 3) (T 70)),none⟩,
 ⟨some 72,.r (.load1 (T 71)),none⟩,
 ⟨some 73,.p (.bin .add (T 68) (T 72)),none⟩,
 ⟨some 74,.p (.mov (T 10)),none⟩,
 ⟨some 75,.p (.bin .add (T 73) (T 74)),none⟩,
 ⟨some 76,.p (.iaddrA 64 1 (T 3) (T 62)),none⟩,
 ⟨none,.e (.store 1 (T 76) (T 75)),none⟩]
def zXr:List XO:=zXs
theorem zem:E3 zXr zXs:=E3.rfl
abbrev zXu:List XO:=[
 ⟨some 36,.p (.mov (T 6)),none⟩,
 ⟨some 37,.p (.bin .add (T 36) (C (.int .i64 1))),none⟩,
 ⟨some 6,.p (.mov (T 37)),none⟩]
def zXt:List XO:=zXu
theorem zen:E3 zXt zXu:=E3.rfl
def zGs:XC:=
 .seq (.seq (.ops zXj) (.cond (T 35) (.skip) (.exit 4))) (.seq (.block 5 (.seq (.draw zXl []) (.seq (.ops zXn) (.seq (.ops zXp) (.draw zXr []))))) (.ops zXt))
def zJy:XC:=zGs
theorem zXx {pr:Prog} {k:List KI} {Q:XE→Fr→Heap→Prop} {t:Fr} {h:Heap} (hw:wpk pr zGs k Q t h):wpk pr zJy k Q t h:=hw
abbrev zXz:List XO:=[
 ⟨some 77,.r (.loadN 64 (T 3)),none⟩,
 ⟨none,.e (.store 64 (T 2) (T 77)),none⟩]
def zXy:List XO:=zXz
theorem zeo:E3 zXy zXz:=E3.rfl
def xq246:XF:=⟨1,[.cellN 2 64],
 .seq (.ops zXb) (.seq (.ops zXd) (.seq (.seq (.ops zXw) (.block 0 (.loop zJx))) (.seq (.seq (.ops zXh) (.block 4 (.loop zJy))) (.seq (.ops zXy) (.ret)))))⟩
def yq246:=PLift.up (And.intro (And.intro (And.intro (And.intro (@xq246_0e) (@xq246_1e)) (And.intro (@xq246_2e) (@xq246_3e))) (And.intro (And.intro (@xq246_4e) (@xq246_5e)) (And.intro (@xq246_6e) (And.intro (@xq246_7e) (@xq246_8e))))) (And.intro (And.intro (And.intro (@xq246_9e) (@zeg)) (And.intro (@zeh) (And.intro (@zei) (@zej)))) (And.intro (And.intro (@zek) (@zel)) (And.intro (@zem) (And.intro (@zen) (@zeo))))))
theorem cq246:zg Tryz.prog Tryz.f246 = some xq246:=by kernel_rfl
abbrev zWb:List XO:=[
 ⟨some 14,.call (.func 245) [],none⟩,
 ⟨some 15,.p (.mov (T 1)),none⟩,
 ⟨some 16,.call (.func 246) [(T 15)],none⟩,
 ⟨some 4,.a (.alloc (List.replicate 64 (.int .u32 0))),none⟩,
 ⟨some 5,.a (.alloc (List.replicate 64 (.int .u32 0))),none⟩,
 ⟨none,.e (.store 64 (T 4) (T 14)),none⟩,
 ⟨none,.e (.store 64 (T 5) (T 16)),none⟩]
def zWa:List XO:=zWb
theorem xq222_0e:E3 zWa zWb:=E3.rfl
abbrev zWr:List XO:=[
 ⟨some 17,.p (.mov (T 0)),none⟩,
 ⟨some 18,.p (.nilc (T 17)),none⟩,
 ⟨some 19,.p (.faddr 0 (T 18)),none⟩,
 ⟨some 20,.r (.loadN 8 (T 19)),none⟩,
 ⟨some 6,.a (.alloc (List.replicate 8 (.int .u32 0))),none⟩,
 ⟨none,.e (.store 8 (T 6) (T 20)),none⟩]
def zWc:List XO:=zWr
theorem xq222_1e:E3 zWc zWr:=E3.rfl
abbrev zWt:List XO:=[
 ⟨some 21,.p (.mov (C (.int .i64 0))),none⟩]
def zWs:List XO:=zWt
theorem xq222_2e:E3 zWs zWt:=E3.rfl
abbrev zWv:List XO:=[
 ⟨some 22,.p (.bin .lss (T 21) (C (.int .i64 64))),none⟩]
def zWu:List XO:=zWv
theorem xq222_3e:E3 zWu zWv:=E3.rfl
abbrev zWx:List XO:=[
 ⟨some 23,.p (.mov (T 21)),none⟩,
 ⟨some 7,.p (.mov (T 23)),none⟩]
def zWw:List XO:=zWx
theorem xq222_4e:E3 zWw zWx:=E3.rfl
abbrev zWz:List XO:=[
 ⟨some 24,.p (.iaddrA 8 1 (T 6) (C (.int .i64 4))),none⟩,
 ⟨some 25,.r (.load1 (T 24)),none⟩,
 ⟨some 26,.call (.func 247) [(T 25),(C (.int .i64 6))],none⟩,
 ⟨some 27,.p (.iaddrA 8 1 (T 6) (C (.int .i64 4))),none⟩,
 ⟨some 28,.r (.load1 (T 27)),none⟩,
 ⟨some 29,.call (.func 247) [(T 28),(C (.int .i64 11))],none⟩,
 ⟨some 30,.p (.bin .xor (T 26) (T 29)),none⟩,
 ⟨some 31,.p (.iaddrA 8 1 (T 6) (C (.int .i64 4))),none⟩,
 ⟨some 32,.r (.load1 (T 31)),none⟩,
 ⟨some 33,.call (.func 247) [(T 32),(C (.int .i64 25))],none⟩,
 ⟨some 34,.p (.bin .xor (T 30) (T 33)),none⟩,
 ⟨some 8,.p (.mov (T 34)),none⟩]
def zWy:List XO:=zWz
theorem xq222_5e:E3 zWy zWz:=E3.rfl
abbrev zW1:List XO:=[
 ⟨some 35,.p (.iaddrA 8 1 (T 6) (C (.int .i64 4))),none⟩,
 ⟨some 36,.r (.load1 (T 35)),none⟩,
 ⟨some 37,.p (.iaddrA 8 1 (T 6) (C (.int .i64 5))),none⟩,
 ⟨some 38,.r (.load1 (T 37)),none⟩,
 ⟨some 39,.p (.bin .and (T 36) (T 38)),none⟩,
 ⟨some 40,.p (.iaddrA 8 1 (T 6) (C (.int .i64 4))),none⟩,
 ⟨some 41,.r (.load1 (T 40)),none⟩,
 ⟨some 42,.p (.un .xor (T 41)),none⟩,
 ⟨some 43,.p (.iaddrA 8 1 (T 6) (C (.int .i64 6))),none⟩,
 ⟨some 44,.r (.load1 (T 43)),none⟩,
 ⟨some 45,.p (.bin .and (T 42) (T 44)),none⟩,
 ⟨some 46,.p (.bin .xor (T 39) (T 45)),none⟩,
 ⟨some 9,.p (.mov (T 46)),none⟩]
def zW0:List XO:=zW1
theorem xq222_6e:E3 zW0 zW1:=E3.rfl
abbrev zW3:List XO:=[
 ⟨some 47,.p (.iaddrA 8 1 (T 6) (C (.int .i64 7))),none⟩,
 ⟨some 48,.r (.load1 (T 47)),none⟩,
 ⟨some 49,.p (.mov (T 8)),none⟩,
 ⟨some 50,.p (.bin .add (T 48) (T 49)),none⟩,
 ⟨some 51,.p (.mov (T 9)),none⟩,
 ⟨some 52,.p (.bin .add (T 50) (T 51)),none⟩,
 ⟨some 53,.p (.mov (T 7)),none⟩,
 ⟨some 54,.p (.iaddrA 64 1 (T 4) (T 53)),none⟩,
 ⟨some 55,.r (.load1 (T 54)),none⟩,
 ⟨some 56,.p (.bin .add (T 52) (T 55)),none⟩,
 ⟨some 57,.p (.mov (T 7)),none⟩,
 ⟨some 58,.p (.iaddrA 64 1 (T 5) (T 57)),none⟩,
 ⟨some 59,.r (.load1 (T 58)),none⟩,
 ⟨some 60,.p (.bin .add (T 56) (T 59)),none⟩,
 ⟨some 10,.p (.mov (T 60)),none⟩]
def zW2:List XO:=zW3
theorem xq222_7e:E3 zW2 zW3:=E3.rfl
abbrev zW5:List XO:=[
 ⟨some 61,.p (.iaddrA 8 1 (T 6) (C (.int .i64 0))),none⟩,
 ⟨some 62,.r (.load1 (T 61)),none⟩,
 ⟨some 63,.call (.func 247) [(T 62),(C (.int .i64 2))],none⟩,
 ⟨some 64,.p (.iaddrA 8 1 (T 6) (C (.int .i64 0))),none⟩,
 ⟨some 65,.r (.load1 (T 64)),none⟩,
 ⟨some 66,.call (.func 247) [(T 65),(C (.int .i64 13))],none⟩,
 ⟨some 67,.p (.bin .xor (T 63) (T 66)),none⟩,
 ⟨some 68,.p (.iaddrA 8 1 (T 6) (C (.int .i64 0))),none⟩,
 ⟨some 69,.r (.load1 (T 68)),none⟩,
 ⟨some 70,.call (.func 247) [(T 69),(C (.int .i64 22))],none⟩,
 ⟨some 71,.p (.bin .xor (T 67) (T 70)),none⟩,
 ⟨some 11,.p (.mov (T 71)),none⟩]
def zW4:List XO:=zW5
theorem xq222_8e:E3 zW4 zW5:=E3.rfl
abbrev zW7:List XO:=[
 ⟨some 72,.p (.iaddrA 8 1 (T 6) (C (.int .i64 0))),none⟩,
 ⟨some 73,.r (.load1 (T 72)),none⟩,
 ⟨some 74,.p (.iaddrA 8 1 (T 6) (C (.int .i64 1))),none⟩,
 ⟨some 75,.r (.load1 (T 74)),none⟩,
 ⟨some 76,.p (.bin .and (T 73) (T 75)),none⟩,
 ⟨some 77,.p (.iaddrA 8 1 (T 6) (C (.int .i64 0))),none⟩,
 ⟨some 78,.r (.load1 (T 77)),none⟩,
 ⟨some 79,.p (.iaddrA 8 1 (T 6) (C (.int .i64 2))),none⟩,
 ⟨some 80,.r (.load1 (T 79)),none⟩,
 ⟨some 81,.p (.bin .and (T 78) (T 80)),none⟩,
 ⟨some 82,.p (.bin .xor (T 76) (T 81)),none⟩,
 ⟨some 83,.p (.iaddrA 8 1 (T 6) (C (.int .i64 1))),none⟩,
 ⟨some 84,.r (.load1 (T 83)),none⟩,
 ⟨some 85,.p (.iaddrA 8 1 (T 6) (C (.int .i64 2))),none⟩,
 ⟨some 86,.r (.load1 (T 85)),none⟩,
 ⟨some 87,.p (.bin .and (T 84) (T 86)),none⟩,
 ⟨some 88,.p (.bin .xor (T 82) (T 87)),none⟩,
 ⟨some 12,.p (.mov (T 88)),none⟩]
def zW6:List XO:=zW7
theorem xq222_9e:E3 zW6 zW7:=E3.rfl
abbrev zWe:List XO:=[
 ⟨some 89,.p (.mov (T 10)),none⟩,
 ⟨some 90,.p (.mov (T 11)),none⟩,
 ⟨some 91,.p (.bin .add (T 89) (T 90)),none⟩,
 ⟨some 92,.p (.mov (T 12)),none⟩,
 ⟨some 93,.p (.bin .add (T 91) (T 92)),none⟩,
 ⟨some 94,.p (.iaddrA 8 1 (T 6) (C (.int .i64 0))),none⟩,
 ⟨some 95,.r (.load1 (T 94)),none⟩,
 ⟨some 96,.p (.iaddrA 8 1 (T 6) (C (.int .i64 1))),none⟩,
 ⟨some 97,.r (.load1 (T 96)),none⟩,
 ⟨some 98,.p (.iaddrA 8 1 (T 6) (C (.int .i64 2))),none⟩,
 ⟨some 99,.r (.load1 (T 98)),none⟩,
 ⟨some 100,.p (.iaddrA 8 1 (T 6) (C (.int .i64 3))),none⟩,
 ⟨some 101,.r (.load1 (T 100)),none⟩,
 ⟨some 102,.p (.mov (T 10)),none⟩,
 ⟨some 103,.p (.bin .add (T 101) (T 102)),none⟩,
 ⟨some 104,.p (.iaddrA 8 1 (T 6) (C (.int .i64 4))),none⟩,
 ⟨some 105,.r (.load1 (T 104)),none⟩,
 ⟨some 106,.p (.iaddrA 8 1 (T 6) (C (.int .i64 5))),none⟩,
 ⟨some 107,.r (.load1 (T 106)),none⟩,
 ⟨some 108,.p (.iaddrA 8 1 (T 6) (C (.int .i64 6))),none⟩,
 ⟨some 109,.r (.load1 (T 108)),none⟩,
 ⟨some 110,.p (.build (List.replicate 8 (.int .u32 0)) [(0,1,(T 93)),(1,1,(T 95)),(2,1,(T 97)),(3,1,(T 99)),(4,1,(T 103)),(5,1,(T 105)),(6,1,(T 107)),(7,1,(T 109))]),none⟩,
 ⟨none,.e (.store 8 (T 6) (T 110)),none⟩]
def zWd:List XO:=zWe
theorem zeV:E3 zWd zWe:=E3.rfl
abbrev zWg:List XO:=[
 ⟨some 111,.p (.bin .add (T 21) (C (.int .i64 1))),none⟩,
 ⟨some 21,.p (.mov (T 111)),none⟩]
def zWf:List XO:=zWg
theorem zeW:E3 zWf zWg:=E3.rfl
def zJn:XC:=
 .seq (.ops zWu) (.seq (.cond (T 22) (.skip) (.exit 0)) (.seq (.block 1 (.seq (.ops zWw) (.seq (.draw zWy [(4,(2,[])),(8,(2,[])),(8,(5,[]))]) (.seq (.ops zW0) (.seq (.draw zW2 []) (.seq (.draw zW4 [(4,(2,[])),(8,(2,[])),(8,(5,[]))]) (.seq (.ops zW6) (.ops zWd)))))))) (.ops zWf)))
def zJm:XC:=zJn
theorem zeX {pr:Prog} {k:List KI} {Q:XE→Fr→Heap→Prop} {t:Fr} {h:Heap} (hw:wpk pr zJn k Q t h):wpk pr zJm k Q t h:=hw
abbrev zWi:List XO:=[
 ⟨some 112,.p (.mov (C (.int .i64 0))),none⟩]
def zWh:List XO:=zWi
theorem zeY:E3 zWh zWi:=E3.rfl
abbrev zWk:List XO:=[
 ⟨some 113,.p (.bin .lss (T 112) (C (.int .i64 8))),none⟩]
def zWj:List XO:=zWk
theorem zeZ:E3 zWj zWk:=E3.rfl
abbrev zWm:List XO:=[
 ⟨some 114,.p (.mov (T 112)),none⟩,
 ⟨some 13,.p (.mov (T 114)),none⟩]
def zWl:List XO:=zWm
theorem zea:E3 zWl zWm:=E3.rfl
abbrev zWo:List XO:=[
 ⟨some 115,.p (.mov (T 0)),none⟩,
 ⟨some 116,.p (.mov (T 13)),none⟩,
 ⟨some 117,.p (.nilc (T 115)),none⟩,
 ⟨some 118,.p (.faddr 0 (T 117)),none⟩,
 ⟨some 119,.p (.iaddrA 8 1 (T 118) (T 116)),none⟩,
 ⟨some 120,.r (.load1 (T 119)),none⟩,
 ⟨some 121,.p (.mov (T 13)),none⟩,
 ⟨some 122,.p (.iaddrA 8 1 (T 6) (T 121)),none⟩,
 ⟨some 123,.r (.load1 (T 122)),none⟩,
 ⟨some 124,.p (.bin .add (T 120) (T 123)),none⟩,
 ⟨some 125,.p (.nilc (T 115)),none⟩,
 ⟨some 126,.p (.faddr 0 (T 125)),none⟩,
 ⟨some 127,.p (.iaddrA 8 1 (T 126) (T 116)),none⟩,
 ⟨none,.e (.store 1 (T 127) (T 124)),none⟩]
def zWn:List XO:=zWo
theorem zeb:E3 zWn zWo:=E3.rfl
abbrev zWq:List XO:=[
 ⟨some 128,.p (.bin .add (T 112) (C (.int .i64 1))),none⟩,
 ⟨some 112,.p (.mov (T 128)),none⟩]
def zWp:List XO:=zWq
theorem zec:E3 zWp zWq:=E3.rfl
def zJp:XC:=
 .seq (.ops zWj) (.seq (.cond (T 113) (.skip) (.exit 2)) (.seq (.block 3 (.seq (.ops zWl) (.draw zWn []))) (.ops zWp)))
def zJo:XC:=zJp
theorem zed {pr:Prog} {k:List KI} {Q:XE→Fr→Heap→Prop} {t:Fr} {h:Heap} (hw:wpk pr zJp k Q t h):wpk pr zJo k Q t h:=hw
def zD0:XF:=⟨2,[],
 .seq (.ops zWa) (.seq (.ops zWc) (.seq (.seq (.ops zWs) (.block 0 (.loop zJm))) (.seq (.ops zWh) (.block 2 (.loop zJo)))))⟩
def yq222:=PLift.up (And.intro (And.intro (And.intro (And.intro (@xq222_0e) (@xq222_1e)) (And.intro (@xq222_2e) (@xq222_3e))) (And.intro (And.intro (@xq222_4e) (@xq222_5e)) (And.intro (@xq222_6e) (@xq222_7e)))) (And.intro (And.intro (And.intro (@xq222_8e) (@xq222_9e)) (And.intro (@zeV) (@zeW))) (And.intro (And.intro (@zeY) (@zeZ)) (And.intro (@zea) (And.intro (@zeb) (@zec))))))
theorem cq222:zg Tryz.prog Tryz.f222 = some zD0:=by kernel_rfl
abbrev zS4:List XO:=[
 ⟨some 0,.p (.mov (C (.pointer none))),none⟩]
def zS3:List XO:=zS4
theorem xq194_0e:E3 zS3 zS4:=E3.rfl
abbrev zS6:List XO:=[
 ⟨some 1,.call (.func 221) [],none⟩,
 ⟨some 2,.p (.build [(.int .u32 0),(.int .u32 0),(.int .u32 0),(.int .u32 0),(.int .u32 0),(.int .u32 0),(.int .u32 0),(.int .u32 0),(.slice none 0 0),(.int .u64 0)] [(0,8,(T 1))]),none⟩,
 ⟨some 3,.a (.box (T 2)),none⟩,
 ⟨some 0,.p (.mov (T 3)),none⟩]
def zS5:List XO:=zS6
theorem xq194_1e:E3 zS5 zS6:=E3.rfl
def xq194:XF:=⟨0,[.tmp 0],
 .seq (.ops zS3) (.seq (.ops zS5) (.ret))⟩
def yq194:=PLift.up (And.intro (@xq194_0e) (@xq194_1e))
theorem cq194:zg Tryz.prog Tryz.f194 = some xq194:=by kernel_rfl
abbrev zS8:List XO:=[
 ⟨some 4,.p (.mov (T 0)),none⟩,
 ⟨some 5,.p (.eql false .nptr (T 4) (C (.pointer none))),none⟩]
def zS7:List XO:=zS8
theorem xq195_0e:E3 zS7 zS8:=E3.rfl
abbrev zTA:List XO:=[
 ⟨some 6,.p (.mov (T 0)),none⟩,
 ⟨some 7,.p (.nilc (T 6)),none⟩,
 ⟨some 8,.p (.faddr 9 (T 7)),none⟩,
 ⟨some 9,.r (.load1 (T 8)),none⟩,
 ⟨some 10,.p (.mov (T 1)),none⟩,
 ⟨some 11,.p (.lenS (T 10)),none⟩,
 ⟨some 12,.p (.cint .u64 (T 11)),none⟩,
 ⟨some 13,.p (.bin .add (T 9) (T 12)),none⟩,
 ⟨some 14,.p (.nilc (T 6)),none⟩,
 ⟨some 15,.p (.faddr 9 (T 14)),none⟩,
 ⟨none,.e (.store 1 (T 15) (T 13)),none⟩]
def zS9:List XO:=zTA
theorem xq195_1e:E3 zS9 zTA:=E3.rfl
abbrev zTC:List XO:=[
 ⟨some 16,.p (.mov (T 0)),none⟩,
 ⟨some 17,.p (.mov (T 0)),none⟩,
 ⟨some 18,.p (.nilc (T 17)),none⟩,
 ⟨some 19,.p (.faddr 8 (T 18)),none⟩,
 ⟨some 20,.r (.load1 (T 19)),none⟩,
 ⟨some 21,.p (.mov (T 1)),none⟩,
 ⟨some 22,.e (.append 1 1 (T 20) (T 21)),none⟩,
 ⟨some 23,.p (.nilc (T 16)),none⟩,
 ⟨some 24,.p (.faddr 8 (T 23)),none⟩,
 ⟨none,.e (.store 1 (T 24) (T 22)),none⟩]
def zTB:List XO:=zTC
theorem xq195_2e:E3 zTB zTC:=E3.rfl
abbrev zTE:List XO:=[
 ⟨some 25,.p (.mov (T 0)),none⟩,
 ⟨some 26,.p (.nilc (T 25)),none⟩,
 ⟨some 27,.p (.faddr 8 (T 26)),none⟩,
 ⟨some 28,.r (.load1 (T 27)),none⟩,
 ⟨some 29,.p (.lenV (T 28)),none⟩,
 ⟨some 30,.p (.bin .geq (T 29) (C (.int .i64 64))),none⟩]
def zTD:List XO:=zTE
theorem xq195_3e:E3 zTD zTE:=E3.rfl
abbrev zTG:List XO:=[
 ⟨some 31,.p (.mov (T 0)),none⟩,
 ⟨some 32,.p (.mov (T 0)),none⟩,
 ⟨some 33,.p (.nilc (T 32)),none⟩,
 ⟨some 34,.p (.faddr 8 (T 33)),none⟩,
 ⟨some 35,.r (.load1 (T 34)),none⟩,
 ⟨some 36,.p (.slc 1 (T 35) none (some (C (.int .i64 64))) none),none⟩,
 ⟨some 37,.call (.func 222) [(T 31),(T 36)],none⟩]
def zTF:List XO:=zTG
theorem xq195_4e:E3 zTF zTG:=E3.rfl
abbrev zTI:List XO:=[
 ⟨some 38,.p (.mov (T 0)),none⟩,
 ⟨some 39,.p (.mov (T 0)),none⟩,
 ⟨some 40,.p (.nilc (T 39)),none⟩,
 ⟨some 41,.p (.faddr 8 (T 40)),none⟩,
 ⟨some 42,.r (.load1 (T 41)),none⟩,
 ⟨some 43,.p (.slc 1 (T 42) (some (C (.int .i64 64))) none none),none⟩,
 ⟨some 44,.p (.nilc (T 38)),none⟩,
 ⟨some 45,.p (.faddr 8 (T 44)),none⟩,
 ⟨none,.e (.store 1 (T 45) (T 43)),none⟩]
def zTH:List XO:=zTI
theorem xq195_5e:E3 zTH zTI:=E3.rfl
def zJJ:XC:=
 .seq (.seq (.ops zTD) (.cond (T 30) (.skip) (.exit 0))) (.block 1 (.seq (.ops zTF) (.ops zTH)))
def zTJ:XC:=zJJ
theorem xq195_6k {pr:Prog} {k:List KI} {Q:XE→Fr→Heap→Prop} {t:Fr} {h:Heap} (hw:wpk pr zJJ k Q t h):wpk pr zTJ k Q t h:=hw
def xq195:XF:=⟨2,[],
 .seq (.seq (.ops zS7) (.cond (T 5) (.ret) (.skip))) (.seq (.ops zS9) (.seq (.ops zTB) (.block 0 (.loop zTJ))))⟩
def yq195:=PLift.up (And.intro (And.intro (@xq195_0e) (And.intro (@xq195_1e) (@xq195_2e))) (And.intro (@xq195_3e) (And.intro (@xq195_4e) (@xq195_5e))))
theorem cq195:zg Tryz.prog Tryz.f195 = some xq195:=by kernel_rfl
abbrev zTP:List XO:=[
 ⟨some 2,.p (.mov (C (.string (strOf [])))),none⟩]
def zTO:List XO:=zTP
theorem xq197_0e:E3 zTO zTP:=E3.rfl
abbrev zTh:List XO:=[
 ⟨some 9,.p (.mov (T 0)),none⟩,
 ⟨some 10,.p (.eql false .nptr (T 9) (C (.pointer none))),none⟩]
def zTQ:List XO:=zTh
theorem xq197_1e:E3 zTQ zTh:=E3.rfl
abbrev zTz:List XO:=[
 ⟨some 2,.p (.mov (C (.string (strOf [])))),none⟩]
def zTi:List XO:=zTz
theorem xq197_2e:E3 zTi zTz:=E3.rfl
abbrev zT3:List XO:=[
 ⟨some 11,.p (.mov (T 0)),none⟩,
 ⟨some 12,.p (.nilc (T 11)),none⟩,
 ⟨some 13,.p (.faddr 0 (T 12)),none⟩,
 ⟨some 14,.r (.loadN 8 (T 13)),none⟩,
 ⟨some 15,.p (.mov (T 0)),none⟩,
 ⟨some 16,.p (.nilc (T 15)),none⟩,
 ⟨some 17,.p (.faddr 9 (T 16)),none⟩,
 ⟨some 18,.r (.load1 (T 17)),none⟩,
 ⟨some 19,.p (.build [(.int .u32 0),(.int .u32 0),(.int .u32 0),(.int .u32 0),(.int .u32 0),(.int .u32 0),(.int .u32 0),(.int .u32 0),(.slice none 0 0),(.int .u64 0)] [(0,8,(T 14)),(9,1,(T 18))]),none⟩,
 ⟨some 20,.a (.box (T 19)),none⟩,
 ⟨some 3,.p (.mov (T 20)),none⟩]
def zT0:List XO:=zT3
theorem xq197_3e:E3 zT0 zT3:=E3.rfl
abbrev zT5:List XO:=[
 ⟨some 21,.p (.mov (T 3)),none⟩,
 ⟨some 22,.p (.mov (T 3)),none⟩,
 ⟨some 23,.p (.nilc (T 22)),none⟩,
 ⟨some 24,.p (.faddr 8 (T 23)),none⟩,
 ⟨some 25,.r (.load1 (T 24)),none⟩,
 ⟨some 26,.p (.mov (T 0)),none⟩,
 ⟨some 27,.p (.nilc (T 26)),none⟩,
 ⟨some 28,.p (.faddr 8 (T 27)),none⟩,
 ⟨some 29,.r (.load1 (T 28)),none⟩,
 ⟨some 30,.e (.append 1 1 (T 25) (T 29)),none⟩,
 ⟨some 31,.a (.bslice [(.int .u8 0)] 1 [(0,1,(C (.int .u8 128)))]),none⟩,
 ⟨some 32,.e (.append 1 1 (T 30) (T 31)),none⟩,
 ⟨some 33,.p (.nilc (T 21)),none⟩,
 ⟨some 34,.p (.faddr 8 (T 33)),none⟩,
 ⟨none,.e (.store 1 (T 34) (T 32)),none⟩]
def zT4:List XO:=zT5
theorem xq197_4e:E3 zT4 zT5:=E3.rfl
abbrev zT7:List XO:=[
 ⟨some 35,.p (.mov (T 3)),none⟩,
 ⟨some 36,.p (.nilc (T 35)),none⟩,
 ⟨some 37,.p (.faddr 8 (T 36)),none⟩,
 ⟨some 38,.r (.load1 (T 37)),none⟩,
 ⟨some 39,.p (.lenV (T 38)),none⟩,
 ⟨some 40,.p (.bin .rem (T 39) (C (.int .i64 64))),none⟩,
 ⟨some 41,.p (.eql true .int (T 40) (C (.int .i64 56))),none⟩]
def zT6:List XO:=zT7
theorem xq197_5e:E3 zT6 zT7:=E3.rfl
abbrev zT9:List XO:=[
 ⟨some 42,.p (.mov (T 3)),none⟩,
 ⟨some 43,.p (.mov (T 3)),none⟩,
 ⟨some 44,.p (.nilc (T 43)),none⟩,
 ⟨some 45,.p (.faddr 8 (T 44)),none⟩,
 ⟨some 46,.r (.load1 (T 45)),none⟩,
 ⟨some 47,.a (.bslice [(.int .u8 0)] 1 [(0,1,(C (.int .u8 0)))]),none⟩,
 ⟨some 48,.e (.append 1 1 (T 46) (T 47)),none⟩,
 ⟨some 49,.p (.nilc (T 42)),none⟩,
 ⟨some 50,.p (.faddr 8 (T 49)),none⟩,
 ⟨none,.e (.store 1 (T 50) (T 48)),none⟩]
def zT8:List XO:=zT9
theorem xq197_6e:E3 zT8 zT9:=E3.rfl
def zJT:XC:=
 .seq (.seq (.ops zT6) (.cond (T 41) (.skip) (.exit 0))) (.block 1 (.ops zT8))
def zJS:XC:=zJT
theorem xq197_7k {pr:Prog} {k:List KI} {Q:XE→Fr→Heap→Prop} {t:Fr} {h:Heap} (hw:wpk pr zJT k Q t h):wpk pr zJS k Q t h:=hw
abbrev zUB:List XO:=[
 ⟨some 51,.p (.mov (C (.int .i64 0))),none⟩]
def zUA:List XO:=zUB
theorem xq197_8e:E3 zUA zUB:=E3.rfl
abbrev zUD:List XO:=[
 ⟨some 52,.p (.bin .lss (T 51) (C (.int .i64 8))),none⟩]
def zUC:List XO:=zUD
theorem xq197_9e:E3 zUC zUD:=E3.rfl
abbrev zTS:List XO:=[
 ⟨some 53,.p (.mov (T 51)),none⟩,
 ⟨some 4,.p (.mov (T 53)),none⟩]
def zTR:List XO:=zTS
theorem zdP:E3 zTR zTS:=E3.rfl
abbrev zTU:List XO:=[
 ⟨some 54,.p (.mov (T 3)),none⟩,
 ⟨some 55,.p (.mov (T 3)),none⟩,
 ⟨some 56,.p (.nilc (T 55)),none⟩,
 ⟨some 57,.p (.faddr 8 (T 56)),none⟩,
 ⟨some 58,.r (.load1 (T 57)),none⟩,
 ⟨some 59,.p (.mov (T 3)),none⟩,
 ⟨some 60,.p (.nilc (T 59)),none⟩,
 ⟨some 61,.p (.faddr 9 (T 60)),none⟩,
 ⟨some 62,.r (.load1 (T 61)),none⟩,
 ⟨some 63,.p (.bin .mul (T 62) (C (.int .u64 8))),none⟩,
 ⟨some 64,.p (.mov (T 4)),none⟩,
 ⟨some 65,.p (.bin .sub (C (.int .i64 7)) (T 64)),none⟩,
 ⟨some 66,.p (.bin .mul (C (.int .i64 8)) (T 65)),none⟩,
 ⟨some 67,.p (.bin .shr (T 63) (T 66)),none⟩,
 ⟨some 68,.p (.cint .u8 (T 67)),none⟩,
 ⟨some 69,.a (.bslice [(.int .u8 0)] 1 [(0,1,(T 68))]),none⟩,
 ⟨some 70,.e (.append 1 1 (T 58) (T 69)),none⟩,
 ⟨some 71,.p (.nilc (T 54)),none⟩,
 ⟨some 72,.p (.faddr 8 (T 71)),none⟩,
 ⟨none,.e (.store 1 (T 72) (T 70)),none⟩]
def zTT:List XO:=zTU
theorem zdQ:E3 zTT zTU:=E3.rfl
abbrev zTW:List XO:=[
 ⟨some 73,.p (.bin .add (T 51) (C (.int .i64 1))),none⟩,
 ⟨some 51,.p (.mov (T 73)),none⟩]
def zTV:List XO:=zTW
theorem zdR:E3 zTV zTW:=E3.rfl
def zJL:XC:=
 .seq (.ops zUC) (.seq (.cond (T 52) (.skip) (.exit 2)) (.seq (.block 3 (.seq (.ops zTR) (.draw zTT [(4,(16,[])),(8,(16,[]))]))) (.ops zTV)))
def zJK:XC:=zJL
theorem zdS {pr:Prog} {k:List KI} {Q:XE→Fr→Heap→Prop} {t:Fr} {h:Heap} (hw:wpk pr zJL k Q t h):wpk pr zJK k Q t h:=hw
abbrev zTY:List XO:=[
 ⟨some 74,.p (.mov (T 3)),none⟩,
 ⟨some 75,.p (.nilc (T 74)),none⟩,
 ⟨some 76,.p (.faddr 8 (T 75)),none⟩,
 ⟨some 77,.r (.load1 (T 76)),none⟩,
 ⟨some 78,.p (.lenV (T 77)),none⟩,
 ⟨some 79,.p (.bin .gtr (T 78) (C (.int .i64 0))),none⟩]
def zTX:List XO:=zTY
theorem zdT:E3 zTX zTY:=E3.rfl
abbrev zTa:List XO:=[
 ⟨some 80,.p (.mov (T 3)),none⟩,
 ⟨some 81,.p (.mov (T 3)),none⟩,
 ⟨some 82,.p (.nilc (T 81)),none⟩,
 ⟨some 83,.p (.faddr 8 (T 82)),none⟩,
 ⟨some 84,.r (.load1 (T 83)),none⟩,
 ⟨some 85,.p (.slc 1 (T 84) none (some (C (.int .i64 64))) none),none⟩,
 ⟨some 86,.call (.func 222) [(T 80),(T 85)],none⟩]
def zTZ:List XO:=zTa
theorem zdU:E3 zTZ zTa:=E3.rfl
abbrev zTc:List XO:=[
 ⟨some 87,.p (.mov (T 3)),none⟩,
 ⟨some 88,.p (.mov (T 3)),none⟩,
 ⟨some 89,.p (.nilc (T 88)),none⟩,
 ⟨some 90,.p (.faddr 8 (T 89)),none⟩,
 ⟨some 91,.r (.load1 (T 90)),none⟩,
 ⟨some 92,.p (.slc 1 (T 91) (some (C (.int .i64 64))) none none),none⟩,
 ⟨some 93,.p (.nilc (T 87)),none⟩,
 ⟨some 94,.p (.faddr 8 (T 93)),none⟩,
 ⟨none,.e (.store 1 (T 94) (T 92)),none⟩]
def zTb:List XO:=zTc
theorem zdV:E3 zTb zTc:=E3.rfl
def zJN:XC:=
 .seq (.seq (.ops zTX) (.cond (T 79) (.skip) (.exit 4))) (.block 5 (.seq (.ops zTZ) (.ops zTb)))
def zJM:XC:=zJN
theorem zdW {pr:Prog} {k:List KI} {Q:XE→Fr→Heap→Prop} {t:Fr} {h:Heap} (hw:wpk pr zJN k Q t h):wpk pr zJM k Q t h:=hw
abbrev zTe:List XO:=[
 ⟨some 5,.p (.mov (C (.slice none 0 0))),none⟩]
def zTd:List XO:=zTe
theorem zdX:E3 zTd zTe:=E3.rfl
abbrev zTg:List XO:=[
 ⟨some 95,.p (.mov (T 3)),none⟩,
 ⟨some 96,.p (.nilc (T 95)),none⟩,
 ⟨some 97,.p (.faddr 0 (T 96)),none⟩,
 ⟨some 98,.r (.loadN 8 (T 97)),none⟩,
 ⟨some 99,.p (.mov (C (.int .i64 0))),none⟩]
def zTf:List XO:=zTg
theorem zdY:E3 zTf zTg:=E3.rfl
abbrev zTk:List XO:=[
 ⟨some 100,.p (.bin .lss (T 99) (C (.int .i64 8))),none⟩]
def zTj:List XO:=zTk
theorem zdZ:E3 zTj zTk:=E3.rfl
abbrev zTm:List XO:=[
 ⟨some 101,.p (.idxA1 8 (T 98) (T 99)),none⟩,
 ⟨some 7,.p (.mov (T 101)),none⟩]
def zTl:List XO:=zTm
theorem zda:E3 zTl zTm:=E3.rfl
abbrev zTo:List XO:=[
 ⟨some 102,.p (.mov (C (.int .i64 0))),none⟩]
def zTn:List XO:=zTo
theorem zdb:E3 zTn zTo:=E3.rfl
abbrev zTq:List XO:=[
 ⟨some 103,.p (.bin .lss (T 102) (C (.int .i64 4))),none⟩]
def zTp:List XO:=zTq
theorem zdc:E3 zTp zTq:=E3.rfl
abbrev zTs:List XO:=[
 ⟨some 104,.p (.mov (T 102)),none⟩,
 ⟨some 8,.p (.mov (T 104)),none⟩]
def zTr:List XO:=zTs
theorem zdd:E3 zTr zTs:=E3.rfl
abbrev zTu:List XO:=[
 ⟨some 105,.p (.mov (T 5)),none⟩,
 ⟨some 106,.p (.mov (T 7)),none⟩,
 ⟨some 107,.p (.mov (T 8)),none⟩,
 ⟨some 108,.p (.bin .sub (C (.int .i64 3)) (T 107)),none⟩,
 ⟨some 109,.p (.bin .mul (C (.int .i64 8)) (T 108)),none⟩,
 ⟨some 110,.p (.bin .shr (T 106) (T 109)),none⟩,
 ⟨some 111,.p (.cint .u8 (T 110)),none⟩,
 ⟨some 112,.a (.bslice [(.int .u8 0)] 1 [(0,1,(T 111))]),none⟩,
 ⟨some 113,.e (.append 1 1 (T 105) (T 112)),none⟩,
 ⟨some 5,.p (.mov (T 113)),none⟩]
def zTt:List XO:=zTu
theorem zde:E3 zTt zTu:=E3.rfl
abbrev zTw:List XO:=[
 ⟨some 114,.p (.bin .add (T 102) (C (.int .i64 1))),none⟩,
 ⟨some 102,.p (.mov (T 114)),none⟩]
def zTv:List XO:=zTw
theorem zdf:E3 zTv zTw:=E3.rfl
def zJP:XC:=
 .seq (.ops zTp) (.seq (.cond (T 103) (.skip) (.exit 8)) (.seq (.block 9 (.seq (.ops zTr) (.ops zTt))) (.ops zTv)))
def zJO:XC:=zJP
theorem zdg {pr:Prog} {k:List KI} {Q:XE→Fr→Heap→Prop} {t:Fr} {h:Heap} (hw:wpk pr zJP k Q t h):wpk pr zJO k Q t h:=hw
abbrev zTy:List XO:=[
 ⟨some 115,.p (.bin .add (T 99) (C (.int .i64 1))),none⟩,
 ⟨some 99,.p (.mov (T 115)),none⟩]
def zTx:List XO:=zTy
theorem zdh:E3 zTx zTy:=E3.rfl
def zJR:XC:=
 .seq (.ops zTj) (.seq (.cond (T 100) (.skip) (.exit 6)) (.seq (.block 7 (.seq (.ops zTl) (.seq (.ops zTn) (.block 8 (.loop zJO))))) (.ops zTx)))
def zJQ:XC:=zJR
theorem zdi {pr:Prog} {k:List KI} {Q:XE→Fr→Heap→Prop} {t:Fr} {h:Heap} (hw:wpk pr zJR k Q t h):wpk pr zJQ k Q t h:=hw
abbrev zT2:List XO:=[
 ⟨some 116,.p (.mov (T 5)),none⟩,
 ⟨some 117,.r (.cb2s (T 116)),none⟩,
 ⟨some 2,.p (.mov (T 117)),none⟩]
def zT1:List XO:=zT2
theorem zdj:E3 zT1 zT2:=E3.rfl
def xq197:XF:=⟨1,[.tmp 2],
 .seq (.ops zTO) (.seq (.seq (.ops zTQ) (.cond (T 10) (.seq (.ops zTi) (.ret)) (.skip))) (.seq (.draw zT0 [(3,(11,[])),(7,(11,[]))]) (.seq (.draw zT4 []) (.seq (.block 0 (.loop zJS)) (.seq (.seq (.ops zUA) (.block 2 (.loop zJK))) (.seq (.block 4 (.loop zJM)) (.seq (.ops zTd) (.seq (.seq (.ops zTf) (.block 6 (.loop zJQ))) (.seq (.ops zT1) (.ret))))))))))⟩
def yq197:=PLift.up (And.intro (And.intro (And.intro (And.intro (@xq197_0e) (And.intro (@xq197_1e) (@xq197_2e))) (And.intro (@xq197_3e) (And.intro (@xq197_4e) (@xq197_5e)))) (And.intro (And.intro (@xq197_6e) (And.intro (@xq197_8e) (@xq197_9e))) (And.intro (And.intro (@zdP) (@zdQ)) (And.intro (@zdR) (@zdT))))) (And.intro (And.intro (And.intro (@zdU) (And.intro (@zdV) (@zdX))) (And.intro (@zdY) (And.intro (@zdZ) (@zda)))) (And.intro (And.intro (@zdb) (And.intro (@zdc) (@zdd))) (And.intro (And.intro (@zde) (@zdf)) (And.intro (@zdh) (@zdj))))))
theorem cq197:zg Tryz.prog Tryz.f197 = some xq197:=by kernel_rfl
abbrev zSf:List XO:=[
 ⟨some 2,.p (.mov (C (.string (strOf [])))),none⟩]
def zSe:List XO:=zSf
theorem xq179_0e:E3 zSe zSf:=E3.rfl
abbrev zSh:List XO:=[
 ⟨some 4,.call (.func 194) [],none⟩,
 ⟨some 3,.p (.mov (T 4)),none⟩]
def zSg:List XO:=zSh
theorem xq179_1e:E3 zSg zSh:=E3.rfl
abbrev zSj:List XO:=[
 ⟨some 5,.p (.mov (T 3)),none⟩,
 ⟨some 6,.p (.mov (T 0)),none⟩,
 ⟨some 7,.call (.func 195) [(T 5),(T 6)],none⟩]
def zSi:List XO:=zSj
theorem xq179_2e:E3 zSi zSj:=E3.rfl
abbrev zSl:List XO:=[
 ⟨some 8,.p (.mov (T 3)),none⟩,
 ⟨some 9,.call (.func 197) [(T 8)],none⟩,
 ⟨some 2,.p (.mov (T 9)),none⟩]
def zSk:List XO:=zSl
theorem xq179_3e:E3 zSk zSl:=E3.rfl
def xq179:XF:=⟨1,[.tmp 2],
 .seq (.ops zSe) (.seq (.ops zSg) (.seq (.ops zSi) (.seq (.ops zSk) (.ret))))⟩
def yq179:=PLift.up (And.intro (And.intro (@xq179_0e) (@xq179_1e)) (And.intro (@xq179_2e) (@xq179_3e)))
theorem cq179:zg Tryz.prog Tryz.f179 = some xq179:=by kernel_rfl
abbrev zXU:List XO:=[
 ⟨some 4,.p (.mov (C (.int .u32 0))),none⟩]
def zXT:List XO:=zXU
theorem xq244_0e:E3 zXT zXU:=E3.rfl
abbrev zXW:List XO:=[
 ⟨some 5,.p (.mov (T 0)),none⟩,
 ⟨some 6,.p (.mov (T 1)),none⟩,
 ⟨some 7,.p (.bin .shr (T 5) (T 6)),none⟩,
 ⟨some 8,.p (.mov (T 0)),none⟩,
 ⟨some 9,.p (.mov (T 1)),none⟩,
 ⟨some 10,.p (.bin .sub (C (.int .u64 32)) (T 9)),none⟩,
 ⟨some 11,.p (.bin .shl (T 8) (T 10)),none⟩,
 ⟨some 12,.p (.bin .or (T 7) (T 11)),none⟩,
 ⟨some 4,.p (.mov (T 12)),none⟩]
def zXV:List XO:=zXW
theorem xq244_1e:E3 zXV zXW:=E3.rfl
def xq244:XF:=⟨2,[.tmp 4],
 .seq (.ops zXT) (.seq (.ops zXV) (.ret))⟩
def yq244:=PLift.up (And.intro (@xq244_0e) (@xq244_1e))
theorem cq244:zg Tryz.prog Tryz.f244 = some xq244:=by kernel_rfl
abbrev zXQ:List XO:=[
 ⟨some 0,.a (.alloc (List.replicate 64 (.int .u32 0))),none⟩,
 ⟨some 1,.a (.alloc (List.replicate 8 (.int .u32 0))),none⟩]
def zXP:List XO:=zXQ
theorem xq243_0e:E3 zXP zXQ:=E3.rfl
abbrev zXS:List XO:=[
 ⟨some 2,.p (.build (List.replicate 64 (.int .u32 0)) [(0,1,(C (.int .u32 1116352408))),(1,1,(C (.int .u32 1899447441))),(2,1,(C (.int .u32 3049323471))),(3,1,(C (.int .u32 3921009573))),(4,1,(C (.int .u32 961987163))),(5,1,(C (.int .u32 1508970993))),(6,1,(C (.int .u32 2453635748))),(7,1,(C (.int .u32 2870763221))),(8,1,(C (.int .u32 3624381080))),(9,1,(C (.int .u32 310598401))),(10,1,(C (.int .u32 607225278))),(11,1,(C (.int .u32 1426881987))),(12,1,(C (.int .u32 1925078388))),(13,1,(C (.int .u32 2162078206))),(14,1,(C (.int .u32 2614888103))),(15,1,(C (.int .u32 3248222580))),(16,1,(C (.int .u32 3835390401))),(17,1,(C (.int .u32 4022224774))),(18,1,(C (.int .u32 264347078))),(19,1,(C (.int .u32 604807628))),(20,1,(C (.int .u32 770255983))),(21,1,(C (.int .u32 1249150122))),(22,1,(C (.int .u32 1555081692))),(23,1,(C (.int .u32 1996064986))),(24,1,(C (.int .u32 2554220882))),(25,1,(C (.int .u32 2821834349))),(26,1,(C (.int .u32 2952996808))),(27,1,(C (.int .u32 3210313671))),(28,1,(C (.int .u32 3336571891))),(29,1,(C (.int .u32 3584528711))),(30,1,(C (.int .u32 113926993))),(31,1,(C (.int .u32 338241895))),(32,1,(C (.int .u32 666307205))),(33,1,(C (.int .u32 773529912))),(34,1,(C (.int .u32 1294757372))),(35,1,(C (.int .u32 1396182291))),(36,1,(C (.int .u32 1695183700))),(37,1,(C (.int .u32 1986661051))),(38,1,(C (.int .u32 2177026350))),(39,1,(C (.int .u32 2456956037))),(40,1,(C (.int .u32 2730485921))),(41,1,(C (.int .u32 2820302411))),(42,1,(C (.int .u32 3259730800))),(43,1,(C (.int .u32 3345764771))),(44,1,(C (.int .u32 3516065817))),(45,1,(C (.int .u32 3600352804))),(46,1,(C (.int .u32 4094571909))),(47,1,(C (.int .u32 275423344))),(48,1,(C (.int .u32 430227734))),(49,1,(C (.int .u32 506948616))),(50,1,(C (.int .u32 659060556))),(51,1,(C (.int .u32 883997877))),(52,1,(C (.int .u32 958139571))),(53,1,(C (.int .u32 1322822218))),(54,1,(C (.int .u32 1537002063))),(55,1,(C (.int .u32 1747873779))),(56,1,(C (.int .u32 1955562222))),(57,1,(C (.int .u32 2024104815))),(58,1,(C (.int .u32 2227730452))),(59,1,(C (.int .u32 2361852424))),(60,1,(C (.int .u32 2428436474))),(61,1,(C (.int .u32 2756734187))),(62,1,(C (.int .u32 3204031479))),(63,1,(C (.int .u32 3329325298)))]),none⟩,
 ⟨some 3,.p (.build (List.replicate 8 (.int .u32 0)) [(0,1,(C (.int .u32 1779033703))),(1,1,(C (.int .u32 3144134277))),(2,1,(C (.int .u32 1013904242))),(3,1,(C (.int .u32 2773480762))),(4,1,(C (.int .u32 1359893119))),(5,1,(C (.int .u32 2600822924))),(6,1,(C (.int .u32 528734635))),(7,1,(C (.int .u32 1541459225)))]),none⟩,
 ⟨none,.e (.store 64 (T 0) (T 2)),none⟩,
 ⟨none,.e (.store 8 (T 1) (T 3)),none⟩]
def zXR:List XO:=zXS
theorem xq243_1e:E3 zXR zXS:=E3.rfl
def xq243:XF:=⟨0,[.cellN 0 64,.cellN 1 8],
 .seq (.ops zXP) (.seq (.ops zXR) (.ret))⟩
def yq243:=PLift.up (And.intro (@xq243_0e) (@xq243_1e))
theorem cq243:zg Tryz.prog Tryz.f243 = some xq243:=by kernel_rfl
abbrev zUz:List XO:=[
 ⟨some 2,.p (.mov (C (.string (strOf [])))),none⟩]
def zUy:List XO:=zUz
theorem xq220_0e:E3 zUy zUz:=E3.rfl
abbrev zVJ:List XO:=[
 ⟨some 25,.call (.func 243) [],none⟩,
 ⟨some 24,.p (.mov (T 25)),none⟩,
 ⟨some 26,.p (.ext (T 24) 0),none⟩,
 ⟨some 27,.p (.ext (T 24) 1),none⟩,
 ⟨some 3,.a (.alloc (List.replicate 64 (.int .u32 0))),none⟩,
 ⟨some 4,.a (.alloc (List.replicate 8 (.int .u32 0))),none⟩,
 ⟨none,.e (.store 64 (T 3) (T 26)),none⟩,
 ⟨none,.e (.store 8 (T 4) (T 27)),none⟩]
def zU0:List XO:=zVJ
theorem xq220_1e:E3 zU0 zVJ:=E3.rfl
abbrev zVd:List XO:=[
 ⟨some 28,.p (.mov (T 0)),none⟩,
 ⟨some 29,.a (.cs2b (T 28)),none⟩,
 ⟨some 5,.p (.mov (T 29)),none⟩]
def zVK:List XO:=zVd
theorem xq220_2e:E3 zVK zVd:=E3.rfl
abbrev zVx:List XO:=[
 ⟨some 30,.p (.mov (T 5)),none⟩,
 ⟨some 31,.a (.bslice [(.int .u8 0)] 1 [(0,1,(C (.int .u8 128)))]),none⟩,
 ⟨some 32,.e (.append 1 1 (T 30) (T 31)),none⟩,
 ⟨some 5,.p (.mov (T 32)),none⟩]
def zVe:List XO:=zVx
theorem xq220_3e:E3 zVe zVx:=E3.rfl
abbrev zWD:List XO:=[
 ⟨some 33,.p (.mov (T 5)),none⟩,
 ⟨some 34,.p (.lenV (T 33)),none⟩,
 ⟨some 35,.p (.bin .rem (T 34) (C (.int .i64 64))),none⟩,
 ⟨some 36,.p (.eql true .int (T 35) (C (.int .i64 56))),none⟩]
def zVy:List XO:=zWD
theorem xq220_4e:E3 zVy zWD:=E3.rfl
abbrev zWP:List XO:=[
 ⟨some 37,.p (.mov (T 5)),none⟩,
 ⟨some 38,.a (.bslice [(.int .u8 0)] 1 [(0,1,(C (.int .u8 0)))]),none⟩,
 ⟨some 39,.e (.append 1 1 (T 37) (T 38)),none⟩,
 ⟨some 5,.p (.mov (T 39)),none⟩]
def zWE:List XO:=zWP
theorem xq220_5e:E3 zWE zWP:=E3.rfl
def zJl:XC:=
 .seq (.seq (.ops zVy) (.cond (T 36) (.skip) (.exit 0))) (.block 1 (.ops zWE))
def zJk:XC:=zJl
theorem xq220_6k {pr:Prog} {k:List KI} {Q:XE→Fr→Heap→Prop} {t:Fr} {h:Heap} (hw:wpk pr zJl k Q t h):wpk pr zJk k Q t h:=hw
abbrev zWR:List XO:=[
 ⟨some 40,.p (.mov (T 0)),none⟩,
 ⟨some 41,.p (.lenS (T 40)),none⟩,
 ⟨some 42,.p (.cint .u64 (T 41)),none⟩,
 ⟨some 43,.p (.bin .mul (T 42) (C (.int .u64 8))),none⟩,
 ⟨some 6,.p (.mov (T 43)),none⟩]
def zWQ:List XO:=zWR
theorem xq220_7e:E3 zWQ zWR:=E3.rfl
abbrev zWT:List XO:=[
 ⟨some 7,.p (.mov (C (.int .i64 7))),none⟩]
def zWS:List XO:=zWT
theorem xq220_8e:E3 zWS zWT:=E3.rfl
abbrev zWV:List XO:=[
 ⟨some 44,.p (.mov (T 7)),none⟩,
 ⟨some 45,.p (.bin .geq (T 44) (C (.int .i64 0))),none⟩]
def zWU:List XO:=zWV
theorem xq220_9e:E3 zWU zWV:=E3.rfl
abbrev zU2:List XO:=[
 ⟨some 48,.p (.mov (T 5)),none⟩,
 ⟨some 49,.p (.mov (T 6)),none⟩,
 ⟨some 50,.p (.mov (T 7)),none⟩,
 ⟨some 51,.p (.bin .mul (C (.int .i64 8)) (T 50)),none⟩,
 ⟨some 52,.p (.cint .u64 (T 51)),none⟩,
 ⟨some 53,.p (.bin .shr (T 49) (T 52)),none⟩,
 ⟨some 54,.p (.cint .u8 (T 53)),none⟩,
 ⟨some 55,.a (.bslice [(.int .u8 0)] 1 [(0,1,(T 54))]),none⟩,
 ⟨some 56,.e (.append 1 1 (T 48) (T 55)),none⟩,
 ⟨some 5,.p (.mov (T 56)),none⟩]
def zU1:List XO:=zU2
theorem zdl:E3 zU1 zU2:=E3.rfl
abbrev zU4:List XO:=[
 ⟨some 46,.p (.mov (T 7)),none⟩,
 ⟨some 47,.p (.bin .sub (T 46) (C (.int .i64 1))),none⟩,
 ⟨some 7,.p (.mov (T 47)),none⟩]
def zU3:List XO:=zU4
theorem zdm:E3 zU3 zU4:=E3.rfl
def zJX:XC:=
 .seq (.seq (.ops zWU) (.cond (T 45) (.skip) (.exit 2))) (.seq (.block 3 (.ops zU1)) (.ops zU3))
def zJW:XC:=zJX
theorem zdn {pr:Prog} {k:List KI} {Q:XE→Fr→Heap→Prop} {t:Fr} {h:Heap} (hw:wpk pr zJX k Q t h):wpk pr zJW k Q t h:=hw
abbrev zU6:List XO:=[
 ⟨some 8,.p (.mov (C (.int .i64 0))),none⟩]
def zU5:List XO:=zU6
theorem zdo:E3 zU5 zU6:=E3.rfl
abbrev zU8:List XO:=[
 ⟨some 57,.p (.mov (T 8)),none⟩,
 ⟨some 58,.p (.mov (T 5)),none⟩,
 ⟨some 59,.p (.lenV (T 58)),none⟩,
 ⟨some 60,.p (.bin .lss (T 57) (T 59)),none⟩]
def zU7:List XO:=zU8
theorem zdp:E3 zU7 zU8:=E3.rfl
abbrev zVA:List XO:=[
 ⟨some 63,.p (.build (List.replicate 64 (.int .u32 0)) []),none⟩,
 ⟨some 9,.a (.alloc (List.replicate 64 (.int .u32 0))),none⟩,
 ⟨none,.e (.store 64 (T 9) (T 63)),none⟩]
def zU9:List XO:=zVA
theorem zdq:E3 zU9 zVA:=E3.rfl
abbrev zVC:List XO:=[
 ⟨some 10,.p (.mov (C (.int .i64 0))),none⟩]
def zVB:List XO:=zVC
theorem zdr:E3 zVB zVC:=E3.rfl
abbrev zVE:List XO:=[
 ⟨some 64,.p (.mov (T 10)),none⟩,
 ⟨some 65,.p (.bin .lss (T 64) (C (.int .i64 64))),none⟩]
def zVD:List XO:=zVE
theorem zds:E3 zVD zVE:=E3.rfl
abbrev zVG:List XO:=[
 ⟨some 68,.p (.mov (T 10)),none⟩,
 ⟨some 69,.p (.bin .lss (T 68) (C (.int .i64 16))),none⟩]
def zVF:List XO:=zVG
theorem zdt:E3 zVF zVG:=E3.rfl
abbrev zVI:List XO:=[
 ⟨some 70,.p (.mov (T 5)),none⟩,
 ⟨some 71,.p (.mov (T 8)),none⟩,
 ⟨some 72,.p (.mov (T 10)),none⟩,
 ⟨some 73,.p (.bin .mul (C (.int .i64 4)) (T 72)),none⟩,
 ⟨some 74,.p (.bin .add (T 71) (T 73)),none⟩,
 ⟨some 75,.p (.mov (T 8)),none⟩,
 ⟨some 76,.p (.mov (T 10)),none⟩,
 ⟨some 77,.p (.bin .mul (C (.int .i64 4)) (T 76)),none⟩,
 ⟨some 78,.p (.bin .add (T 75) (T 77)),none⟩,
 ⟨some 79,.p (.bin .add (T 78) (C (.int .i64 4))),none⟩,
 ⟨some 80,.p (.slc 1 (T 70) (some (T 74)) (some (T 79)) none),none⟩,
 ⟨some 11,.p (.mov (T 80)),none⟩]
def zVH:List XO:=zVI
theorem zdu:E3 zVH zVI:=E3.rfl
abbrev zVM:List XO:=[
 ⟨some 81,.p (.mov (T 10)),none⟩,
 ⟨some 82,.p (.mov (T 11)),none⟩,
 ⟨some 83,.p (.iaddrS 1 (T 82) (C (.int .i64 0))),none⟩,
 ⟨some 84,.r (.load1 (T 83)),none⟩,
 ⟨some 85,.p (.cint .u32 (T 84)),none⟩,
 ⟨some 86,.p (.bin .shl (T 85) (C (.int .u64 24))),none⟩,
 ⟨some 87,.p (.mov (T 11)),none⟩,
 ⟨some 88,.p (.iaddrS 1 (T 87) (C (.int .i64 1))),none⟩,
 ⟨some 89,.r (.load1 (T 88)),none⟩,
 ⟨some 90,.p (.cint .u32 (T 89)),none⟩,
 ⟨some 91,.p (.bin .shl (T 90) (C (.int .u64 16))),none⟩,
 ⟨some 92,.p (.bin .or (T 86) (T 91)),none⟩,
 ⟨some 93,.p (.mov (T 11)),none⟩,
 ⟨some 94,.p (.iaddrS 1 (T 93) (C (.int .i64 2))),none⟩,
 ⟨some 95,.r (.load1 (T 94)),none⟩,
 ⟨some 96,.p (.cint .u32 (T 95)),none⟩,
 ⟨some 97,.p (.bin .shl (T 96) (C (.int .u64 8))),none⟩,
 ⟨some 98,.p (.bin .or (T 92) (T 97)),none⟩,
 ⟨some 99,.p (.mov (T 11)),none⟩,
 ⟨some 100,.p (.iaddrS 1 (T 99) (C (.int .i64 3))),none⟩,
 ⟨some 101,.r (.load1 (T 100)),none⟩,
 ⟨some 102,.p (.cint .u32 (T 101)),none⟩,
 ⟨some 103,.p (.bin .or (T 98) (T 102)),none⟩,
 ⟨some 104,.p (.iaddrA 64 1 (T 9) (T 81)),none⟩,
 ⟨none,.e (.store 1 (T 104) (T 103)),none⟩]
def zVL:List XO:=zVM
theorem zdv:E3 zVL zVM:=E3.rfl
abbrev zVO:List XO:=[
 ⟨some 105,.p (.mov (T 10)),none⟩,
 ⟨some 106,.p (.bin .sub (T 105) (C (.int .i64 15))),none⟩,
 ⟨some 107,.p (.iaddrA 64 1 (T 9) (T 106)),none⟩,
 ⟨some 108,.r (.load1 (T 107)),none⟩,
 ⟨some 109,.call (.func 244) [(T 108),(C (.int .u64 7))],none⟩,
 ⟨some 110,.p (.mov (T 10)),none⟩,
 ⟨some 111,.p (.bin .sub (T 110) (C (.int .i64 15))),none⟩,
 ⟨some 112,.p (.iaddrA 64 1 (T 9) (T 111)),none⟩,
 ⟨some 113,.r (.load1 (T 112)),none⟩,
 ⟨some 114,.call (.func 244) [(T 113),(C (.int .u64 18))],none⟩,
 ⟨some 115,.p (.bin .xor (T 109) (T 114)),none⟩,
 ⟨some 116,.p (.mov (T 10)),none⟩,
 ⟨some 117,.p (.bin .sub (T 116) (C (.int .i64 15))),none⟩,
 ⟨some 118,.p (.iaddrA 64 1 (T 9) (T 117)),none⟩,
 ⟨some 119,.r (.load1 (T 118)),none⟩,
 ⟨some 120,.p (.bin .shr (T 119) (C (.int .u64 3))),none⟩,
 ⟨some 121,.p (.bin .xor (T 115) (T 120)),none⟩,
 ⟨some 12,.p (.mov (T 121)),none⟩]
def zVN:List XO:=zVO
theorem zdw:E3 zVN zVO:=E3.rfl
abbrev zVQ:List XO:=[
 ⟨some 122,.p (.mov (T 10)),none⟩,
 ⟨some 123,.p (.bin .sub (T 122) (C (.int .i64 2))),none⟩,
 ⟨some 124,.p (.iaddrA 64 1 (T 9) (T 123)),none⟩,
 ⟨some 125,.r (.load1 (T 124)),none⟩,
 ⟨some 126,.call (.func 244) [(T 125),(C (.int .u64 17))],none⟩,
 ⟨some 127,.p (.mov (T 10)),none⟩,
 ⟨some 128,.p (.bin .sub (T 127) (C (.int .i64 2))),none⟩,
 ⟨some 129,.p (.iaddrA 64 1 (T 9) (T 128)),none⟩,
 ⟨some 130,.r (.load1 (T 129)),none⟩,
 ⟨some 131,.call (.func 244) [(T 130),(C (.int .u64 19))],none⟩,
 ⟨some 132,.p (.bin .xor (T 126) (T 131)),none⟩,
 ⟨some 133,.p (.mov (T 10)),none⟩,
 ⟨some 134,.p (.bin .sub (T 133) (C (.int .i64 2))),none⟩,
 ⟨some 135,.p (.iaddrA 64 1 (T 9) (T 134)),none⟩,
 ⟨some 136,.r (.load1 (T 135)),none⟩,
 ⟨some 137,.p (.bin .shr (T 136) (C (.int .u64 10))),none⟩,
 ⟨some 138,.p (.bin .xor (T 132) (T 137)),none⟩,
 ⟨some 13,.p (.mov (T 138)),none⟩]
def zVP:List XO:=zVQ
theorem zdx:E3 zVP zVQ:=E3.rfl
abbrev zVS:List XO:=[
 ⟨some 139,.p (.mov (T 10)),none⟩,
 ⟨some 140,.p (.mov (T 10)),none⟩,
 ⟨some 141,.p (.bin .sub (T 140) (C (.int .i64 16))),none⟩,
 ⟨some 142,.p (.iaddrA 64 1 (T 9) (T 141)),none⟩,
 ⟨some 143,.r (.load1 (T 142)),none⟩,
 ⟨some 144,.p (.mov (T 12)),none⟩,
 ⟨some 145,.p (.bin .add (T 143) (T 144)),none⟩,
 ⟨some 146,.p (.mov (T 10)),none⟩,
 ⟨some 147,.p (.bin .sub (T 146) (C (.int .i64 7))),none⟩,
 ⟨some 148,.p (.iaddrA 64 1 (T 9) (T 147)),none⟩,
 ⟨some 149,.r (.load1 (T 148)),none⟩,
 ⟨some 150,.p (.bin .add (T 145) (T 149)),none⟩,
 ⟨some 151,.p (.mov (T 13)),none⟩,
 ⟨some 152,.p (.bin .add (T 150) (T 151)),none⟩,
 ⟨some 153,.p (.iaddrA 64 1 (T 9) (T 139)),none⟩,
 ⟨none,.e (.store 1 (T 153) (T 152)),none⟩]
def zVR:List XO:=zVS
theorem zdy:E3 zVR zVS:=E3.rfl
abbrev zVU:List XO:=[
 ⟨some 66,.p (.mov (T 10)),none⟩,
 ⟨some 67,.p (.bin .add (T 66) (C (.int .i64 1))),none⟩,
 ⟨some 10,.p (.mov (T 67)),none⟩]
def zVT:List XO:=zVU
theorem zdz:E3 zVT zVU:=E3.rfl
def zJZ:XC:=
 .seq (.seq (.ops zVD) (.cond (T 65) (.skip) (.exit 6))) (.seq (.block 7 (.seq (.seq (.ops zVF) (.cond (T 69) (.seq (.ops zVH) (.seq (.draw zVL []) (.exit 7))) (.skip))) (.seq (.draw zVN [(8,(4,[])),(14,(4,[])),(14,(9,[]))]) (.seq (.draw zVP [(8,(4,[])),(14,(4,[])),(14,(9,[]))]) (.draw zVR []))))) (.ops zVT))
def zJY:XC:=zJZ
theorem zd0 {pr:Prog} {k:List KI} {Q:XE→Fr→Heap→Prop} {t:Fr} {h:Heap} (hw:wpk pr zJZ k Q t h):wpk pr zJY k Q t h:=hw
abbrev zVW:List XO:=[
 ⟨some 154,.r (.loadN 8 (T 4)),none⟩,
 ⟨some 14,.a (.alloc (List.replicate 8 (.int .u32 0))),none⟩,
 ⟨none,.e (.store 8 (T 14) (T 154)),none⟩]
def zVV:List XO:=zVW
theorem zd1:E3 zVV zVW:=E3.rfl
abbrev zVY:List XO:=[
 ⟨some 15,.p (.mov (C (.int .i64 0))),none⟩]
def zVX:List XO:=zVY
theorem zd2:E3 zVX zVY:=E3.rfl
abbrev zVa:List XO:=[
 ⟨some 155,.p (.mov (T 15)),none⟩,
 ⟨some 156,.p (.bin .lss (T 155) (C (.int .i64 64))),none⟩]
def zVZ:List XO:=zVa
theorem zd3:E3 zVZ zVa:=E3.rfl
abbrev zVc:List XO:=[
 ⟨some 159,.p (.iaddrA 8 1 (T 14) (C (.int .i64 4))),none⟩,
 ⟨some 160,.r (.load1 (T 159)),none⟩,
 ⟨some 161,.call (.func 244) [(T 160),(C (.int .u64 6))],none⟩,
 ⟨some 162,.p (.iaddrA 8 1 (T 14) (C (.int .i64 4))),none⟩,
 ⟨some 163,.r (.load1 (T 162)),none⟩,
 ⟨some 164,.call (.func 244) [(T 163),(C (.int .u64 11))],none⟩,
 ⟨some 165,.p (.bin .xor (T 161) (T 164)),none⟩,
 ⟨some 166,.p (.iaddrA 8 1 (T 14) (C (.int .i64 4))),none⟩,
 ⟨some 167,.r (.load1 (T 166)),none⟩,
 ⟨some 168,.call (.func 244) [(T 167),(C (.int .u64 25))],none⟩,
 ⟨some 169,.p (.bin .xor (T 165) (T 168)),none⟩,
 ⟨some 16,.p (.mov (T 169)),none⟩]
def zVb:List XO:=zVc
theorem zd4:E3 zVb zVc:=E3.rfl
abbrev zVg:List XO:=[
 ⟨some 170,.p (.iaddrA 8 1 (T 14) (C (.int .i64 7))),none⟩,
 ⟨some 171,.r (.load1 (T 170)),none⟩,
 ⟨some 172,.p (.mov (T 16)),none⟩,
 ⟨some 173,.p (.bin .add (T 171) (T 172)),none⟩,
 ⟨some 174,.p (.iaddrA 8 1 (T 14) (C (.int .i64 4))),none⟩,
 ⟨some 175,.r (.load1 (T 174)),none⟩,
 ⟨some 176,.p (.iaddrA 8 1 (T 14) (C (.int .i64 5))),none⟩,
 ⟨some 177,.r (.load1 (T 176)),none⟩,
 ⟨some 178,.p (.bin .and (T 175) (T 177)),none⟩,
 ⟨some 179,.p (.iaddrA 8 1 (T 14) (C (.int .i64 4))),none⟩,
 ⟨some 180,.r (.load1 (T 179)),none⟩,
 ⟨some 181,.p (.bin .sub (C (.int .u32 4294967295)) (T 180)),none⟩,
 ⟨some 182,.p (.iaddrA 8 1 (T 14) (C (.int .i64 6))),none⟩,
 ⟨some 183,.r (.load1 (T 182)),none⟩,
 ⟨some 184,.p (.bin .and (T 181) (T 183)),none⟩,
 ⟨some 185,.p (.bin .xor (T 178) (T 184)),none⟩,
 ⟨some 186,.p (.bin .add (T 173) (T 185)),none⟩,
 ⟨some 187,.p (.mov (T 15)),none⟩,
 ⟨some 188,.p (.iaddrA 64 1 (T 3) (T 187)),none⟩,
 ⟨some 189,.r (.load1 (T 188)),none⟩,
 ⟨some 190,.p (.bin .add (T 186) (T 189)),none⟩,
 ⟨some 191,.p (.mov (T 15)),none⟩,
 ⟨some 192,.p (.iaddrA 64 1 (T 9) (T 191)),none⟩,
 ⟨some 193,.r (.load1 (T 192)),none⟩,
 ⟨some 194,.p (.bin .add (T 190) (T 193)),none⟩,
 ⟨some 17,.p (.mov (T 194)),none⟩]
def zVf:List XO:=zVg
theorem zd5:E3 zVf zVg:=E3.rfl
abbrev zVi:List XO:=[
 ⟨some 195,.p (.iaddrA 8 1 (T 14) (C (.int .i64 0))),none⟩,
 ⟨some 196,.r (.load1 (T 195)),none⟩,
 ⟨some 197,.call (.func 244) [(T 196),(C (.int .u64 2))],none⟩,
 ⟨some 198,.p (.iaddrA 8 1 (T 14) (C (.int .i64 0))),none⟩,
 ⟨some 199,.r (.load1 (T 198)),none⟩,
 ⟨some 200,.call (.func 244) [(T 199),(C (.int .u64 13))],none⟩,
 ⟨some 201,.p (.bin .xor (T 197) (T 200)),none⟩,
 ⟨some 202,.p (.iaddrA 8 1 (T 14) (C (.int .i64 0))),none⟩,
 ⟨some 203,.r (.load1 (T 202)),none⟩,
 ⟨some 204,.call (.func 244) [(T 203),(C (.int .u64 22))],none⟩,
 ⟨some 205,.p (.bin .xor (T 201) (T 204)),none⟩,
 ⟨some 18,.p (.mov (T 205)),none⟩]
def zVh:List XO:=zVi
theorem zd6:E3 zVh zVi:=E3.rfl
abbrev zVk:List XO:=[
 ⟨some 206,.p (.mov (T 18)),none⟩,
 ⟨some 207,.p (.iaddrA 8 1 (T 14) (C (.int .i64 0))),none⟩,
 ⟨some 208,.r (.load1 (T 207)),none⟩,
 ⟨some 209,.p (.iaddrA 8 1 (T 14) (C (.int .i64 1))),none⟩,
 ⟨some 210,.r (.load1 (T 209)),none⟩,
 ⟨some 211,.p (.bin .and (T 208) (T 210)),none⟩,
 ⟨some 212,.p (.iaddrA 8 1 (T 14) (C (.int .i64 0))),none⟩,
 ⟨some 213,.r (.load1 (T 212)),none⟩,
 ⟨some 214,.p (.iaddrA 8 1 (T 14) (C (.int .i64 2))),none⟩,
 ⟨some 215,.r (.load1 (T 214)),none⟩,
 ⟨some 216,.p (.bin .and (T 213) (T 215)),none⟩,
 ⟨some 217,.p (.bin .xor (T 211) (T 216)),none⟩,
 ⟨some 218,.p (.iaddrA 8 1 (T 14) (C (.int .i64 1))),none⟩,
 ⟨some 219,.r (.load1 (T 218)),none⟩,
 ⟨some 220,.p (.iaddrA 8 1 (T 14) (C (.int .i64 2))),none⟩,
 ⟨some 221,.r (.load1 (T 220)),none⟩,
 ⟨some 222,.p (.bin .and (T 219) (T 221)),none⟩,
 ⟨some 223,.p (.bin .xor (T 217) (T 222)),none⟩,
 ⟨some 224,.p (.bin .add (T 206) (T 223)),none⟩,
 ⟨some 19,.p (.mov (T 224)),none⟩]
def zVj:List XO:=zVk
theorem zd7:E3 zVj zVk:=E3.rfl
abbrev zVm:List XO:=[
 ⟨some 20,.p (.mov (C (.int .i64 7))),none⟩]
def zVl:List XO:=zVm
theorem zd8:E3 zVl zVm:=E3.rfl
abbrev zVo:List XO:=[
 ⟨some 225,.p (.mov (T 20)),none⟩,
 ⟨some 226,.p (.bin .gtr (T 225) (C (.int .i64 0))),none⟩]
def zVn:List XO:=zVo
theorem zd9:E3 zVn zVo:=E3.rfl
abbrev zVq:List XO:=[
 ⟨some 229,.p (.mov (T 20)),none⟩,
 ⟨some 230,.p (.mov (T 20)),none⟩,
 ⟨some 231,.p (.bin .sub (T 230) (C (.int .i64 1))),none⟩,
 ⟨some 232,.p (.iaddrA 8 1 (T 14) (T 231)),none⟩,
 ⟨some 233,.r (.load1 (T 232)),none⟩,
 ⟨some 234,.p (.iaddrA 8 1 (T 14) (T 229)),none⟩,
 ⟨none,.e (.store 1 (T 234) (T 233)),none⟩]
def zVp:List XO:=zVq
theorem zeA:E3 zVp zVq:=E3.rfl
abbrev zVs:List XO:=[
 ⟨some 227,.p (.mov (T 20)),none⟩,
 ⟨some 228,.p (.bin .sub (T 227) (C (.int .i64 1))),none⟩,
 ⟨some 20,.p (.mov (T 228)),none⟩]
def zVr:List XO:=zVs
theorem zeB:E3 zVr zVs:=E3.rfl
def zJb:XC:=
 .seq (.seq (.ops zVn) (.cond (T 226) (.skip) (.exit 10))) (.seq (.block 11 (.ops zVp)) (.ops zVr))
def zJa:XC:=zJb
theorem zeC {pr:Prog} {k:List KI} {Q:XE→Fr→Heap→Prop} {t:Fr} {h:Heap} (hw:wpk pr zJb k Q t h):wpk pr zJa k Q t h:=hw
abbrev zVu:List XO:=[
 ⟨some 235,.p (.iaddrA 8 1 (T 14) (C (.int .i64 4))),none⟩,
 ⟨some 236,.r (.load1 (T 235)),none⟩,
 ⟨some 237,.p (.mov (T 17)),none⟩,
 ⟨some 238,.p (.bin .add (T 236) (T 237)),none⟩,
 ⟨some 239,.p (.iaddrA 8 1 (T 14) (C (.int .i64 4))),none⟩,
 ⟨none,.e (.store 1 (T 239) (T 238)),none⟩]
def zVt:List XO:=zVu
theorem zeD:E3 zVt zVu:=E3.rfl
abbrev zVw:List XO:=[
 ⟨some 240,.p (.mov (T 17)),none⟩,
 ⟨some 241,.p (.mov (T 19)),none⟩,
 ⟨some 242,.p (.bin .add (T 240) (T 241)),none⟩,
 ⟨some 243,.p (.iaddrA 8 1 (T 14) (C (.int .i64 0))),none⟩,
 ⟨none,.e (.store 1 (T 243) (T 242)),none⟩]
def zVv:List XO:=zVw
theorem zeE:E3 zVv zVw:=E3.rfl
abbrev zV0:List XO:=[
 ⟨some 157,.p (.mov (T 15)),none⟩,
 ⟨some 158,.p (.bin .add (T 157) (C (.int .i64 1))),none⟩,
 ⟨some 15,.p (.mov (T 158)),none⟩]
def zVz:List XO:=zV0
theorem zeF:E3 zVz zV0:=E3.rfl
def zJd:XC:=
 .seq (.seq (.ops zVZ) (.cond (T 156) (.skip) (.exit 8))) (.seq (.block 9 (.seq (.draw zVb [(4,(2,[])),(8,(2,[])),(8,(5,[]))]) (.seq (.draw zVf []) (.seq (.draw zVh [(4,(2,[])),(8,(2,[])),(8,(5,[]))]) (.seq (.ops zVj) (.seq (.seq (.ops zVl) (.block 10 (.loop zJa))) (.seq (.ops zVt) (.ops zVv)))))))) (.ops zVz))
def zJc:XC:=zJd
theorem zeG {pr:Prog} {k:List KI} {Q:XE→Fr→Heap→Prop} {t:Fr} {h:Heap} (hw:wpk pr zJd k Q t h):wpk pr zJc k Q t h:=hw
abbrev zV2:List XO:=[
 ⟨some 21,.p (.mov (C (.int .i64 0))),none⟩]
def zV1:List XO:=zV2
theorem zeH:E3 zV1 zV2:=E3.rfl
abbrev zV4:List XO:=[
 ⟨some 244,.p (.mov (T 21)),none⟩,
 ⟨some 245,.p (.bin .lss (T 244) (C (.int .i64 8))),none⟩]
def zV3:List XO:=zV4
theorem zeI:E3 zV3 zV4:=E3.rfl
abbrev zV6:List XO:=[
 ⟨some 248,.p (.mov (T 21)),none⟩,
 ⟨some 249,.p (.iaddrA 8 1 (T 4) (T 248)),none⟩,
 ⟨some 250,.r (.load1 (T 249)),none⟩,
 ⟨some 251,.p (.mov (T 21)),none⟩,
 ⟨some 252,.p (.iaddrA 8 1 (T 14) (T 251)),none⟩,
 ⟨some 253,.r (.load1 (T 252)),none⟩,
 ⟨some 254,.p (.bin .add (T 250) (T 253)),none⟩,
 ⟨some 255,.p (.iaddrA 8 1 (T 4) (T 248)),none⟩,
 ⟨none,.e (.store 1 (T 255) (T 254)),none⟩]
def zV5:List XO:=zV6
theorem zeJ:E3 zV5 zV6:=E3.rfl
abbrev zV8:List XO:=[
 ⟨some 246,.p (.mov (T 21)),none⟩,
 ⟨some 247,.p (.bin .add (T 246) (C (.int .i64 1))),none⟩,
 ⟨some 21,.p (.mov (T 247)),none⟩]
def zV7:List XO:=zV8
theorem zeK:E3 zV7 zV8:=E3.rfl
def zJf:XC:=
 .seq (.seq (.ops zV3) (.cond (T 245) (.skip) (.exit 12))) (.seq (.block 13 (.draw zV5 [])) (.ops zV7))
def zJe:XC:=zJf
theorem zeL {pr:Prog} {k:List KI} {Q:XE→Fr→Heap→Prop} {t:Fr} {h:Heap} (hw:wpk pr zJf k Q t h):wpk pr zJe k Q t h:=hw
abbrev zWA:List XO:=[
 ⟨some 61,.p (.mov (T 8)),none⟩,
 ⟨some 62,.p (.bin .add (T 61) (C (.int .i64 64))),none⟩,
 ⟨some 8,.p (.mov (T 62)),none⟩]
def zV9:List XO:=zWA
theorem zeM:E3 zV9 zWA:=E3.rfl
def zJh:XC:=
 .seq (.seq (.ops zU7) (.cond (T 60) (.skip) (.exit 4))) (.seq (.block 5 (.seq (.ops zU9) (.seq (.seq (.ops zVB) (.block 6 (.loop zJY))) (.seq (.ops zVV) (.seq (.seq (.ops zVX) (.block 8 (.loop zJc))) (.seq (.ops zV1) (.block 12 (.loop zJe)))))))) (.ops zV9))
def zJg:XC:=zJh
theorem zeN {pr:Prog} {k:List KI} {Q:XE→Fr→Heap→Prop} {t:Fr} {h:Heap} (hw:wpk pr zJh k Q t h):wpk pr zJg k Q t h:=hw
abbrev zWC:List XO:=[
 ⟨some 256,.a (.bslice [] 0 []),none⟩,
 ⟨some 22,.p (.mov (T 256)),none⟩]
def zWB:List XO:=zWC
theorem zeO:E3 zWB zWC:=E3.rfl
abbrev zWG:List XO:=[
 ⟨some 23,.p (.mov (C (.int .i64 0))),none⟩]
def zWF:List XO:=zWG
theorem zeP:E3 zWF zWG:=E3.rfl
abbrev zWI:List XO:=[
 ⟨some 257,.p (.mov (T 23)),none⟩,
 ⟨some 258,.p (.bin .lss (T 257) (C (.int .i64 8))),none⟩]
def zWH:List XO:=zWI
theorem zeQ:E3 zWH zWI:=E3.rfl
abbrev zWK:List XO:=[
 ⟨some 261,.p (.mov (T 22)),none⟩,
 ⟨some 262,.p (.mov (T 23)),none⟩,
 ⟨some 263,.p (.iaddrA 8 1 (T 4) (T 262)),none⟩,
 ⟨some 264,.r (.load1 (T 263)),none⟩,
 ⟨some 265,.p (.bin .shr (T 264) (C (.int .u64 24))),none⟩,
 ⟨some 266,.p (.cint .u8 (T 265)),none⟩,
 ⟨some 267,.p (.mov (T 23)),none⟩,
 ⟨some 268,.p (.iaddrA 8 1 (T 4) (T 267)),none⟩,
 ⟨some 269,.r (.load1 (T 268)),none⟩,
 ⟨some 270,.p (.bin .shr (T 269) (C (.int .u64 16))),none⟩,
 ⟨some 271,.p (.cint .u8 (T 270)),none⟩,
 ⟨some 272,.p (.mov (T 23)),none⟩,
 ⟨some 273,.p (.iaddrA 8 1 (T 4) (T 272)),none⟩,
 ⟨some 274,.r (.load1 (T 273)),none⟩,
 ⟨some 275,.p (.bin .shr (T 274) (C (.int .u64 8))),none⟩,
 ⟨some 276,.p (.cint .u8 (T 275)),none⟩,
 ⟨some 277,.p (.mov (T 23)),none⟩,
 ⟨some 278,.p (.iaddrA 8 1 (T 4) (T 277)),none⟩,
 ⟨some 279,.r (.load1 (T 278)),none⟩,
 ⟨some 280,.p (.cint .u8 (T 279)),none⟩,
 ⟨some 281,.a (.bslice (List.replicate 4 (.int .u8 0)) 4 [(0,1,(T 266)),(1,1,(T 271)),(2,1,(T 276)),(3,1,(T 280))]),none⟩,
 ⟨some 282,.e (.append 1 1 (T 261) (T 281)),none⟩,
 ⟨some 22,.p (.mov (T 282)),none⟩]
def zWJ:List XO:=zWK
theorem zeR:E3 zWJ zWK:=E3.rfl
abbrev zWM:List XO:=[
 ⟨some 259,.p (.mov (T 23)),none⟩,
 ⟨some 260,.p (.bin .add (T 259) (C (.int .i64 1))),none⟩,
 ⟨some 23,.p (.mov (T 260)),none⟩]
def zWL:List XO:=zWM
theorem zeS:E3 zWL zWM:=E3.rfl
def zJj:XC:=
 .seq (.seq (.ops zWH) (.cond (T 258) (.skip) (.exit 14))) (.seq (.block 15 (.draw zWJ [(3,(21,[])),(8,(21,[])),(13,(21,[])),(18,(21,[]))])) (.ops zWL))
def zJi:XC:=zJj
theorem zeT {pr:Prog} {k:List KI} {Q:XE→Fr→Heap→Prop} {t:Fr} {h:Heap} (hw:wpk pr zJj k Q t h):wpk pr zJi k Q t h:=hw
abbrev zWO:List XO:=[
 ⟨some 283,.p (.mov (T 22)),none⟩,
 ⟨some 284,.r (.cb2s (T 283)),none⟩,
 ⟨some 2,.p (.mov (T 284)),none⟩]
def zWN:List XO:=zWO
theorem zeU:E3 zWN zWO:=E3.rfl
def xq220:XF:=⟨1,[.tmp 2],
 .seq (.ops zUy) (.seq (.ops zU0) (.seq (.ops zVK) (.seq (.ops zVe) (.seq (.block 0 (.loop zJk)) (.seq (.ops zWQ) (.seq (.seq (.ops zWS) (.block 2 (.loop zJW))) (.seq (.seq (.ops zU5) (.block 4 (.loop zJg))) (.seq (.ops zWB) (.seq (.seq (.ops zWF) (.block 14 (.loop zJi))) (.seq (.ops zWN) (.ret)))))))))))⟩
def yq220:=PLift.up (And.intro (And.intro (And.intro (And.intro (And.intro (@xq220_0e) (And.intro (@xq220_1e) (@xq220_2e))) (And.intro (@xq220_3e) (And.intro (@xq220_4e) (@xq220_5e)))) (And.intro (And.intro (@xq220_7e) (And.intro (@xq220_8e) (@xq220_9e))) (And.intro (@zdl) (And.intro (@zdm) (@zdo))))) (And.intro (And.intro (And.intro (@zdp) (And.intro (@zdq) (@zdr))) (And.intro (@zds) (And.intro (@zdt) (@zdu)))) (And.intro (And.intro (@zdv) (And.intro (@zdw) (@zdx))) (And.intro (@zdy) (And.intro (@zdz) (@zd1)))))) (And.intro (And.intro (And.intro (And.intro (@zd2) (And.intro (@zd3) (@zd4))) (And.intro (@zd5) (And.intro (@zd6) (@zd7)))) (And.intro (And.intro (@zd8) (And.intro (@zd9) (@zeA))) (And.intro (@zeB) (And.intro (@zeD) (@zeE))))) (And.intro (And.intro (And.intro (@zeF) (And.intro (@zeH) (@zeI))) (And.intro (@zeJ) (And.intro (@zeK) (@zeM)))) (And.intro (And.intro (@zeO) (And.intro (@zeP) (@zeQ))) (And.intro (@zeR) (And.intro (@zeS) (@zeU)))))))
theorem cq220:zg Tryz.prog Tryz.f220 = some xq220:=by kernel_rfl
abbrev zW9:List XO:=[
 ⟨some 4,.p (.mov (C (.string (strOf [])))),none⟩]
def zW8:List XO:=zW9
theorem xq223_0e:E3 zW8 zW9:=E3.rfl
abbrev zXC:List XO:=[
 ⟨some 7,.p (.mov (T 0)),none⟩,
 ⟨some 8,.p (.lenS (T 7)),none⟩,
 ⟨some 9,.p (.bin .gtr (T 8) (C (.int .i64 64))),none⟩]
def zXA:List XO:=zXC
theorem xq223_1e:E3 zXA zXC:=E3.rfl
abbrev zXE:List XO:=[
 ⟨some 10,.p (.mov (T 0)),none⟩,
 ⟨some 11,.call (.func 179) [(T 10)],none⟩,
 ⟨some 0,.p (.mov (T 11)),none⟩]
def zXD:List XO:=zXE
theorem xq223_2e:E3 zXD zXE:=E3.rfl
abbrev zXF:List XO:=[
 ⟨some 12,.p (.mov (T 0)),none⟩,
 ⟨some 13,.p (.mov (T 0)),none⟩,
 ⟨some 14,.p (.lenS (T 13)),none⟩,
 ⟨some 15,.p (.bin .sub (C (.int .i64 64)) (T 14)),none⟩,
 ⟨some 16,.call (.func 248) [(C (.string (strOf [0]))),(T 15)],none⟩,
 ⟨some 17,.p (.bin .add (T 12) (T 16)),none⟩,
 ⟨some 18,.a (.cs2b (T 17)),none⟩,
 ⟨some 5,.p (.mov (T 18)),none⟩]
def zJr:List XO:=zXF
theorem xq223_3e:E3 zJr zXF:=E3.rfl
abbrev zXG:List XO:=[
 ⟨some 19,.p (.mov (T 5)),none⟩,
 ⟨some 20,.p (.lenV (T 19)),none⟩,
 ⟨some 21,.p (.mov (C (.int .i64 0))),none⟩]
def zJs:List XO:=zXG
theorem xq223_4e:E3 zJs zXG:=E3.rfl
abbrev zXI:List XO:=[
 ⟨some 22,.p (.bin .lss (T 21) (T 20)),none⟩]
def zXH:List XO:=zXI
theorem xq223_5e:E3 zXH zXI:=E3.rfl
abbrev zXK:List XO:=[
 ⟨some 23,.p (.mov (T 21)),none⟩,
 ⟨some 6,.p (.mov (T 23)),none⟩]
def zXJ:List XO:=zXK
theorem xq223_6e:E3 zXJ zXK:=E3.rfl
abbrev zXM:List XO:=[
 ⟨some 24,.p (.mov (T 5)),none⟩,
 ⟨some 25,.p (.mov (T 6)),none⟩,
 ⟨some 26,.p (.iaddrS 1 (T 24) (T 25)),none⟩,
 ⟨some 27,.r (.load1 (T 26)),none⟩,
 ⟨some 28,.p (.mov (T 1)),none⟩,
 ⟨some 29,.p (.bin .xor (T 27) (T 28)),none⟩,
 ⟨some 30,.p (.iaddrS 1 (T 24) (T 25)),none⟩,
 ⟨none,.e (.store 1 (T 30) (T 29)),none⟩]
def zXL:List XO:=zXM
theorem xq223_7e:E3 zXL zXM:=E3.rfl
abbrev zXO:List XO:=[
 ⟨some 31,.p (.bin .add (T 21) (C (.int .i64 1))),none⟩,
 ⟨some 21,.p (.mov (T 31)),none⟩]
def zXN:List XO:=zXO
theorem xq223_8e:E3 zXN zXO:=E3.rfl
def zJu:XC:=
 .seq (.ops zXH) (.seq (.cond (T 22) (.skip) (.exit 0)) (.seq (.block 1 (.seq (.ops zXJ) (.ops zXL))) (.ops zXN)))
def zJt:XC:=zJu
theorem xq223_9k {pr:Prog} {k:List KI} {Q:XE→Fr→Heap→Prop} {t:Fr} {h:Heap} (hw:wpk pr zJu k Q t h):wpk pr zJt k Q t h:=hw
abbrev zXB:List XO:=[
 ⟨some 32,.p (.mov (T 5)),none⟩,
 ⟨some 33,.r (.cb2s (T 32)),none⟩,
 ⟨some 4,.p (.mov (T 33)),none⟩]
def zJq:List XO:=zXB
theorem zee:E3 zJq zXB:=E3.rfl
def xq223:XF:=⟨2,[.tmp 4],
 .seq (.ops zW8) (.seq (.seq (.ops zXA) (.cond (T 9) (.ops zXD) (.skip))) (.seq (.ops zJr) (.seq (.seq (.ops zJs) (.block 0 (.loop zJt))) (.seq (.ops zJq) (.ret)))))⟩
def yq223:=PLift.up (And.intro (And.intro (And.intro (@xq223_0e) (@xq223_1e)) (And.intro (@xq223_2e) (And.intro (@xq223_3e) (@xq223_4e)))) (And.intro (And.intro (@xq223_5e) (@xq223_6e)) (And.intro (@xq223_7e) (And.intro (@xq223_8e) (@zee)))))
theorem cq223:zg Tryz.prog Tryz.f223 = some xq223:=by kernel_rfl
abbrev zUF:List XO:=[
 ⟨some 4,.p (.mov (C (.string (strOf [])))),none⟩]
def zUE:List XO:=zUF
theorem xq199_0e:E3 zUE zUF:=E3.rfl
abbrev zUH:List XO:=[
 ⟨some 5,.p (.mov (T 0)),none⟩,
 ⟨some 6,.call (.func 223) [(T 5),(C (.int .u8 92))],none⟩,
 ⟨some 7,.p (.mov (T 0)),none⟩,
 ⟨some 8,.call (.func 223) [(T 7),(C (.int .u8 54))],none⟩,
 ⟨some 9,.p (.mov (T 1)),none⟩,
 ⟨some 10,.p (.bin .add (T 8) (T 9)),none⟩,
 ⟨some 11,.call (.func 179) [(T 10)],none⟩,
 ⟨some 12,.p (.bin .add (T 6) (T 11)),none⟩,
 ⟨some 13,.call (.func 179) [(T 12)],none⟩,
 ⟨some 4,.p (.mov (T 13)),none⟩]
def zUG:List XO:=zUH
theorem xq199_1e:E3 zUG zUH:=E3.rfl
def xq199:XF:=⟨2,[.tmp 4],
 .seq (.ops zUE) (.seq (.ops zUG) (.ret))⟩
def yq199:=PLift.up (And.intro (@xq199_0e) (@xq199_1e))
theorem cq199:zg Tryz.prog Tryz.f199 = some xq199:=by kernel_rfl
abbrev zUv:List XO:=[
 ⟨some 6,.p (.mov (C (.bool false))),none⟩]
def zUu:List XO:=zUv
theorem xq216_0e:E3 zUu zUv:=E3.rfl
abbrev zUx:List XO:=[
 ⟨some 7,.p (.mov (T 0)),none⟩,
 ⟨some 8,.p (.mov (T 1)),none⟩,
 ⟨some 9,.call (.func 199) [(T 7),(T 8)],none⟩,
 ⟨some 10,.p (.mov (T 2)),none⟩,
 ⟨some 11,.call (.func 212) [(T 9),(T 10)],none⟩,
 ⟨some 6,.p (.mov (T 11)),none⟩]
def zUw:List XO:=zUx
theorem xq216_1e:E3 zUw zUx:=E3.rfl
def xq216:XF:=⟨3,[.tmp 6],
 .seq (.ops zUu) (.seq (.ops zUw) (.ret))⟩
def yq216:=PLift.up (And.intro (@xq216_0e) (@xq216_1e))
theorem cq216:zg Tryz.prog Tryz.f216 = some xq216:=by kernel_rfl
abbrev zUJ:List XO:=[
 ⟨some 4,.p (.mov (C (.bool false))),none⟩]
def zUI:List XO:=zUJ
theorem xq212_0e:E3 zUI zUJ:=E3.rfl
abbrev zUN:List XO:=[
 ⟨some 7,.p (.mov (T 0)),none⟩,
 ⟨some 8,.p (.lenS (T 7)),none⟩,
 ⟨some 9,.p (.mov (T 1)),none⟩,
 ⟨some 10,.p (.lenS (T 9)),none⟩,
 ⟨some 11,.p (.eql true .int (T 8) (T 10)),none⟩]
def zUK:List XO:=zUN
theorem xq212_1e:E3 zUK zUN:=E3.rfl
abbrev zUP:List XO:=[
 ⟨some 4,.p (.mov (C (.bool false))),none⟩]
def zUO:List XO:=zUP
theorem xq212_2e:E3 zUO zUP:=E3.rfl
abbrev zUR:List XO:=[
 ⟨some 5,.p (.mov (C (.int .u8 0))),none⟩]
def zUQ:List XO:=zUR
theorem xq212_3e:E3 zUQ zUR:=E3.rfl
abbrev zUT:List XO:=[
 ⟨some 12,.p (.mov (T 0)),none⟩,
 ⟨some 13,.p (.lenS (T 12)),none⟩,
 ⟨some 14,.p (.mov (C (.int .i64 0))),none⟩]
def zUS:List XO:=zUT
theorem xq212_4e:E3 zUS zUT:=E3.rfl
abbrev zUV:List XO:=[
 ⟨some 15,.p (.bin .lss (T 14) (T 13)),none⟩]
def zUU:List XO:=zUV
theorem xq212_5e:E3 zUU zUV:=E3.rfl
abbrev zUX:List XO:=[
 ⟨some 16,.p (.mov (T 14)),none⟩,
 ⟨some 6,.p (.mov (T 16)),none⟩]
def zUW:List XO:=zUX
theorem xq212_6e:E3 zUW zUX:=E3.rfl
abbrev zUZ:List XO:=[
 ⟨some 17,.p (.mov (T 5)),none⟩,
 ⟨some 18,.p (.mov (T 0)),none⟩,
 ⟨some 19,.p (.mov (T 6)),none⟩,
 ⟨some 20,.p (.idxS (T 18) (T 19)),none⟩,
 ⟨some 21,.p (.mov (T 1)),none⟩,
 ⟨some 22,.p (.mov (T 6)),none⟩,
 ⟨some 23,.p (.idxS (T 21) (T 22)),none⟩,
 ⟨some 24,.p (.bin .xor (T 20) (T 23)),none⟩,
 ⟨some 25,.p (.bin .or (T 17) (T 24)),none⟩,
 ⟨some 5,.p (.mov (T 25)),none⟩]
def zUY:List XO:=zUZ
theorem xq212_7e:E3 zUY zUZ:=E3.rfl
abbrev zUb:List XO:=[
 ⟨some 26,.p (.bin .add (T 14) (C (.int .i64 1))),none⟩,
 ⟨some 14,.p (.mov (T 26)),none⟩]
def zUa:List XO:=zUb
theorem xq212_8e:E3 zUa zUb:=E3.rfl
def zJU:XC:=
 .seq (.ops zUU) (.seq (.cond (T 15) (.skip) (.exit 0)) (.seq (.block 1 (.seq (.ops zUW) (.draw zUY []))) (.ops zUa)))
def zUc:XC:=zJU
theorem xq212_9k {pr:Prog} {k:List KI} {Q:XE→Fr→Heap→Prop} {t:Fr} {h:Heap} (hw:wpk pr zJU k Q t h):wpk pr zUc k Q t h:=hw
abbrev zUM:List XO:=[
 ⟨some 27,.p (.mov (T 5)),none⟩,
 ⟨some 28,.p (.eql false .int (T 27) (C (.int .u8 0))),none⟩,
 ⟨some 4,.p (.mov (T 28)),none⟩]
def zUL:List XO:=zUM
theorem zdk:E3 zUL zUM:=E3.rfl
def xq212:XF:=⟨2,[.tmp 4],
 .seq (.ops zUI) (.seq (.seq (.ops zUK) (.cond (T 11) (.seq (.ops zUO) (.ret)) (.skip))) (.seq (.ops zUQ) (.seq (.seq (.ops zUS) (.block 0 (.loop zUc))) (.seq (.ops zUL) (.ret)))))⟩
def yq212:=PLift.up (And.intro (And.intro (And.intro (@xq212_0e) (@xq212_1e)) (And.intro (@xq212_2e) (And.intro (@xq212_3e) (@xq212_4e)))) (And.intro (And.intro (@xq212_5e) (@xq212_6e)) (And.intro (@xq212_7e) (And.intro (@xq212_8e) (@zdk)))))
theorem cq212:zg Tryz.prog Tryz.f212 = some xq212:=by kernel_rfl
end Go.X
end
section
open Go Go.X
theorem zIb (x n:Nat):uw .u32 ((x % 4294967296) >>> n ||| x <<< (32 - n)) = uw .u32 (Sha.rotr x n):=by
 apply zDw
 simp only [zB5,Sha.rotr,Nat.reducePow]
 show _ = (((x % 4294967296) >>> n) ||| ((x <<< (32 - n)) % 4294967296)) % 4294967296
 have h:=@Nat.or_mod_two_pow
 have e:(4294967296:Nat) = 2 ^ 32:=by decide
 rw [e,h,h,Nat.mod_mod]
theorem turn_ok (pr:Prog) (x n:Nat) (h:Heap) (hn:n≤32):Comes pr xq244 [uw .u32 x,.int .u64 (n:Int)] h (uw .u32 (Sha.rotr x n)):=by
 apply Comes.of
 unfold xq244
 dsimp only [zh]
 have hs:IntKind.u64.wrap (32 - (n:Int)) = ((32 - n:Nat):Int):=by rw [zGq rfl];simp only [zFX];omega
 (repeat (first|refine zS ?_|refine zK ?_|refine zR ?_|refine zD ?_|refine zB ?_|refine zI ?_|refine zJ ?_|refine zP ?_|refine zE ?_|refine zG ?_|refine zF ?_|refine zH (by decide) ?_|refine zQ ?_|((first|refine zC ?_|refine zM ?_|refine zO rfl rfl ?_|refine zN rfl ?_|refine zL ?_);simp only [yq244.down,zA,lemS.down,lemC.down,zex,zew,zeu,reduceIte,zev,zey,zez,ze0,ze1,ze2,ze3,ze4,ze5,reduceCtorEq,zIi hn,hs,zMs (show 32 - n≤32 from Nat.sub_le _ _),lemW.down])))
 refine ⟨.inr rfl,?_,Grows.refl h⟩
 simp only [yq244.down,zA,lemS.down,lemC.down,zex,zew,zeu,reduceIte,zev,zey,zez,ze0,ze1,ze2,ze3,ze4,ze5,reduceCtorEq,zIb]
theorem rotl_ok (pr:Prog) (x n:Nat) (h:Heap) (h1:1≤n) (hn:n≤31):Comes pr xq268 [uw .u32 x,.int .i64 (-(n:Int))] h (uw .u32 (Sha.rotr x n)):=by
 apply Comes.of
 unfold xq268
 dsimp only [zh]
 have e1:IntKind.u64.wrap (-(n:Int)) = ((18446744073709551616 - n:Nat):Int):=by rw [zGq rfl];simp only [zFX];omega
 have e2:binX .and (.int .u64 ((18446744073709551616 - n:Nat):Int)) (.int .u64 31) = some (.int .u64 ((32 - n:Nat):Int)):=by
  rw [zIw (k:=.u64) (show 18446744073709551616 - n < 2 ^ 64 by omega),uw_lit (k:=.u64) (n:=31) (by decide),zGl rfl,uw]
  have:(18446744073709551616 - n) &&& 31 = (18446744073709551616 - n) % 32:=Nat.and_two_pow_sub_one_eq_mod _ 5
  rw [this]
  simp only [zFX]
  congr 3
  omega
 have e3:IntKind.u64.wrap (32 - ((32 - n:Nat):Int)) = (n:Int):=by rw [zGq rfl];simp only [zFX];omega
 (repeat (first|refine zS ?_|refine zK ?_|refine zR ?_|refine zD ?_|refine zB ?_|refine zI ?_|refine zJ ?_|refine zP ?_|refine zE ?_|refine zG ?_|refine zF ?_|refine zH (by decide) ?_|refine zQ ?_|((first|refine zC ?_|refine zM ?_|refine zO rfl rfl ?_|refine zN rfl ?_|refine zL ?_);simp only [yq268.down,zA,lemS.down,lemC.down,zex,zew,zeu,reduceIte,zev,zey,zez,ze0,ze1,ze2,ze3,ze4,ze5,reduceCtorEq,e1,e2,e3,zIi (show n≤32 by omega),zMs (show 32 - n≤32 from Nat.sub_le _ _),lemW.down])))
 refine ⟨.inr rfl,?_,Grows.refl h⟩
 simp only [yq268.down,zA,lemS.down,lemC.down,zex,zew,zeu,reduceIte,zev,zey,zez,ze0,ze1,ze2,ze3,ze4,ze5,reduceCtorEq,Nat.or_comm,zIb]
 rw [Nat.or_comm,zIb]
end
section
open Go Go.X
namespace Go.X
theorem zIa (x n:Nat):Sha.rotr (x % 4294967296) n = Sha.rotr x n:=by
 unfold Sha.rotr
 rw [Nat.mod_mod]
 congr 1
 rw [Nat.shiftLeft_eq,Nat.shiftLeft_eq,Nat.mul_mod,Nat.mod_mod,← Nat.mul_mod]
def zBX:List Value→Option Value
 | [.int .u32 a,.int .i64 n]=>if 0≤a∧a < 4294967296∧1≤n∧n≤31 then some (uw .u32 (Sha.rotr a.toNat n.toNat)) else none
 | _=>none
def zCR:List Value→Option Value
 | [.int .u32 a,.int .u64 n]=>if 0≤a∧a < 4294967296∧1≤n∧n≤31 then some (uw .u32 (Sha.rotr a.toNat n.toNat)) else none
 | _=>none
def zDm:List Value→Option Value
 | [.int .u32 a,.int .i64 n]=>if 0≤a∧a < 4294967296∧n≤-1∧-31≤n then some (uw .u32 (Sha.rotr a.toNat (-n).toNat)) else none
 | _=>none
theorem zCN {x n:Nat} (h1:1≤n∧n≤31):zBX [uw .u32 x,.int .i64 (OfNat.ofNat n)] = some (uw .u32 (Sha.rotr x n)):=by
 have e:(OfNat.ofNat n:Int) = (n:Int):=rfl
 have hb:x % 2 ^ IntKind.u32.bits < 4294967296:=Nat.mod_lt _ (by decide)
 unfold uw
 simp only [zBX,e]
 rw [if_pos (by omega)]
 simp only [Int.toNat_natCast,zB5,Nat.reducePow,zIa]
 rfl
theorem zCS {x n:Nat} (h1:1≤n∧n≤31):zCR [uw .u32 x,.int .u64 (OfNat.ofNat n)] = some (uw .u32 (Sha.rotr x n)):=by
 have e:(OfNat.ofNat n:Int) = (n:Int):=rfl
 have hb:x % 2 ^ IntKind.u32.bits < 4294967296:=Nat.mod_lt _ (by decide)
 unfold uw
 simp only [zCR,e]
 rw [if_pos (by omega)]
 simp only [Int.toNat_natCast,zB5,Nat.reducePow,zIa]
 rfl
theorem rotlS_at {x n:Nat} (h1:1≤n∧n≤31):zDm [uw .u32 x,.int .i64 (-(n:Int))] = some (uw .u32 (Sha.rotr x n)):=by
 have hb:x % 2 ^ IntKind.u32.bits < 4294967296:=Nat.mod_lt _ (by decide)
 unfold uw
 simp only [zDm]
 rw [if_pos (by omega)]
 simp only [Int.toNat_natCast,zB5,Nat.reducePow,zIa,Int.neg_neg]
 rfl
theorem right_ok (pr:Prog) (hp:pr.prim 268 = some (zf zDm)) (x n:Nat) (h:Heap) (h1:1≤n∧n≤31):Comes pr xq247 [uw .u32 x,.int .i64 (n:Int)] h (uw .u32 (Sha.rotr x n)):=by
 apply Comes.of
 unfold xq247
 dsimp only [zh]
 have e:IntKind.i64.wrap (0 - (n:Int)) = -(n:Int):=by rw [wrap_i64 (by omega) (by omega)];omega
 (repeat (first|refine zS ?_|refine zK ?_|refine zR ?_|refine zD ?_|refine zB ?_|refine zI ?_|refine zJ ?_|refine zP ?_|refine zE ?_|refine zG ?_|refine zF ?_|refine zH (by decide) ?_|refine zQ ?_|((first|refine zC ?_|refine zM ?_|refine zO rfl rfl ?_|refine zN rfl ?_|refine zL ?_);simp only [yq247.down,zA,lemS.down,lemC.down,zex,zew,zeu,reduceIte,zev,zey,zez,ze0,ze1,ze2,ze3,ze4,ze5,reduceCtorEq,e,zAD hp (rotlS_at h1)])))
 exact⟨.inr rfl,by simp only [yq247.down,zA,lemS.down,lemC.down,zex,zew,zeu,reduceIte,zev,zey,zez,ze0,ze1,ze2,ze3,ze4,ze5,reduceCtorEq],Grows.refl h⟩
end Go.X
end
section
namespace Go.X.Sha
def nxt (l:List Nat):Nat:=(l.getD (l.length - 16) 0 + s0 (l.getD (l.length - 15) 0) + l.getD (l.length - 7) 0 + s1 (l.getD (l.length - 2) 0)) % 4294967296
def ext:List Nat→Nat→List Nat
 | l,0=>l
 | l,n + 1=>ext (l ++ [nxt l]) n
theorem ext_succ:∀ (n:Nat) (l:List Nat),ext l (n + 1) = ext l n ++ [nxt (ext l n)]
 | 0,l=>rfl
 | n + 1,l=>by
  show ext (l ++ [nxt l]) (n + 1) = ext (l ++ [nxt l]) n ++ [nxt (ext (l ++ [nxt l]) n)]
  exact ext_succ n _
theorem ext_len:∀ (n:Nat) (l:List Nat),(ext l n).length = l.length + n
 | 0,l=>rfl
 | n + 1,l=>by rw [ext_succ,List.length_append,ext_len n l];rfl
theorem nxt_cons (a:Nat) (l:List Nat) (h:16≤l.length):nxt (a :: l) = nxt l:=by
 have e:∀ j,j≤16→1≤j→(a :: l).getD ((a :: l).length - j) 0 = l.getD (l.length - j) 0:=fun j h1 h2=>by
  rw [show (a :: l).length - j = (l.length - j) + 1 by simp;omega];rfl
 unfold nxt
 rw [e 16 (by omega) (by omega),e 15 (by omega) (by omega),e 7 (by omega) (by omega),e 2 (by omega) (by omega)]
theorem zLE:∀ (n a:Nat) (l:List Nat),16≤l.length→ext (a :: l) n = a :: ext l n
 | 0,a,l,h=>rfl
 | n + 1,a,l,h=>by
  show ext (a :: l ++ [nxt (a :: l)]) n = a :: ext (l ++ [nxt l]) n
  rw [nxt_cons a l h,List.cons_append]
  exact zLE n a _ (by simp;omega)
theorem nxt_win (w:List Nat) (h:w.length = 16):nxt w = (w.getD 0 0 + s0 (w.getD 1 0) + w.getD 9 0 + s1 (w.getD 14 0)) % 4294967296:=by
 unfold nxt;rw [h]
theorem zcb:∀ (n:Nat) (w:List Nat),w.length = 16→n≤16→sched n w = w.take n:=by
 have key:∀ (n:Nat) (w:List Nat) (x:List Nat),w.length + x.length = 16→n≤w.length→sched n (w ++ x) = w.take n:=by
  intro n
  induction n with
  | zero=>intro w x _ _;rfl
  | succ n ih=>
   intro w x h hn
   cases w with
   | nil=>simp at hn
   | cons a w=>
    simp only [sched,List.cons_append,List.drop_succ_cons,List.drop_zero,List.take_succ_cons]
    rw [List.append_assoc,ih w _ (by simp at h ⊢;omega) (by simp at hn;omega)]
    rfl
 intro n w h hn
 have:=key n w [] (by simpa using h) (by omega)
 simpa using this
theorem sched_ext:∀ (m:Nat) (w:List Nat),w.length = 16→sched (16 + m) w = ext w m
 | 0,w,h=>by rw [zcb 16 w h (Nat.le_refl _)];simp [ext,← h]
 | m + 1,w,h=>by
  cases w with
  | nil=>simp at h
  | cons a w=>
   show sched ((16 + m) + 1) (a :: w) = ext (a :: w ++ [nxt (a :: w)]) m
   rw [List.cons_append,zLE m a _ (by simp at h ⊢;omega),nxt_win _ h]
   simp only [sched]
   rw [sched_ext m _ (by simp at h ⊢;omega)]
   rfl
end Go.X.Sha
end
section
namespace Go.X
def zDy (b:Nat→Nat) (i:Nat):Nat:=((b (4 * i) * 256 + b (4 * i + 1)) * 256 + b (4 * i + 2)) * 256 + b (4 * i + 3)
def zAn (b:Nat→Nat):List Nat:=(List.range 16).map (zDy b)
theorem zBr (b:Nat→Nat):(zAn b).length = 16:=by simp [zAn]
def winB (l:List UInt8):List Nat:=zAn fun j=>(l.getD j 0).toNat
theorem zI3 {l:List UInt8} {n:Nat} (hn:64≤n):winB (l.take n) = winB l:=by
 unfold winB zAn
 refine List.map_congr_left fun i hi=>?_
 have hi':i < 16:=List.mem_range.1 hi
 have e:∀ j,j < 64→(l.take n).getD j 0 = l.getD j 0:=fun j hj=>by
  simp only [List.getD_eq_getElem?_getD]
  rw [List.getElem?_take,if_pos (by omega)]
 unfold zDy
 dsimp only
 rw [e _ (by omega),e _ (by omega),e _ (by omega),e _ (by omega)]
def absorb:Nat→List Nat→List UInt8→List Nat
 | 0,h,_=>h
 | n + 1,h,b=>absorb n (Sha.block h (winB b)) (b.drop 64)
theorem zFf:∀ (i:Nat) (h:List Nat) (b:List UInt8),absorb (i + 1) h b = Sha.block (absorb i h b) (winB (b.drop (64 * i)))
 | 0,h,b=>by simp [absorb]
 | i + 1,h,b=>by
  rw [absorb,zFf i]
  simp only [absorb,List.drop_drop]
  rw [show 64 + 64 * i = 64 * (i + 1) by omega]
theorem zG3:∀ (i j:Nat) (h:List Nat) (b:List UInt8),absorb (i + j) h b = absorb j (absorb i h b) (b.drop (64 * i))
 | 0,j,h,b=>by simp [absorb]
 | i + 1,j,h,b=>by
  rw [show i + 1 + j = (i + j) + 1 by omega]
  simp only [absorb]
  rw [zG3 i j,List.drop_drop,show 64 + 64 * i = 64 * (i + 1) by omega]
theorem zc6 {a b:List UInt8} (h:64≤a.length):winB (a ++ b) = winB a:=by
 rw [← zI3 (l:=a ++ b) h]
 simp
theorem zFe:∀ (i:Nat) (h:List Nat) (a b:List UInt8),64 * i≤a.length→absorb i h (a ++ b) = absorb i h a
 | 0,h,a,b,_=>rfl
 | i + 1,h,a,b,hl=>by
  simp only [absorb]
  rw [zc6 (by omega),List.drop_append_of_le_length (by omega)]
  exact zFe i _ _ b (by simp;omega)
theorem zEn:∀ (a b:List Nat),a.length = b.length→(Sha.addAll a b).length = a.length
 | [],[],_=>rfl
 | x :: a,y :: b,h=>by simp [Sha.addAll,zEn a b (by simpa using h)]
 | [],_ :: _,h=>by simp at h
 | _ :: _,[],h=>by simp at h
def lenB (n:Nat):List UInt8:=(List.range 8).map fun i=>UInt8.ofNat ((n % 18446744073709551616) >>> (8 * (7 - i)))
theorem zCJ (n:Nat):(lenB n).length = 8:=by simp [lenB]
def zAP (n:Nat):Nat:=(119 - n % 64) % 64
def padB (r:List UInt8) (n:Nat):List UInt8:=r ++ [128] ++ List.replicate (zAP r.length) 0 ++ lenB (n * 8)
theorem zIQ (r:List UInt8) (n:Nat):(padB r n).length = 64 * ((padB r n).length / 64):=by
 have:(padB r n).length = r.length + 1 + zAP r.length + 8:=by simp [padB,zCJ];omega
 rw [this]
 unfold zAP
 omega
def outW (x:Nat):List UInt8:=(List.range 4).map fun k=>UInt8.ofNat ((x % 4294967296) >>> (8 * (3 - k)))
def outB (hs:List Nat):List UInt8:=hs.flatMap outW
def fin (hs:List Nat) (r:List UInt8) (n:Nat):List UInt8:=outB (absorb ((padB r n).length / 64) hs (padB r n))
def sha (s:List UInt8):List UInt8:=fin Sha.H0 s s.length
theorem zet (a b:Nat) (h:a = b % 64):zAP a = zAP b:=by unfold zAP;omega
theorem zMq (s:List UInt8):fin (absorb (s.length / 64) Sha.H0 s) (s.drop (64 * (s.length / 64))) s.length = sha s:=by
 unfold sha fin
 have hl:(s.drop (64 * (s.length / 64))).length = s.length % 64:=by rw [List.length_drop];omega
 have hp:padB s s.length = s.take (64 * (s.length / 64)) ++ padB (s.drop (64 * (s.length / 64))) s.length:=by
  unfold padB
  rw [zet _ s.length hl]
  simp only [← List.append_assoc]
  rw [List.take_append_drop]
 have hq:=zIQ (s.drop (64 * (s.length / 64))) s.length
 generalize padB (s.drop (64 * (s.length / 64))) s.length = p at *
 generalize padB s s.length = q at *
 subst hp
 have htl:(s.take (64 * (s.length / 64))).length = 64 * (s.length / 64):=by rw [List.length_take];omega
 have hn:(s.take (64 * (s.length / 64)) ++ p).length / 64 = s.length / 64 + p.length / 64:=by
  rw [List.length_append,htl];omega
 rw [hn,zG3]
 congr 1
 rw [zFe _ _ _ _ (by omega),List.drop_append,htl,List.drop_of_length_le (by omega)]
 simp only [Nat.sub_self,List.drop_zero,List.nil_append]
 congr 1
 have:=zFe (s.length / 64) Sha.H0 (s.take (64 * (s.length / 64))) (s.drop (64 * (s.length / 64))) (by rw [htl];exact Nat.le_refl _)
 rw [List.take_append_drop] at this
 exact this
theorem zGJ:∀ (hs:List Nat),(outB hs).length = 4 * hs.length
 | []=>rfl
 | x :: hs=>by
  have:=zGJ hs
  simp only [outB,List.flatMap_cons,List.length_append,List.length_cons] at *
  rw [this]
  simp [outW];omega
end Go.X
end
section
namespace Go.X
open Go.Proofs
abbrev zTL:List XO:=[
 ⟨some 2,.p (.mov (C (.string (strOf [])))),none⟩]
def zTK:List XO:=zTL
theorem xq196_0e:E3 zTK zTL:=E3.rfl
abbrev zTN:List XO:=[
 ⟨some 3,.p (.mov (T 0)),none⟩,
 ⟨some 4,.p (.bin .shr (T 3) (C (.int .u64 24))),none⟩,
 ⟨some 5,.p (.cint .u8 (T 4)),none⟩,
 ⟨some 6,.p (.mov (T 0)),none⟩,
 ⟨some 7,.p (.bin .shr (T 6) (C (.int .u64 16))),none⟩,
 ⟨some 8,.p (.cint .u8 (T 7)),none⟩,
 ⟨some 9,.p (.mov (T 0)),none⟩,
 ⟨some 10,.p (.bin .shr (T 9) (C (.int .u64 8))),none⟩,
 ⟨some 11,.p (.cint .u8 (T 10)),none⟩,
 ⟨some 12,.p (.mov (T 0)),none⟩,
 ⟨some 13,.p (.cint .u8 (T 12)),none⟩,
 ⟨some 14,.a (.bslice (List.replicate 4 (.int .u8 0)) 4 [(0,1,(T 5)),(1,1,(T 8)),(2,1,(T 11)),(3,1,(T 13))]),none⟩,
 ⟨some 15,.r (.cb2s (T 14)),none⟩,
 ⟨some 2,.p (.mov (T 15)),none⟩]
def zTM:List XO:=zTN
theorem xq196_1e:E3 zTM zTN:=E3.rfl
def xq196:XF:=⟨1,[.tmp 2],
 .seq (.ops zTK) (.seq (.ops zTM) (.ret))⟩
def yq196:=PLift.up (And.intro (@xq196_0e) (@xq196_1e))
theorem cq196:zg Tryz.prog Tryz.f196 = some xq196:=by kernel_rfl
abbrev zRw:List XO:=[
 ⟨some 4,.p (.mov (C (.string (strOf [])))),none⟩]
def zRv:List XO:=zRw
theorem xq160_0e:E3 zRv zRw:=E3.rfl
abbrev zR0:List XO:=[
 ⟨some 8,.call (.func 194) [],none⟩,
 ⟨some 5,.p (.mov (T 8)),none⟩]
def zRx:List XO:=zR0
theorem xq160_1e:E3 zRx zR0:=E3.rfl
abbrev zR2:List XO:=[
 ⟨some 9,.p (.mov (T 5)),none⟩,
 ⟨some 10,.p (.mov (T 0)),none⟩,
 ⟨some 11,.a (.bslice [(.int .u8 0)] 1 [(0,1,(T 10))]),none⟩,
 ⟨some 12,.r (.cb2s (T 11)),none⟩,
 ⟨some 13,.call (.func 195) [(T 9),(T 12)],none⟩]
def zR1:List XO:=zR2
theorem xq160_2e:E3 zR1 zR2:=E3.rfl
abbrev zR4:List XO:=[
 ⟨some 14,.p (.mov (T 1)),none⟩,
 ⟨some 15,.p (.lenV (T 14)),none⟩,
 ⟨some 16,.p (.mov (C (.int .i64 0))),none⟩]
def zR3:List XO:=zR4
theorem xq160_3e:E3 zR3 zR4:=E3.rfl
abbrev zR6:List XO:=[
 ⟨some 17,.p (.bin .lss (T 16) (T 15)),none⟩]
def zR5:List XO:=zR6
theorem xq160_4e:E3 zR5 zR6:=E3.rfl
abbrev zR8:List XO:=[
 ⟨some 18,.p (.iaddrS 1 (T 14) (T 16)),none⟩,
 ⟨some 19,.r (.load1 (T 18)),none⟩,
 ⟨some 7,.p (.mov (T 19)),none⟩]
def zR7:List XO:=zR8
theorem xq160_5e:E3 zR7 zR8:=E3.rfl
abbrev zSA:List XO:=[
 ⟨some 20,.p (.mov (T 5)),none⟩,
 ⟨some 21,.p (.mov (T 7)),none⟩,
 ⟨some 22,.p (.lenS (T 21)),none⟩,
 ⟨some 23,.call (.func 196) [(T 22)],none⟩,
 ⟨some 24,.call (.func 195) [(T 20),(T 23)],none⟩]
def zR9:List XO:=zSA
theorem xq160_6e:E3 zR9 zSA:=E3.rfl
abbrev zSC:List XO:=[
 ⟨some 25,.p (.mov (T 5)),none⟩,
 ⟨some 26,.p (.mov (T 7)),none⟩,
 ⟨some 27,.call (.func 195) [(T 25),(T 26)],none⟩]
def zSB:List XO:=zSC
theorem xq160_7e:E3 zSB zSC:=E3.rfl
abbrev zSE:List XO:=[
 ⟨some 28,.p (.bin .add (T 16) (C (.int .i64 1))),none⟩,
 ⟨some 16,.p (.mov (T 28)),none⟩]
def zSD:List XO:=zSE
theorem xq160_8e:E3 zSD zSE:=E3.rfl
def zJH:XC:=
 .seq (.ops zR5) (.seq (.cond (T 17) (.skip) (.exit 0)) (.seq (.block 1 (.seq (.ops zR7) (.seq (.ops zR9) (.ops zSB)))) (.ops zSD)))
def zSF:XC:=zJH
theorem xq160_9k {pr:Prog} {k:List KI} {Q:XE→Fr→Heap→Prop} {t:Fr} {h:Heap} (hw:wpk pr zJH k Q t h):wpk pr zSF k Q t h:=hw
abbrev zRz:List XO:=[
 ⟨some 29,.p (.mov (T 5)),none⟩,
 ⟨some 30,.call (.func 197) [(T 29)],none⟩,
 ⟨some 4,.p (.mov (T 30)),none⟩]
def zRy:List XO:=zRz
theorem zdO:E3 zRy zRz:=E3.rfl
def xq160:XF:=⟨2,[.tmp 4],
 .seq (.ops zRv) (.seq (.ops zRx) (.seq (.ops zR1) (.seq (.seq (.ops zR3) (.block 0 (.loop zSF))) (.seq (.ops zRy) (.ret)))))⟩
def yq160:=PLift.up (And.intro (And.intro (And.intro (@xq160_0e) (@xq160_1e)) (And.intro (@xq160_2e) (And.intro (@xq160_3e) (@xq160_4e)))) (And.intro (And.intro (@xq160_5e) (@xq160_6e)) (And.intro (@xq160_7e) (And.intro (@xq160_8e) (@zdO)))))
theorem cq160:zg Tryz.prog Tryz.f160 = some xq160:=by kernel_rfl
abbrev zSn:List XO:=[
 ⟨some 4,.p (.mov (C (.string (strOf [])))),none⟩]
def zSm:List XO:=zSn
theorem xq187_0e:E3 zSm zSn:=E3.rfl
abbrev zSp:List XO:=[
 ⟨some 8,.p (.mov (T 0)),none⟩,
 ⟨some 9,.a (.bslice [(.int .u8 0)] 1 [(0,1,(T 8))]),none⟩,
 ⟨some 10,.r (.cb2s (T 9)),none⟩,
 ⟨some 5,.p (.mov (T 10)),none⟩]
def zSo:List XO:=zSp
theorem xq187_1e:E3 zSo zSp:=E3.rfl
abbrev zSr:List XO:=[
 ⟨some 6,.p (.mov (C (.int .i64 0))),none⟩]
def zSq:List XO:=zSr
theorem xq187_2e:E3 zSq zSr:=E3.rfl
abbrev zSt:List XO:=[
 ⟨some 11,.p (.mov (T 6)),none⟩,
 ⟨some 12,.p (.mov (T 1)),none⟩,
 ⟨some 13,.p (.lenV (T 12)),none⟩,
 ⟨some 14,.p (.bin .lss (T 11) (T 13)),none⟩]
def zSs:List XO:=zSt
theorem xq187_3e:E3 zSs zSt:=E3.rfl
abbrev zSv:List XO:=[
 ⟨some 17,.p (.mov (T 1)),none⟩,
 ⟨some 18,.p (.mov (T 6)),none⟩,
 ⟨some 19,.p (.iaddrS 1 (T 17) (T 18)),none⟩,
 ⟨some 20,.r (.load1 (T 19)),none⟩,
 ⟨some 21,.p (.lenS (T 20)),none⟩,
 ⟨some 7,.p (.mov (T 21)),none⟩]
def zSu:List XO:=zSv
theorem xq187_4e:E3 zSu zSv:=E3.rfl
abbrev zSx:List XO:=[
 ⟨some 22,.p (.mov (T 5)),none⟩,
 ⟨some 23,.p (.mov (T 7)),none⟩,
 ⟨some 24,.p (.bin .quo (T 23) (C (.int .i64 16777216))),none⟩,
 ⟨some 25,.p (.cint .u8 (T 24)),none⟩,
 ⟨some 26,.p (.mov (T 7)),none⟩,
 ⟨some 27,.p (.bin .quo (T 26) (C (.int .i64 65536))),none⟩,
 ⟨some 28,.p (.cint .u8 (T 27)),none⟩,
 ⟨some 29,.p (.mov (T 7)),none⟩,
 ⟨some 30,.p (.bin .quo (T 29) (C (.int .i64 256))),none⟩,
 ⟨some 31,.p (.cint .u8 (T 30)),none⟩,
 ⟨some 32,.p (.mov (T 7)),none⟩,
 ⟨some 33,.p (.cint .u8 (T 32)),none⟩,
 ⟨some 34,.a (.bslice (List.replicate 4 (.int .u8 0)) 4 [(0,1,(T 25)),(1,1,(T 28)),(2,1,(T 31)),(3,1,(T 33))]),none⟩,
 ⟨some 35,.r (.cb2s (T 34)),none⟩,
 ⟨some 36,.p (.mov (T 1)),none⟩,
 ⟨some 37,.p (.mov (T 6)),none⟩,
 ⟨some 38,.p (.iaddrS 1 (T 36) (T 37)),none⟩,
 ⟨some 39,.r (.load1 (T 38)),none⟩,
 ⟨some 40,.p (.bin .add (T 35) (T 39)),none⟩,
 ⟨some 41,.p (.bin .add (T 22) (T 40)),none⟩,
 ⟨some 5,.p (.mov (T 41)),none⟩]
def zSw:List XO:=zSx
theorem xq187_5e:E3 zSw zSx:=E3.rfl
abbrev zSz:List XO:=[
 ⟨some 15,.p (.mov (T 6)),none⟩,
 ⟨some 16,.p (.bin .add (T 15) (C (.int .i64 1))),none⟩,
 ⟨some 6,.p (.mov (T 16)),none⟩]
def zSy:List XO:=zSz
theorem xq187_6e:E3 zSy zSz:=E3.rfl
def zJI:XC:=
 .seq (.seq (.ops zSs) (.cond (T 14) (.skip) (.exit 0))) (.seq (.block 1 (.seq (.ops zSu) (.draw zSw []))) (.ops zSy))
def zS0:XC:=zJI
theorem xq187_7k {pr:Prog} {k:List KI} {Q:XE→Fr→Heap→Prop} {t:Fr} {h:Heap} (hw:wpk pr zJI k Q t h):wpk pr zS0 k Q t h:=hw
abbrev zS2:List XO:=[
 ⟨some 42,.p (.mov (T 5)),none⟩,
 ⟨some 43,.call (.func 220) [(T 42)],none⟩,
 ⟨some 4,.p (.mov (T 43)),none⟩]
def zS1:List XO:=zS2
theorem xq187_8e:E3 zS1 zS2:=E3.rfl
def xq187:XF:=⟨2,[.tmp 4],
 .seq (.ops zSm) (.seq (.ops zSo) (.seq (.seq (.ops zSq) (.block 0 (.loop zS0))) (.seq (.ops zS1) (.ret))))⟩
def yq187:=PLift.up (And.intro (And.intro (And.intro (@xq187_0e) (@xq187_1e)) (And.intro (@xq187_2e) (@xq187_3e))) (And.intro (And.intro (@xq187_4e) (@xq187_5e)) (And.intro (@xq187_6e) (@xq187_8e))))
theorem cq187:zg Tryz.prog Tryz.f187 = some xq187:=by kernel_rfl
end Go.X
end
