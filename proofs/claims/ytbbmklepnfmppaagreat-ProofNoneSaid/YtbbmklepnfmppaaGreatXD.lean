/- The digest in plain words; the functions of the seat as the interpreter has them, each held against the loaded program. -/
import Derived.Test.YtbbmklepnfmppaaGreatProg
import Derived.KernelRfl
import Derived.Test.YtbbmklepnfmppaaGreatXC
set_option linter.unusedSimpArgs false
set_option linter.unusedVariables false
set_option maxHeartbeats 2000000
section
namespace Go.X.Sha
def rotr (x n : Nat) : Nat := Nat.lor ((x % 4294967296) >>> n) ((x <<< (32 - n)) % 4294967296)
def s0 (x : Nat) : Nat := Nat.xor (Nat.xor (rotr x 7) (rotr x 18)) ((x % 4294967296) >>> 3)
def s1 (x : Nat) : Nat := Nat.xor (Nat.xor (rotr x 17) (rotr x 19)) ((x % 4294967296) >>> 10)
def e0 (x : Nat) : Nat := Nat.xor (Nat.xor (rotr x 2) (rotr x 13)) (rotr x 22)
def e1 (x : Nat) : Nat := Nat.xor (Nat.xor (rotr x 6) (rotr x 11)) (rotr x 25)
def ch (e f g : Nat) : Nat := Nat.xor (Nat.land e f) (Nat.land (4294967295 - e % 4294967296) g)
def maj (a b c : Nat) : Nat := Nat.xor (Nat.xor (Nat.land a b) (Nat.land a c)) (Nat.land b c)
def K : List Nat := [
0x428a2f98, 0x71374491, 0xb5c0fbcf, 0xe9b5dba5, 0x3956c25b, 0x59f111f1, 0x923f82a4, 0xab1c5ed5,
  0xd807aa98, 0x12835b01, 0x243185be, 0x550c7dc3, 0x72be5d74, 0x80deb1fe, 0x9bdc06a7, 0xc19bf174,
  0xe49b69c1, 0xefbe4786, 0x0fc19dc6, 0x240ca1cc, 0x2de92c6f, 0x4a7484aa, 0x5cb0a9dc, 0x76f988da,
  0x983e5152, 0xa831c66d, 0xb00327c8, 0xbf597fc7, 0xc6e00bf3, 0xd5a79147, 0x06ca6351, 0x14292967,
  0x27b70a85, 0x2e1b2138, 0x4d2c6dfc, 0x53380d13, 0x650a7354, 0x766a0abb, 0x81c2c92e, 0x92722c85,
  0xa2bfe8a1, 0xa81a664b, 0xc24b8b70, 0xc76c51a3, 0xd192e819, 0xd6990624, 0xf40e3585, 0x106aa070,
  0x19a4c116, 0x1e376c08, 0x2748774c, 0x34b0bcb5, 0x391c0cb3, 0x4ed8aa4a, 0x5b9cca4f, 0x682e6ff3,
  0x748f82ee, 0x78a5636f, 0x84c87814, 0x8cc70208, 0x90befffa, 0xa4506ceb, 0xbef9a3f7, 0xc67178f2]
def H0 : List Nat := [0x6a09e667, 0xbb67ae85, 0x3c6ef372, 0xa54ff53a, 0x510e527f, 0x9b05688c, 0x1f83d9ab, 0x5be0cd19]
def round (k w : Nat) : List Nat → List Nat
  | [a, b, c, d, e, f, g, h] =>
    let t := (h + e1 e + ch e f g + k + w) % 4294967296
    [(t + e0 a + maj a b c) % 4294967296, a, b, c, (d + t) % 4294967296, e, f, g]
  | l => l
def sched : Nat → List Nat → List Nat
  | 0, _ => []
  | n + 1, w => (w.getD 0 0) :: sched n (w.drop 1 ++ [(w.getD 0 0 + s0 (w.getD 1 0) + w.getD 9 0 + s1 (w.getD 14 0)) % 4294967296])
def rounds : List Nat → List Nat → List Nat → List Nat
  | k :: ks, w :: ws, v => rounds ks ws (round k w v)
  | _, _, v => v
def addAll : List Nat → List Nat → List Nat
  | a :: u, b :: bs => ((a + b) % 4294967296) :: addAll u bs
  | _, _ => []
def block (h w : List Nat) : List Nat := addAll h (rounds K (sched 64 w) h)
def words : List Nat → List Nat
  | a :: b :: c :: d :: r => (((a * 256 + b) * 256 + c) * 256 + d) :: words r
  | _ => []
def blocks : Nat → List Nat → List Nat → List Nat
  | 0, h, _ => h
  | n + 1, h, w => blocks n (block h (w.take 16)) (w.drop 16)
def lenBytes (n : Nat) : List Nat := [n / 72057594037927936 % 256, n / 281474976710656 % 256, n / 1099511627776 % 256, n / 4294967296 % 256, n / 16777216 % 256, n / 65536 % 256, n / 256 % 256, n % 256]
def pad (b : List Nat) : List Nat := b ++ 128 :: List.replicate ((119 - b.length % 64) % 64) 0 ++ lenBytes (b.length * 8 % 18446744073709551616)
def toBytes : List Nat → List Nat
  | [] => []
  | x :: r => (x / 16777216 % 256) :: (x / 65536 % 256) :: (x / 256 % 256) :: (x % 256) :: toBytes r
def shaN (b : List Nat) : List Nat := toBytes (blocks ((pad b).length / 64) H0 (words (pad b)))
def sha (b : List UInt8) : List UInt8 := (shaN (b.map (·.toNat))).map UInt8.ofNat
end Go.X.Sha
end
section
namespace Go.X.Sha
def nxt (l : List Nat) : Nat := (l.getD (l.length - 16) 0 + s0 (l.getD (l.length - 15) 0) + l.getD (l.length - 7) 0 + s1 (l.getD (l.length - 2) 0)) % 4294967296
def ext : List Nat → Nat → List Nat
  | l, 0 => l
  | l, n + 1 => ext (l ++ [nxt l]) n
theorem ext_succ : ∀ (n : Nat) (l : List Nat), ext l (n + 1) = ext l n ++ [nxt (ext l n)]
  | 0, l => rfl
  | n + 1, l => by
    show ext (l ++ [nxt l]) (n + 1) = ext (l ++ [nxt l]) n ++ [nxt (ext (l ++ [nxt l]) n)]
    exact ext_succ n _
theorem ext_len : ∀ (n : Nat) (l : List Nat), (ext l n).length = l.length + n
  | 0, l => rfl
  | n + 1, l => by rw [ext_succ, List.length_append, ext_len n l]; rfl
theorem nxt_cons (a : Nat) (l : List Nat) (h : 16 ≤ l.length) : nxt (a :: l) = nxt l := by
  have e : ∀ j, j ≤ 16 → 1 ≤ j → (a :: l).getD ((a :: l).length - j) 0 = l.getD (l.length - j) 0 := fun j h1 h2 => by
    rw [show (a :: l).length - j = (l.length - j) + 1 by simp; omega]; rfl
  unfold nxt
  rw [e 16 (by omega) (by omega), e 15 (by omega) (by omega), e 7 (by omega) (by omega), e 2 (by omega) (by omega)]
theorem ext_cons : ∀ (n a : Nat) (l : List Nat), 16 ≤ l.length → ext (a :: l) n = a :: ext l n
  | 0, a, l, h => rfl
  | n + 1, a, l, h => by
    show ext (a :: l ++ [nxt (a :: l)]) n = a :: ext (l ++ [nxt l]) n
    rw [nxt_cons a l h, List.cons_append]
    exact ext_cons n a _ (by simp; omega)
theorem nxt_win (w : List Nat) (h : w.length = 16) : nxt w = (w.getD 0 0 + s0 (w.getD 1 0) + w.getD 9 0 + s1 (w.getD 14 0)) % 4294967296 := by
  unfold nxt; rw [h]
theorem sched_short : ∀ (n : Nat) (w : List Nat), w.length = 16 → n ≤ 16 → sched n w = w.take n := by
  have key : ∀ (n : Nat) (w : List Nat) (x : List Nat), w.length + x.length = 16 → n ≤ w.length → sched n (w ++ x) = w.take n := by
    intro n
    induction n with
    | zero => intro w x _ _; rfl
    | succ n ih =>
      intro w x h hn
      cases w with
      | nil => simp at hn
      | cons a w =>
        simp only [sched, List.cons_append, List.drop_succ_cons, List.drop_zero, List.take_succ_cons]
        rw [List.append_assoc, ih w _ (by simp at h ⊢; omega) (by simp at hn; omega)]
        rfl
  intro n w h hn
  have := key n w [] (by simpa using h) (by omega)
  simpa using this
theorem sched_ext : ∀ (m : Nat) (w : List Nat), w.length = 16 → sched (16 + m) w = ext w m
  | 0, w, h => by rw [sched_short 16 w h (Nat.le_refl _)]; simp [ext, ← h]
  | m + 1, w, h => by
    cases w with
    | nil => simp at h
    | cons a w =>
      show sched ((16 + m) + 1) (a :: w) = ext (a :: w ++ [nxt (a :: w)]) m
      rw [List.cons_append, ext_cons m a _ (by simp at h ⊢; omega), nxt_win _ h]
      simp only [sched]
      rw [sched_ext m _ (by simp at h ⊢; omega)]
      rfl
end Go.X.Sha
end
section
namespace Go.X
def wordAt (b : Nat → Nat) (i : Nat) : Nat := ((b (4 * i) * 256 + b (4 * i + 1)) * 256 + b (4 * i + 2)) * 256 + b (4 * i + 3)
def zz (b : Nat → Nat) : List Nat := (List.range 16).map (wordAt b)
theorem zAT (b : Nat → Nat) : (zz b).length = 16 := by simp [zz]
def winB (l : List UInt8) : List Nat := zz fun j => (l.getD j 0).toNat
theorem winB_take {l : List UInt8} {n : Nat} (hn : 64 ≤ n) : winB (l.take n) = winB l := by
  unfold winB zz
  refine List.map_congr_left fun i hi => ?_
  have hi' : i < 16 := List.mem_range.1 hi
  have e : ∀ j, j < 64 → (l.take n).getD j 0 = l.getD j 0 := fun j hj => by
    simp only [List.getD_eq_getElem?_getD]
    rw [List.getElem?_take, if_pos (by omega)]
  unfold wordAt
  dsimp only
  rw [e _ (by omega), e _ (by omega), e _ (by omega), e _ (by omega)]
def zd : Nat → List Nat → List UInt8 → List Nat
  | 0, h, _ => h
  | n + 1, h, b => zd n (Sha.block h (winB b)) (b.drop 64)
theorem zBO : ∀ (i : Nat) (h : List Nat) (b : List UInt8), zd (i + 1) h b = Sha.block (zd i h b) (winB (b.drop (64 * i)))
  | 0, h, b => by simp [zd]
  | i + 1, h, b => by
    rw [zd, zBO i]
    simp only [zd, List.drop_drop]
    rw [show 64 + 64 * i = 64 * (i + 1) by omega]
theorem absorb_add : ∀ (i j : Nat) (h : List Nat) (b : List UInt8), zd (i + j) h b = zd j (zd i h b) (b.drop (64 * i))
  | 0, j, h, b => by simp [zd]
  | i + 1, j, h, b => by
    rw [show i + 1 + j = (i + j) + 1 by omega]
    simp only [zd]
    rw [absorb_add i j, List.drop_drop, show 64 + 64 * i = 64 * (i + 1) by omega]
theorem winB_append {a b : List UInt8} (h : 64 ≤ a.length) : winB (a ++ b) = winB a := by
  rw [← winB_take (l := a ++ b) h]
  simp
theorem zBN : ∀ (i : Nat) (h : List Nat) (a b : List UInt8), 64 * i ≤ a.length → zd i h (a ++ b) = zd i h a
  | 0, h, a, b, _ => rfl
  | i + 1, h, a, b, hl => by
    simp only [zd]
    rw [winB_append (by omega), List.drop_append_of_le_length (by omega)]
    exact zBN i _ _ b (by simp; omega)
theorem addAll_len : ∀ (a b : List Nat), a.length = b.length → (Sha.addAll a b).length = a.length
  | [], [], _ => rfl
  | x :: a, y :: b, h => by simp [Sha.addAll, addAll_len a b (by simpa using h)]
  | [], _ :: _, h => by simp at h
  | _ :: _, [], h => by simp at h
def lenB (n : Nat) : List UInt8 := (List.range 8).map fun i => UInt8.ofNat ((n % 18446744073709551616) >>> (8 * (7 - i)))
theorem zAd (n : Nat) : (lenB n).length = 8 := by simp [lenB]
def zn (n : Nat) : Nat := (119 - n % 64) % 64
def padB (r : List UInt8) (n : Nat) : List UInt8 := r ++ [128] ++ List.replicate (zn r.length) 0 ++ lenB (n * 8)
theorem padB_len (r : List UInt8) (n : Nat) : (padB r n).length = 64 * ((padB r n).length / 64) := by
  have : (padB r n).length = r.length + 1 + zn r.length + 8 := by simp [padB, zAd]; omega
  rw [this]
  unfold zn
  omega
def outW (x : Nat) : List UInt8 := (List.range 4).map fun k => UInt8.ofNat ((x % 4294967296) >>> (8 * (3 - k)))
def outB (hs : List Nat) : List UInt8 := hs.flatMap outW
def fin (hs : List Nat) (r : List UInt8) (n : Nat) : List UInt8 := outB (zd ((padB r n).length / 64) hs (padB r n))
def sha (s : List UInt8) : List UInt8 := fin Sha.H0 s s.length
theorem zeros_drop (a b : Nat) (h : a = b % 64) : zn a = zn b := by unfold zn; omega
theorem sha_parts (s : List UInt8) : fin (zd (s.length / 64) Sha.H0 s) (s.drop (64 * (s.length / 64))) s.length = sha s := by
  unfold sha fin
  have hl : (s.drop (64 * (s.length / 64))).length = s.length % 64 := by rw [List.length_drop]; omega
  have hp : padB s s.length = s.take (64 * (s.length / 64)) ++ padB (s.drop (64 * (s.length / 64))) s.length := by
    unfold padB
    rw [zeros_drop _ s.length hl]
    simp only [← List.append_assoc]
    rw [List.take_append_drop]
  have hq := padB_len (s.drop (64 * (s.length / 64))) s.length
  generalize padB (s.drop (64 * (s.length / 64))) s.length = p at *
  generalize padB s s.length = q at *
  subst hp
  have htl : (s.take (64 * (s.length / 64))).length = 64 * (s.length / 64) := by rw [List.length_take]; omega
  have hn : (s.take (64 * (s.length / 64)) ++ p).length / 64 = s.length / 64 + p.length / 64 := by
    rw [List.length_append, htl]; omega
  rw [hn, absorb_add]
  congr 1
  rw [zBN _ _ _ _ (by omega), List.drop_append, htl, List.drop_of_length_le (by omega)]
  simp only [Nat.sub_self, List.drop_zero, List.nil_append]
  congr 1
  have := zBN (s.length / 64) Sha.H0 (s.take (64 * (s.length / 64))) (s.drop (64 * (s.length / 64))) (by rw [htl]; exact Nat.le_refl _)
  rw [List.take_append_drop] at this
  exact this
theorem outB_len : ∀ (hs : List Nat), (outB hs).length = 4 * hs.length
  | [] => rfl
  | x :: hs => by
    have := outB_len hs
    simp only [outB, List.flatMap_cons, List.length_append, List.length_cons] at *
    rw [this]
    simp [outW]; omega
end Go.X
end
section
namespace Go.X
open Go.Proofs
abbrev xq238_0l : List XO := [
  ⟨some 4, .p (.mov (C (.int .u32 0))), none⟩]
def xq238_0 : List XO := xq238_0l
theorem xq238_0e : E3 xq238_0 xq238_0l := E3.rfl
abbrev xq238_1l : List XO := [
  ⟨some 5, .p (.mov (T 0)), none⟩,
  ⟨some 6, .p (.mov (T 1)), none⟩,
  ⟨some 7, .p (.un .neg (T 6)), none⟩,
  ⟨some 8, .call (.func 259) [(T 5), (T 7)], none⟩,
  ⟨some 4, .p (.mov (T 8)), none⟩]
def xq238_1 : List XO := xq238_1l
theorem xq238_1e : E3 xq238_1 xq238_1l := E3.rfl
def xq238 : XF := ⟨2, [.tmp 4],
  .seq (.ops xq238_0) (.seq (.ops xq238_1) (.ret))⟩
def yq238 := PLift.up (And.intro (@xq238_0e) (@xq238_1e))
theorem cq238 : zj Tryz.prog Tryz.f238 = some xq238 := by kernel_rfl
abbrev xq259_0l : List XO := [
  ⟨some 4, .p (.mov (C (.int .u32 0))), none⟩]
def xq259_0 : List XO := xq259_0l
theorem xq259_0e : E3 xq259_0 xq259_0l := E3.rfl
abbrev xq259_1l : List XO := [
  ⟨some 6, .p (.mov (T 1)), none⟩,
  ⟨some 7, .p (.cint .u64 (T 6)), none⟩,
  ⟨some 8, .p (.bin .and (T 7) (C (.int .u64 31))), none⟩,
  ⟨some 5, .p (.mov (T 8)), none⟩]
def xq259_1 : List XO := xq259_1l
theorem xq259_1e : E3 xq259_1 xq259_1l := E3.rfl
abbrev xq259_2l : List XO := [
  ⟨some 9, .p (.mov (T 0)), none⟩,
  ⟨some 10, .p (.mov (T 5)), none⟩,
  ⟨some 11, .p (.bin .shl (T 9) (T 10)), none⟩,
  ⟨some 12, .p (.mov (T 0)), none⟩,
  ⟨some 13, .p (.mov (T 5)), none⟩,
  ⟨some 14, .p (.bin .sub (C (.int .u64 32)) (T 13)), none⟩,
  ⟨some 15, .p (.bin .shr (T 12) (T 14)), none⟩,
  ⟨some 16, .p (.bin .or (T 11) (T 15)), none⟩,
  ⟨some 4, .p (.mov (T 16)), none⟩]
def xq259_2 : List XO := xq259_2l
theorem xq259_2e : E3 xq259_2 xq259_2l := E3.rfl
def xq259 : XF := ⟨2, [.tmp 4],
  .seq (.ops xq259_0) (.seq (.ops xq259_1) (.seq (.ops xq259_2) (.ret)))⟩
def yq259 := PLift.up (And.intro (@xq259_0e) (And.intro (@xq259_1e) (@xq259_2e)))
theorem cq259 : zj Tryz.prog Tryz.f259 = some xq259 := by kernel_rfl
abbrev xq236_0l : List XO := [
  ⟨some 0, .a (.alloc (List.replicate 64 (.int .u32 0))), none⟩]
def xq236_0 : List XO := xq236_0l
theorem xq236_0e : E3 xq236_0 xq236_0l := E3.rfl
abbrev xq236_1l : List XO := [
  ⟨some 1, .p (.build (List.replicate 64 (.int .u32 0)) [(0, 1, (C (.int .u32 1116352408))), (1, 1, (C (.int .u32 1899447441))), (2, 1, (C (.int .u32 3049323471))), (3, 1, (C (.int .u32 3921009573))), (4, 1, (C (.int .u32 961987163))), (5, 1, (C (.int .u32 1508970993))), (6, 1, (C (.int .u32 2453635748))), (7, 1, (C (.int .u32 2870763221))), (8, 1, (C (.int .u32 3624381080))), (9, 1, (C (.int .u32 310598401))), (10, 1, (C (.int .u32 607225278))), (11, 1, (C (.int .u32 1426881987))), (12, 1, (C (.int .u32 1925078388))), (13, 1, (C (.int .u32 2162078206))), (14, 1, (C (.int .u32 2614888103))), (15, 1, (C (.int .u32 3248222580))), (16, 1, (C (.int .u32 3835390401))), (17, 1, (C (.int .u32 4022224774))), (18, 1, (C (.int .u32 264347078))), (19, 1, (C (.int .u32 604807628))), (20, 1, (C (.int .u32 770255983))), (21, 1, (C (.int .u32 1249150122))), (22, 1, (C (.int .u32 1555081692))), (23, 1, (C (.int .u32 1996064986))), (24, 1, (C (.int .u32 2554220882))), (25, 1, (C (.int .u32 2821834349))), (26, 1, (C (.int .u32 2952996808))), (27, 1, (C (.int .u32 3210313671))), (28, 1, (C (.int .u32 3336571891))), (29, 1, (C (.int .u32 3584528711))), (30, 1, (C (.int .u32 113926993))), (31, 1, (C (.int .u32 338241895))), (32, 1, (C (.int .u32 666307205))), (33, 1, (C (.int .u32 773529912))), (34, 1, (C (.int .u32 1294757372))), (35, 1, (C (.int .u32 1396182291))), (36, 1, (C (.int .u32 1695183700))), (37, 1, (C (.int .u32 1986661051))), (38, 1, (C (.int .u32 2177026350))), (39, 1, (C (.int .u32 2456956037))), (40, 1, (C (.int .u32 2730485921))), (41, 1, (C (.int .u32 2820302411))), (42, 1, (C (.int .u32 3259730800))), (43, 1, (C (.int .u32 3345764771))), (44, 1, (C (.int .u32 3516065817))), (45, 1, (C (.int .u32 3600352804))), (46, 1, (C (.int .u32 4094571909))), (47, 1, (C (.int .u32 275423344))), (48, 1, (C (.int .u32 430227734))), (49, 1, (C (.int .u32 506948616))), (50, 1, (C (.int .u32 659060556))), (51, 1, (C (.int .u32 883997877))), (52, 1, (C (.int .u32 958139571))), (53, 1, (C (.int .u32 1322822218))), (54, 1, (C (.int .u32 1537002063))), (55, 1, (C (.int .u32 1747873779))), (56, 1, (C (.int .u32 1955562222))), (57, 1, (C (.int .u32 2024104815))), (58, 1, (C (.int .u32 2227730452))), (59, 1, (C (.int .u32 2361852424))), (60, 1, (C (.int .u32 2428436474))), (61, 1, (C (.int .u32 2756734187))), (62, 1, (C (.int .u32 3204031479))), (63, 1, (C (.int .u32 3329325298)))]), none⟩,
  ⟨none, .e (.store 64 (T 0) (T 1)), none⟩]
def xq236_1 : List XO := xq236_1l
theorem xq236_1e : E3 xq236_1 xq236_1l := E3.rfl
def xq236 : XF := ⟨0, [.cellN 0 64],
  .seq (.ops xq236_0) (.seq (.ops xq236_1) (.ret))⟩
def yq236 := PLift.up (And.intro (@xq236_0e) (@xq236_1e))
theorem cq236 : zj Tryz.prog Tryz.f236 = some xq236 := by kernel_rfl
abbrev xq207_0l : List XO := [
  ⟨some 0, .a (.alloc (List.replicate 8 (.int .u32 0))), none⟩]
def xq207_0 : List XO := xq207_0l
theorem xq207_0e : E3 xq207_0 xq207_0l := E3.rfl
abbrev xq207_1l : List XO := [
  ⟨some 1, .p (.build (List.replicate 8 (.int .u32 0)) [(0, 1, (C (.int .u32 1779033703))), (1, 1, (C (.int .u32 3144134277))), (2, 1, (C (.int .u32 1013904242))), (3, 1, (C (.int .u32 2773480762))), (4, 1, (C (.int .u32 1359893119))), (5, 1, (C (.int .u32 2600822924))), (6, 1, (C (.int .u32 528734635))), (7, 1, (C (.int .u32 1541459225)))]), none⟩,
  ⟨none, .e (.store 8 (T 0) (T 1)), none⟩]
def xq207_1 : List XO := xq207_1l
theorem xq207_1e : E3 xq207_1 xq207_1l := E3.rfl
def xq207 : XF := ⟨0, [.cellN 0 8],
  .seq (.ops xq207_0) (.seq (.ops xq207_1) (.ret))⟩
def yq207 := PLift.up (And.intro (@xq207_0e) (@xq207_1e))
theorem cq207 : zj Tryz.prog Tryz.f207 = some xq207 := by kernel_rfl
abbrev xq237_0l : List XO := [
  ⟨some 2, .a (.alloc (List.replicate 64 (.int .u32 0))), none⟩]
def xq237_0 : List XO := xq237_0l
theorem xq237_0e : E3 xq237_0 xq237_0l := E3.rfl
abbrev xq237_1l : List XO := [
  ⟨some 3, .a (.alloc (List.replicate 64 (.int .u32 0))), none⟩]
def xq237_1 : List XO := xq237_1l
theorem xq237_1e : E3 xq237_1 xq237_1l := E3.rfl
abbrev xq237_2l : List XO := [
  ⟨some 11, .p (.mov (C (.int .i64 0))), none⟩]
def xq237_2 : List XO := xq237_2l
theorem xq237_2e : E3 xq237_2 xq237_2l := E3.rfl
abbrev xq237_3l : List XO := [
  ⟨some 12, .p (.bin .lss (T 11) (C (.int .i64 16))), none⟩]
def xq237_3 : List XO := xq237_3l
theorem xq237_3e : E3 xq237_3 xq237_3l := E3.rfl
abbrev xq237_4l : List XO := [
  ⟨some 13, .p (.mov (T 11)), none⟩,
  ⟨some 4, .p (.mov (T 13)), none⟩]
def xq237_4 : List XO := xq237_4l
theorem xq237_4e : E3 xq237_4 xq237_4l := E3.rfl
abbrev xq237_5l : List XO := [
  ⟨some 14, .p (.mov (C (.int .i64 0))), none⟩]
def xq237_5 : List XO := xq237_5l
theorem xq237_5e : E3 xq237_5 xq237_5l := E3.rfl
abbrev xq237_6l : List XO := [
  ⟨some 15, .p (.bin .lss (T 14) (C (.int .i64 4))), none⟩]
def xq237_6 : List XO := xq237_6l
theorem xq237_6e : E3 xq237_6 xq237_6l := E3.rfl
abbrev xq237_7l : List XO := [
  ⟨some 16, .p (.mov (T 14)), none⟩,
  ⟨some 5, .p (.mov (T 16)), none⟩]
def xq237_7 : List XO := xq237_7l
theorem xq237_7e : E3 xq237_7 xq237_7l := E3.rfl
abbrev xq237_8l : List XO := [
  ⟨some 17, .p (.mov (T 4)), none⟩,
  ⟨some 18, .p (.mov (T 4)), none⟩,
  ⟨some 19, .p (.iaddrA 64 1 (T 3) (T 18)), none⟩,
  ⟨some 20, .r (.load1 (T 19)), none⟩,
  ⟨some 21, .p (.bin .shl (T 20) (C (.int .u64 8))), none⟩,
  ⟨some 22, .p (.mov (T 0)), none⟩,
  ⟨some 23, .p (.mov (T 4)), none⟩,
  ⟨some 24, .p (.bin .mul (C (.int .i64 4)) (T 23)), none⟩,
  ⟨some 25, .p (.mov (T 5)), none⟩,
  ⟨some 26, .p (.bin .add (T 24) (T 25)), none⟩,
  ⟨some 27, .p (.iaddrS 1 (T 22) (T 26)), none⟩,
  ⟨some 28, .r (.load1 (T 27)), none⟩,
  ⟨some 29, .p (.cint .u32 (T 28)), none⟩,
  ⟨some 30, .p (.bin .or (T 21) (T 29)), none⟩,
  ⟨some 31, .p (.iaddrA 64 1 (T 3) (T 17)), none⟩,
  ⟨none, .e (.store 1 (T 31) (T 30)), none⟩]
def xq237_8 : List XO := xq237_8l
theorem xq237_8e : E3 xq237_8 xq237_8l := E3.rfl
abbrev xq237_9l : List XO := [
  ⟨some 32, .p (.bin .add (T 14) (C (.int .i64 1))), none⟩,
  ⟨some 14, .p (.mov (T 32)), none⟩]
def xq237_9 : List XO := xq237_9l
theorem xq237_9e : E3 xq237_9 xq237_9l := E3.rfl
def xq237_10b : XC :=
  .seq (.ops xq237_6) (.seq (.cond (T 15) (.skip) (.exit 2)) (.seq (.block 3 (.seq (.ops xq237_7) (.draw xq237_8 []))) (.ops xq237_9)))
def xq237_10 : XC := xq237_10b
theorem xq237_10k {pr : Prog} {k : List KI} {Q : XE → Fr → Heap → Prop} {t : Fr} {h : Heap} (hw : wpk pr xq237_10b k Q t h) : wpk pr xq237_10 k Q t h := hw
abbrev xq237_11l : List XO := [
  ⟨some 33, .p (.bin .add (T 11) (C (.int .i64 1))), none⟩,
  ⟨some 11, .p (.mov (T 33)), none⟩]
def xq237_11 : List XO := xq237_11l
theorem xq237_11e : E3 xq237_11 xq237_11l := E3.rfl
def xq237_12b : XC :=
  .seq (.ops xq237_3) (.seq (.cond (T 12) (.skip) (.exit 0)) (.seq (.block 1 (.seq (.ops xq237_4) (.seq (.ops xq237_5) (.block 2 (.loop xq237_10))))) (.ops xq237_11)))
def xq237_12 : XC := xq237_12b
theorem xq237_12k {pr : Prog} {k : List KI} {Q : XE → Fr → Heap → Prop} {t : Fr} {h : Heap} (hw : wpk pr xq237_12b k Q t h) : wpk pr xq237_12 k Q t h := hw
abbrev xq237_13l : List XO := [
  ⟨some 6, .p (.mov (C (.int .i64 16))), none⟩]
def xq237_13 : List XO := xq237_13l
theorem xq237_13e : E3 xq237_13 xq237_13l := E3.rfl
abbrev xq237_14l : List XO := [
  ⟨some 34, .p (.mov (T 6)), none⟩,
  ⟨some 35, .p (.bin .lss (T 34) (C (.int .i64 64))), none⟩]
def xq237_14 : List XO := xq237_14l
theorem xq237_14e : E3 xq237_14 xq237_14l := E3.rfl
abbrev xq237_15l : List XO := [
  ⟨some 38, .p (.mov (T 6)), none⟩,
  ⟨some 39, .p (.bin .sub (T 38) (C (.int .i64 15))), none⟩,
  ⟨some 40, .p (.iaddrA 64 1 (T 3) (T 39)), none⟩,
  ⟨some 41, .r (.load1 (T 40)), none⟩,
  ⟨some 42, .p (.mov (T 6)), none⟩,
  ⟨some 43, .p (.bin .sub (T 42) (C (.int .i64 2))), none⟩,
  ⟨some 44, .p (.iaddrA 64 1 (T 3) (T 43)), none⟩,
  ⟨some 45, .r (.load1 (T 44)), none⟩,
  ⟨some 7, .p (.mov (T 41)), none⟩,
  ⟨some 8, .p (.mov (T 45)), none⟩]
def xq237_15 : List XO := xq237_15l
theorem xq237_15e : E3 xq237_15 xq237_15l := E3.rfl
abbrev xq237_16l : List XO := [
  ⟨some 46, .p (.mov (T 7)), none⟩,
  ⟨some 47, .call (.func 238) [(T 46), (C (.int .i64 7))], none⟩,
  ⟨some 48, .p (.mov (T 7)), none⟩,
  ⟨some 49, .call (.func 238) [(T 48), (C (.int .i64 18))], none⟩,
  ⟨some 50, .p (.bin .xor (T 47) (T 49)), none⟩,
  ⟨some 51, .p (.mov (T 7)), none⟩,
  ⟨some 52, .p (.bin .shr (T 51) (C (.int .u64 3))), none⟩,
  ⟨some 53, .p (.bin .xor (T 50) (T 52)), none⟩,
  ⟨some 9, .p (.mov (T 53)), none⟩]
def xq237_16 : List XO := xq237_16l
theorem xq237_16e : E3 xq237_16 xq237_16l := E3.rfl
abbrev xq237_17l : List XO := [
  ⟨some 54, .p (.mov (T 8)), none⟩,
  ⟨some 55, .call (.func 238) [(T 54), (C (.int .i64 17))], none⟩,
  ⟨some 56, .p (.mov (T 8)), none⟩,
  ⟨some 57, .call (.func 238) [(T 56), (C (.int .i64 19))], none⟩,
  ⟨some 58, .p (.bin .xor (T 55) (T 57)), none⟩,
  ⟨some 59, .p (.mov (T 8)), none⟩,
  ⟨some 60, .p (.bin .shr (T 59) (C (.int .u64 10))), none⟩,
  ⟨some 61, .p (.bin .xor (T 58) (T 60)), none⟩,
  ⟨some 10, .p (.mov (T 61)), none⟩]
def xq237_17 : List XO := xq237_17l
theorem xq237_17e : E3 xq237_17 xq237_17l := E3.rfl
abbrev xq237_18l : List XO := [
  ⟨some 62, .p (.mov (T 6)), none⟩,
  ⟨some 63, .p (.mov (T 6)), none⟩,
  ⟨some 64, .p (.bin .sub (T 63) (C (.int .i64 16))), none⟩,
  ⟨some 65, .p (.iaddrA 64 1 (T 3) (T 64)), none⟩,
  ⟨some 66, .r (.load1 (T 65)), none⟩,
  ⟨some 67, .p (.mov (T 9)), none⟩,
  ⟨some 68, .p (.bin .add (T 66) (T 67)), none⟩,
  ⟨some 69, .p (.mov (T 6)), none⟩,
  ⟨some 70, .p (.bin .sub (T 69) (C (.int .i64 7))), none⟩,
  ⟨some 71, .p (.iaddrA 64 1 (T 3) (T 70)), none⟩,
  ⟨some 72, .r (.load1 (T 71)), none⟩,
  ⟨some 73, .p (.bin .add (T 68) (T 72)), none⟩,
  ⟨some 74, .p (.mov (T 10)), none⟩,
  ⟨some 75, .p (.bin .add (T 73) (T 74)), none⟩,
  ⟨some 76, .p (.iaddrA 64 1 (T 3) (T 62)), none⟩,
  ⟨none, .e (.store 1 (T 76) (T 75)), none⟩]
def xq237_18 : List XO := xq237_18l
theorem xq237_18e : E3 xq237_18 xq237_18l := E3.rfl
abbrev xq237_19l : List XO := [
  ⟨some 36, .p (.mov (T 6)), none⟩,
  ⟨some 37, .p (.bin .add (T 36) (C (.int .i64 1))), none⟩,
  ⟨some 6, .p (.mov (T 37)), none⟩]
def xq237_19 : List XO := xq237_19l
theorem xq237_19e : E3 xq237_19 xq237_19l := E3.rfl
def xq237_20b : XC :=
  .seq (.seq (.ops xq237_14) (.cond (T 35) (.skip) (.exit 4))) (.seq (.block 5 (.seq (.draw xq237_15 []) (.seq (.ops xq237_16) (.seq (.ops xq237_17) (.draw xq237_18 []))))) (.ops xq237_19))
def xq237_20 : XC := xq237_20b
theorem xq237_20k {pr : Prog} {k : List KI} {Q : XE → Fr → Heap → Prop} {t : Fr} {h : Heap} (hw : wpk pr xq237_20b k Q t h) : wpk pr xq237_20 k Q t h := hw
abbrev xq237_21l : List XO := [
  ⟨some 77, .r (.loadN 64 (T 3)), none⟩,
  ⟨none, .e (.store 64 (T 2) (T 77)), none⟩]
def xq237_21 : List XO := xq237_21l
theorem xq237_21e : E3 xq237_21 xq237_21l := E3.rfl
def xq237 : XF := ⟨1, [.cellN 2 64],
  .seq (.ops xq237_0) (.seq (.ops xq237_1) (.seq (.seq (.ops xq237_2) (.block 0 (.loop xq237_12))) (.seq (.seq (.ops xq237_13) (.block 4 (.loop xq237_20))) (.seq (.ops xq237_21) (.ret)))))⟩
def yq237 := PLift.up (And.intro (And.intro (And.intro (And.intro (@xq237_0e) (@xq237_1e)) (And.intro (@xq237_2e) (@xq237_3e))) (And.intro (And.intro (@xq237_4e) (@xq237_5e)) (And.intro (@xq237_6e) (And.intro (@xq237_7e) (@xq237_8e))))) (And.intro (And.intro (And.intro (@xq237_9e) (@xq237_11e)) (And.intro (@xq237_13e) (And.intro (@xq237_14e) (@xq237_15e)))) (And.intro (And.intro (@xq237_16e) (@xq237_17e)) (And.intro (@xq237_18e) (And.intro (@xq237_19e) (@xq237_21e))))))
theorem cq237 : zj Tryz.prog Tryz.f237 = some xq237 := by kernel_rfl
abbrev xq208_0l : List XO := [
  ⟨some 14, .call (.func 236) [], none⟩,
  ⟨some 15, .p (.mov (T 1)), none⟩,
  ⟨some 16, .call (.func 237) [(T 15)], none⟩,
  ⟨some 4, .a (.alloc (List.replicate 64 (.int .u32 0))), none⟩,
  ⟨some 5, .a (.alloc (List.replicate 64 (.int .u32 0))), none⟩,
  ⟨none, .e (.store 64 (T 4) (T 14)), none⟩,
  ⟨none, .e (.store 64 (T 5) (T 16)), none⟩]
def xq208_0 : List XO := xq208_0l
theorem xq208_0e : E3 xq208_0 xq208_0l := E3.rfl
abbrev xq208_1l : List XO := [
  ⟨some 17, .p (.mov (T 0)), none⟩,
  ⟨some 18, .p (.nilc (T 17)), none⟩,
  ⟨some 19, .p (.faddr 0 (T 18)), none⟩,
  ⟨some 20, .r (.loadN 8 (T 19)), none⟩,
  ⟨some 6, .a (.alloc (List.replicate 8 (.int .u32 0))), none⟩,
  ⟨none, .e (.store 8 (T 6) (T 20)), none⟩]
def xq208_1 : List XO := xq208_1l
theorem xq208_1e : E3 xq208_1 xq208_1l := E3.rfl
abbrev xq208_2l : List XO := [
  ⟨some 21, .p (.mov (C (.int .i64 0))), none⟩]
def xq208_2 : List XO := xq208_2l
theorem xq208_2e : E3 xq208_2 xq208_2l := E3.rfl
abbrev xq208_3l : List XO := [
  ⟨some 22, .p (.bin .lss (T 21) (C (.int .i64 64))), none⟩]
def xq208_3 : List XO := xq208_3l
theorem xq208_3e : E3 xq208_3 xq208_3l := E3.rfl
abbrev xq208_4l : List XO := [
  ⟨some 23, .p (.mov (T 21)), none⟩,
  ⟨some 7, .p (.mov (T 23)), none⟩]
def xq208_4 : List XO := xq208_4l
theorem xq208_4e : E3 xq208_4 xq208_4l := E3.rfl
abbrev xq208_5l : List XO := [
  ⟨some 24, .p (.iaddrA 8 1 (T 6) (C (.int .i64 4))), none⟩,
  ⟨some 25, .r (.load1 (T 24)), none⟩,
  ⟨some 26, .call (.func 238) [(T 25), (C (.int .i64 6))], none⟩,
  ⟨some 27, .p (.iaddrA 8 1 (T 6) (C (.int .i64 4))), none⟩,
  ⟨some 28, .r (.load1 (T 27)), none⟩,
  ⟨some 29, .call (.func 238) [(T 28), (C (.int .i64 11))], none⟩,
  ⟨some 30, .p (.bin .xor (T 26) (T 29)), none⟩,
  ⟨some 31, .p (.iaddrA 8 1 (T 6) (C (.int .i64 4))), none⟩,
  ⟨some 32, .r (.load1 (T 31)), none⟩,
  ⟨some 33, .call (.func 238) [(T 32), (C (.int .i64 25))], none⟩,
  ⟨some 34, .p (.bin .xor (T 30) (T 33)), none⟩,
  ⟨some 8, .p (.mov (T 34)), none⟩]
def xq208_5 : List XO := xq208_5l
theorem xq208_5e : E3 xq208_5 xq208_5l := E3.rfl
abbrev xq208_6l : List XO := [
  ⟨some 35, .p (.iaddrA 8 1 (T 6) (C (.int .i64 4))), none⟩,
  ⟨some 36, .r (.load1 (T 35)), none⟩,
  ⟨some 37, .p (.iaddrA 8 1 (T 6) (C (.int .i64 5))), none⟩,
  ⟨some 38, .r (.load1 (T 37)), none⟩,
  ⟨some 39, .p (.bin .and (T 36) (T 38)), none⟩,
  ⟨some 40, .p (.iaddrA 8 1 (T 6) (C (.int .i64 4))), none⟩,
  ⟨some 41, .r (.load1 (T 40)), none⟩,
  ⟨some 42, .p (.un .xor (T 41)), none⟩,
  ⟨some 43, .p (.iaddrA 8 1 (T 6) (C (.int .i64 6))), none⟩,
  ⟨some 44, .r (.load1 (T 43)), none⟩,
  ⟨some 45, .p (.bin .and (T 42) (T 44)), none⟩,
  ⟨some 46, .p (.bin .xor (T 39) (T 45)), none⟩,
  ⟨some 9, .p (.mov (T 46)), none⟩]
def xq208_6 : List XO := xq208_6l
theorem xq208_6e : E3 xq208_6 xq208_6l := E3.rfl
abbrev xq208_7l : List XO := [
  ⟨some 47, .p (.iaddrA 8 1 (T 6) (C (.int .i64 7))), none⟩,
  ⟨some 48, .r (.load1 (T 47)), none⟩,
  ⟨some 49, .p (.mov (T 8)), none⟩,
  ⟨some 50, .p (.bin .add (T 48) (T 49)), none⟩,
  ⟨some 51, .p (.mov (T 9)), none⟩,
  ⟨some 52, .p (.bin .add (T 50) (T 51)), none⟩,
  ⟨some 53, .p (.mov (T 7)), none⟩,
  ⟨some 54, .p (.iaddrA 64 1 (T 4) (T 53)), none⟩,
  ⟨some 55, .r (.load1 (T 54)), none⟩,
  ⟨some 56, .p (.bin .add (T 52) (T 55)), none⟩,
  ⟨some 57, .p (.mov (T 7)), none⟩,
  ⟨some 58, .p (.iaddrA 64 1 (T 5) (T 57)), none⟩,
  ⟨some 59, .r (.load1 (T 58)), none⟩,
  ⟨some 60, .p (.bin .add (T 56) (T 59)), none⟩,
  ⟨some 10, .p (.mov (T 60)), none⟩]
def xq208_7 : List XO := xq208_7l
theorem xq208_7e : E3 xq208_7 xq208_7l := E3.rfl
abbrev xq208_8l : List XO := [
  ⟨some 61, .p (.iaddrA 8 1 (T 6) (C (.int .i64 0))), none⟩,
  ⟨some 62, .r (.load1 (T 61)), none⟩,
  ⟨some 63, .call (.func 238) [(T 62), (C (.int .i64 2))], none⟩,
  ⟨some 64, .p (.iaddrA 8 1 (T 6) (C (.int .i64 0))), none⟩,
  ⟨some 65, .r (.load1 (T 64)), none⟩,
  ⟨some 66, .call (.func 238) [(T 65), (C (.int .i64 13))], none⟩,
  ⟨some 67, .p (.bin .xor (T 63) (T 66)), none⟩,
  ⟨some 68, .p (.iaddrA 8 1 (T 6) (C (.int .i64 0))), none⟩,
  ⟨some 69, .r (.load1 (T 68)), none⟩,
  ⟨some 70, .call (.func 238) [(T 69), (C (.int .i64 22))], none⟩,
  ⟨some 71, .p (.bin .xor (T 67) (T 70)), none⟩,
  ⟨some 11, .p (.mov (T 71)), none⟩]
def xq208_8 : List XO := xq208_8l
theorem xq208_8e : E3 xq208_8 xq208_8l := E3.rfl
abbrev xq208_9l : List XO := [
  ⟨some 72, .p (.iaddrA 8 1 (T 6) (C (.int .i64 0))), none⟩,
  ⟨some 73, .r (.load1 (T 72)), none⟩,
  ⟨some 74, .p (.iaddrA 8 1 (T 6) (C (.int .i64 1))), none⟩,
  ⟨some 75, .r (.load1 (T 74)), none⟩,
  ⟨some 76, .p (.bin .and (T 73) (T 75)), none⟩,
  ⟨some 77, .p (.iaddrA 8 1 (T 6) (C (.int .i64 0))), none⟩,
  ⟨some 78, .r (.load1 (T 77)), none⟩,
  ⟨some 79, .p (.iaddrA 8 1 (T 6) (C (.int .i64 2))), none⟩,
  ⟨some 80, .r (.load1 (T 79)), none⟩,
  ⟨some 81, .p (.bin .and (T 78) (T 80)), none⟩,
  ⟨some 82, .p (.bin .xor (T 76) (T 81)), none⟩,
  ⟨some 83, .p (.iaddrA 8 1 (T 6) (C (.int .i64 1))), none⟩,
  ⟨some 84, .r (.load1 (T 83)), none⟩,
  ⟨some 85, .p (.iaddrA 8 1 (T 6) (C (.int .i64 2))), none⟩,
  ⟨some 86, .r (.load1 (T 85)), none⟩,
  ⟨some 87, .p (.bin .and (T 84) (T 86)), none⟩,
  ⟨some 88, .p (.bin .xor (T 82) (T 87)), none⟩,
  ⟨some 12, .p (.mov (T 88)), none⟩]
def xq208_9 : List XO := xq208_9l
theorem xq208_9e : E3 xq208_9 xq208_9l := E3.rfl
abbrev xq208_10l : List XO := [
  ⟨some 89, .p (.mov (T 10)), none⟩,
  ⟨some 90, .p (.mov (T 11)), none⟩,
  ⟨some 91, .p (.bin .add (T 89) (T 90)), none⟩,
  ⟨some 92, .p (.mov (T 12)), none⟩,
  ⟨some 93, .p (.bin .add (T 91) (T 92)), none⟩,
  ⟨some 94, .p (.iaddrA 8 1 (T 6) (C (.int .i64 0))), none⟩,
  ⟨some 95, .r (.load1 (T 94)), none⟩,
  ⟨some 96, .p (.iaddrA 8 1 (T 6) (C (.int .i64 1))), none⟩,
  ⟨some 97, .r (.load1 (T 96)), none⟩,
  ⟨some 98, .p (.iaddrA 8 1 (T 6) (C (.int .i64 2))), none⟩,
  ⟨some 99, .r (.load1 (T 98)), none⟩,
  ⟨some 100, .p (.iaddrA 8 1 (T 6) (C (.int .i64 3))), none⟩,
  ⟨some 101, .r (.load1 (T 100)), none⟩,
  ⟨some 102, .p (.mov (T 10)), none⟩,
  ⟨some 103, .p (.bin .add (T 101) (T 102)), none⟩,
  ⟨some 104, .p (.iaddrA 8 1 (T 6) (C (.int .i64 4))), none⟩,
  ⟨some 105, .r (.load1 (T 104)), none⟩,
  ⟨some 106, .p (.iaddrA 8 1 (T 6) (C (.int .i64 5))), none⟩,
  ⟨some 107, .r (.load1 (T 106)), none⟩,
  ⟨some 108, .p (.iaddrA 8 1 (T 6) (C (.int .i64 6))), none⟩,
  ⟨some 109, .r (.load1 (T 108)), none⟩,
  ⟨some 110, .p (.build (List.replicate 8 (.int .u32 0)) [(0, 1, (T 93)), (1, 1, (T 95)), (2, 1, (T 97)), (3, 1, (T 99)), (4, 1, (T 103)), (5, 1, (T 105)), (6, 1, (T 107)), (7, 1, (T 109))]), none⟩,
  ⟨none, .e (.store 8 (T 6) (T 110)), none⟩]
def xq208_10 : List XO := xq208_10l
theorem xq208_10e : E3 xq208_10 xq208_10l := E3.rfl
abbrev xq208_11l : List XO := [
  ⟨some 111, .p (.bin .add (T 21) (C (.int .i64 1))), none⟩,
  ⟨some 21, .p (.mov (T 111)), none⟩]
def xq208_11 : List XO := xq208_11l
theorem xq208_11e : E3 xq208_11 xq208_11l := E3.rfl
def xq208_12b : XC :=
  .seq (.ops xq208_3) (.seq (.cond (T 22) (.skip) (.exit 0)) (.seq (.block 1 (.seq (.ops xq208_4) (.seq (.draw xq208_5 [(4, (2, [])), (8, (2, [])), (8, (5, []))]) (.seq (.ops xq208_6) (.seq (.draw xq208_7 []) (.seq (.draw xq208_8 [(4, (2, [])), (8, (2, [])), (8, (5, []))]) (.seq (.ops xq208_9) (.ops xq208_10)))))))) (.ops xq208_11)))
def xq208_12 : XC := xq208_12b
theorem xq208_12k {pr : Prog} {k : List KI} {Q : XE → Fr → Heap → Prop} {t : Fr} {h : Heap} (hw : wpk pr xq208_12b k Q t h) : wpk pr xq208_12 k Q t h := hw
abbrev xq208_13l : List XO := [
  ⟨some 112, .p (.mov (C (.int .i64 0))), none⟩]
def xq208_13 : List XO := xq208_13l
theorem xq208_13e : E3 xq208_13 xq208_13l := E3.rfl
abbrev xq208_14l : List XO := [
  ⟨some 113, .p (.bin .lss (T 112) (C (.int .i64 8))), none⟩]
def xq208_14 : List XO := xq208_14l
theorem xq208_14e : E3 xq208_14 xq208_14l := E3.rfl
abbrev xq208_15l : List XO := [
  ⟨some 114, .p (.mov (T 112)), none⟩,
  ⟨some 13, .p (.mov (T 114)), none⟩]
def xq208_15 : List XO := xq208_15l
theorem xq208_15e : E3 xq208_15 xq208_15l := E3.rfl
abbrev xq208_16l : List XO := [
  ⟨some 115, .p (.mov (T 0)), none⟩,
  ⟨some 116, .p (.mov (T 13)), none⟩,
  ⟨some 117, .p (.nilc (T 115)), none⟩,
  ⟨some 118, .p (.faddr 0 (T 117)), none⟩,
  ⟨some 119, .p (.iaddrA 8 1 (T 118) (T 116)), none⟩,
  ⟨some 120, .r (.load1 (T 119)), none⟩,
  ⟨some 121, .p (.mov (T 13)), none⟩,
  ⟨some 122, .p (.iaddrA 8 1 (T 6) (T 121)), none⟩,
  ⟨some 123, .r (.load1 (T 122)), none⟩,
  ⟨some 124, .p (.bin .add (T 120) (T 123)), none⟩,
  ⟨some 125, .p (.nilc (T 115)), none⟩,
  ⟨some 126, .p (.faddr 0 (T 125)), none⟩,
  ⟨some 127, .p (.iaddrA 8 1 (T 126) (T 116)), none⟩,
  ⟨none, .e (.store 1 (T 127) (T 124)), none⟩]
def xq208_16 : List XO := xq208_16l
theorem xq208_16e : E3 xq208_16 xq208_16l := E3.rfl
abbrev xq208_17l : List XO := [
  ⟨some 128, .p (.bin .add (T 112) (C (.int .i64 1))), none⟩,
  ⟨some 112, .p (.mov (T 128)), none⟩]
def xq208_17 : List XO := xq208_17l
theorem xq208_17e : E3 xq208_17 xq208_17l := E3.rfl
def xq208_18b : XC :=
  .seq (.ops xq208_14) (.seq (.cond (T 113) (.skip) (.exit 2)) (.seq (.block 3 (.seq (.ops xq208_15) (.draw xq208_16 []))) (.ops xq208_17)))
def xq208_18 : XC := xq208_18b
theorem xq208_18k {pr : Prog} {k : List KI} {Q : XE → Fr → Heap → Prop} {t : Fr} {h : Heap} (hw : wpk pr xq208_18b k Q t h) : wpk pr xq208_18 k Q t h := hw
def xq208 : XF := ⟨2, [],
  .seq (.ops xq208_0) (.seq (.ops xq208_1) (.seq (.seq (.ops xq208_2) (.block 0 (.loop xq208_12))) (.seq (.ops xq208_13) (.block 2 (.loop xq208_18)))))⟩
def yq208 := PLift.up (And.intro (And.intro (And.intro (And.intro (@xq208_0e) (@xq208_1e)) (And.intro (@xq208_2e) (@xq208_3e))) (And.intro (And.intro (@xq208_4e) (@xq208_5e)) (And.intro (@xq208_6e) (@xq208_7e)))) (And.intro (And.intro (And.intro (@xq208_8e) (@xq208_9e)) (And.intro (@xq208_10e) (@xq208_11e))) (And.intro (And.intro (@xq208_13e) (@xq208_14e)) (And.intro (@xq208_15e) (And.intro (@xq208_16e) (@xq208_17e))))))
theorem cq208 : zj Tryz.prog Tryz.f208 = some xq208 := by kernel_rfl
abbrev xq172_0l : List XO := [
  ⟨some 0, .p (.mov (C (.pointer none))), none⟩]
def xq172_0 : List XO := xq172_0l
theorem xq172_0e : E3 xq172_0 xq172_0l := E3.rfl
abbrev xq172_1l : List XO := [
  ⟨some 1, .call (.func 207) [], none⟩,
  ⟨some 2, .p (.build [(.int .u32 0), (.int .u32 0), (.int .u32 0), (.int .u32 0), (.int .u32 0), (.int .u32 0), (.int .u32 0), (.int .u32 0), (.slice none 0 0), (.int .u64 0)] [(0, 8, (T 1))]), none⟩,
  ⟨some 3, .a (.box (T 2)), none⟩,
  ⟨some 0, .p (.mov (T 3)), none⟩]
def xq172_1 : List XO := xq172_1l
theorem xq172_1e : E3 xq172_1 xq172_1l := E3.rfl
def xq172 : XF := ⟨0, [.tmp 0],
  .seq (.ops xq172_0) (.seq (.ops xq172_1) (.ret))⟩
def yq172 := PLift.up (And.intro (@xq172_0e) (@xq172_1e))
theorem cq172 : zj Tryz.prog Tryz.f172 = some xq172 := by kernel_rfl
abbrev xq173_0l : List XO := [
  ⟨some 4, .p (.mov (T 0)), none⟩,
  ⟨some 5, .p (.eql false .nptr (T 4) (C (.pointer none))), none⟩]
def xq173_0 : List XO := xq173_0l
theorem xq173_0e : E3 xq173_0 xq173_0l := E3.rfl
abbrev xq173_1l : List XO := [
  ⟨some 6, .p (.mov (T 0)), none⟩,
  ⟨some 7, .p (.nilc (T 6)), none⟩,
  ⟨some 8, .p (.faddr 9 (T 7)), none⟩,
  ⟨some 9, .r (.load1 (T 8)), none⟩,
  ⟨some 10, .p (.mov (T 1)), none⟩,
  ⟨some 11, .p (.lenS (T 10)), none⟩,
  ⟨some 12, .p (.cint .u64 (T 11)), none⟩,
  ⟨some 13, .p (.bin .add (T 9) (T 12)), none⟩,
  ⟨some 14, .p (.nilc (T 6)), none⟩,
  ⟨some 15, .p (.faddr 9 (T 14)), none⟩,
  ⟨none, .e (.store 1 (T 15) (T 13)), none⟩]
def xq173_1 : List XO := xq173_1l
theorem xq173_1e : E3 xq173_1 xq173_1l := E3.rfl
abbrev xq173_2l : List XO := [
  ⟨some 16, .p (.mov (T 0)), none⟩,
  ⟨some 17, .p (.mov (T 0)), none⟩,
  ⟨some 18, .p (.nilc (T 17)), none⟩,
  ⟨some 19, .p (.faddr 8 (T 18)), none⟩,
  ⟨some 20, .r (.load1 (T 19)), none⟩,
  ⟨some 21, .p (.mov (T 1)), none⟩,
  ⟨some 22, .e (.append 1 1 (T 20) (T 21)), none⟩,
  ⟨some 23, .p (.nilc (T 16)), none⟩,
  ⟨some 24, .p (.faddr 8 (T 23)), none⟩,
  ⟨none, .e (.store 1 (T 24) (T 22)), none⟩]
def xq173_2 : List XO := xq173_2l
theorem xq173_2e : E3 xq173_2 xq173_2l := E3.rfl
abbrev xq173_3l : List XO := [
  ⟨some 25, .p (.mov (T 0)), none⟩,
  ⟨some 26, .p (.nilc (T 25)), none⟩,
  ⟨some 27, .p (.faddr 8 (T 26)), none⟩,
  ⟨some 28, .r (.load1 (T 27)), none⟩,
  ⟨some 29, .p (.lenV (T 28)), none⟩,
  ⟨some 30, .p (.bin .geq (T 29) (C (.int .i64 64))), none⟩]
def xq173_3 : List XO := xq173_3l
theorem xq173_3e : E3 xq173_3 xq173_3l := E3.rfl
abbrev xq173_4l : List XO := [
  ⟨some 31, .p (.mov (T 0)), none⟩,
  ⟨some 32, .p (.mov (T 0)), none⟩,
  ⟨some 33, .p (.nilc (T 32)), none⟩,
  ⟨some 34, .p (.faddr 8 (T 33)), none⟩,
  ⟨some 35, .r (.load1 (T 34)), none⟩,
  ⟨some 36, .p (.slc 1 (T 35) none (some (C (.int .i64 64))) none), none⟩,
  ⟨some 37, .call (.func 208) [(T 31), (T 36)], none⟩]
def xq173_4 : List XO := xq173_4l
theorem xq173_4e : E3 xq173_4 xq173_4l := E3.rfl
abbrev xq173_5l : List XO := [
  ⟨some 38, .p (.mov (T 0)), none⟩,
  ⟨some 39, .p (.mov (T 0)), none⟩,
  ⟨some 40, .p (.nilc (T 39)), none⟩,
  ⟨some 41, .p (.faddr 8 (T 40)), none⟩,
  ⟨some 42, .r (.load1 (T 41)), none⟩,
  ⟨some 43, .p (.slc 1 (T 42) (some (C (.int .i64 64))) none none), none⟩,
  ⟨some 44, .p (.nilc (T 38)), none⟩,
  ⟨some 45, .p (.faddr 8 (T 44)), none⟩,
  ⟨none, .e (.store 1 (T 45) (T 43)), none⟩]
def xq173_5 : List XO := xq173_5l
theorem xq173_5e : E3 xq173_5 xq173_5l := E3.rfl
def xq173_6b : XC :=
  .seq (.seq (.ops xq173_3) (.cond (T 30) (.skip) (.exit 0))) (.block 1 (.seq (.ops xq173_4) (.ops xq173_5)))
def xq173_6 : XC := xq173_6b
theorem xq173_6k {pr : Prog} {k : List KI} {Q : XE → Fr → Heap → Prop} {t : Fr} {h : Heap} (hw : wpk pr xq173_6b k Q t h) : wpk pr xq173_6 k Q t h := hw
def xq173 : XF := ⟨2, [],
  .seq (.seq (.ops xq173_0) (.cond (T 5) (.ret) (.skip))) (.seq (.ops xq173_1) (.seq (.ops xq173_2) (.block 0 (.loop xq173_6))))⟩
def yq173 := PLift.up (And.intro (And.intro (@xq173_0e) (And.intro (@xq173_1e) (@xq173_2e))) (And.intro (@xq173_3e) (And.intro (@xq173_4e) (@xq173_5e))))
theorem cq173 : zj Tryz.prog Tryz.f173 = some xq173 := by kernel_rfl
abbrev xq175_0l : List XO := [
  ⟨some 2, .p (.mov (C (.string (strOf [])))), none⟩]
def xq175_0 : List XO := xq175_0l
theorem xq175_0e : E3 xq175_0 xq175_0l := E3.rfl
abbrev xq175_1l : List XO := [
  ⟨some 9, .p (.mov (T 0)), none⟩,
  ⟨some 10, .p (.eql false .nptr (T 9) (C (.pointer none))), none⟩]
def xq175_1 : List XO := xq175_1l
theorem xq175_1e : E3 xq175_1 xq175_1l := E3.rfl
abbrev xq175_2l : List XO := [
  ⟨some 2, .p (.mov (C (.string (strOf [])))), none⟩]
def xq175_2 : List XO := xq175_2l
theorem xq175_2e : E3 xq175_2 xq175_2l := E3.rfl
abbrev xq175_3l : List XO := [
  ⟨some 11, .p (.mov (T 0)), none⟩,
  ⟨some 12, .p (.nilc (T 11)), none⟩,
  ⟨some 13, .p (.faddr 0 (T 12)), none⟩,
  ⟨some 14, .r (.loadN 8 (T 13)), none⟩,
  ⟨some 15, .p (.mov (T 0)), none⟩,
  ⟨some 16, .p (.nilc (T 15)), none⟩,
  ⟨some 17, .p (.faddr 9 (T 16)), none⟩,
  ⟨some 18, .r (.load1 (T 17)), none⟩,
  ⟨some 19, .p (.build [(.int .u32 0), (.int .u32 0), (.int .u32 0), (.int .u32 0), (.int .u32 0), (.int .u32 0), (.int .u32 0), (.int .u32 0), (.slice none 0 0), (.int .u64 0)] [(0, 8, (T 14)), (9, 1, (T 18))]), none⟩,
  ⟨some 20, .a (.box (T 19)), none⟩,
  ⟨some 3, .p (.mov (T 20)), none⟩]
def xq175_3 : List XO := xq175_3l
theorem xq175_3e : E3 xq175_3 xq175_3l := E3.rfl
abbrev xq175_4l : List XO := [
  ⟨some 21, .p (.mov (T 3)), none⟩,
  ⟨some 22, .p (.mov (T 3)), none⟩,
  ⟨some 23, .p (.nilc (T 22)), none⟩,
  ⟨some 24, .p (.faddr 8 (T 23)), none⟩,
  ⟨some 25, .r (.load1 (T 24)), none⟩,
  ⟨some 26, .p (.mov (T 0)), none⟩,
  ⟨some 27, .p (.nilc (T 26)), none⟩,
  ⟨some 28, .p (.faddr 8 (T 27)), none⟩,
  ⟨some 29, .r (.load1 (T 28)), none⟩,
  ⟨some 30, .e (.append 1 1 (T 25) (T 29)), none⟩,
  ⟨some 31, .a (.bslice [(.int .u8 0)] 1 [(0, 1, (C (.int .u8 128)))]), none⟩,
  ⟨some 32, .e (.append 1 1 (T 30) (T 31)), none⟩,
  ⟨some 33, .p (.nilc (T 21)), none⟩,
  ⟨some 34, .p (.faddr 8 (T 33)), none⟩,
  ⟨none, .e (.store 1 (T 34) (T 32)), none⟩]
def xq175_4 : List XO := xq175_4l
theorem xq175_4e : E3 xq175_4 xq175_4l := E3.rfl
abbrev xq175_5l : List XO := [
  ⟨some 35, .p (.mov (T 3)), none⟩,
  ⟨some 36, .p (.nilc (T 35)), none⟩,
  ⟨some 37, .p (.faddr 8 (T 36)), none⟩,
  ⟨some 38, .r (.load1 (T 37)), none⟩,
  ⟨some 39, .p (.lenV (T 38)), none⟩,
  ⟨some 40, .p (.bin .rem (T 39) (C (.int .i64 64))), none⟩,
  ⟨some 41, .p (.eql true .int (T 40) (C (.int .i64 56))), none⟩]
def xq175_5 : List XO := xq175_5l
theorem xq175_5e : E3 xq175_5 xq175_5l := E3.rfl
abbrev xq175_6l : List XO := [
  ⟨some 42, .p (.mov (T 3)), none⟩,
  ⟨some 43, .p (.mov (T 3)), none⟩,
  ⟨some 44, .p (.nilc (T 43)), none⟩,
  ⟨some 45, .p (.faddr 8 (T 44)), none⟩,
  ⟨some 46, .r (.load1 (T 45)), none⟩,
  ⟨some 47, .a (.bslice [(.int .u8 0)] 1 [(0, 1, (C (.int .u8 0)))]), none⟩,
  ⟨some 48, .e (.append 1 1 (T 46) (T 47)), none⟩,
  ⟨some 49, .p (.nilc (T 42)), none⟩,
  ⟨some 50, .p (.faddr 8 (T 49)), none⟩,
  ⟨none, .e (.store 1 (T 50) (T 48)), none⟩]
def xq175_6 : List XO := xq175_6l
theorem xq175_6e : E3 xq175_6 xq175_6l := E3.rfl
def xq175_7b : XC :=
  .seq (.seq (.ops xq175_5) (.cond (T 41) (.skip) (.exit 0))) (.block 1 (.ops xq175_6))
def xq175_7 : XC := xq175_7b
theorem xq175_7k {pr : Prog} {k : List KI} {Q : XE → Fr → Heap → Prop} {t : Fr} {h : Heap} (hw : wpk pr xq175_7b k Q t h) : wpk pr xq175_7 k Q t h := hw
abbrev xq175_8l : List XO := [
  ⟨some 51, .p (.mov (C (.int .i64 0))), none⟩]
def xq175_8 : List XO := xq175_8l
theorem xq175_8e : E3 xq175_8 xq175_8l := E3.rfl
abbrev xq175_9l : List XO := [
  ⟨some 52, .p (.bin .lss (T 51) (C (.int .i64 8))), none⟩]
def xq175_9 : List XO := xq175_9l
theorem xq175_9e : E3 xq175_9 xq175_9l := E3.rfl
abbrev xq175_10l : List XO := [
  ⟨some 53, .p (.mov (T 51)), none⟩,
  ⟨some 4, .p (.mov (T 53)), none⟩]
def xq175_10 : List XO := xq175_10l
theorem xq175_10e : E3 xq175_10 xq175_10l := E3.rfl
abbrev xq175_11l : List XO := [
  ⟨some 54, .p (.mov (T 3)), none⟩,
  ⟨some 55, .p (.mov (T 3)), none⟩,
  ⟨some 56, .p (.nilc (T 55)), none⟩,
  ⟨some 57, .p (.faddr 8 (T 56)), none⟩,
  ⟨some 58, .r (.load1 (T 57)), none⟩,
  ⟨some 59, .p (.mov (T 3)), none⟩,
  ⟨some 60, .p (.nilc (T 59)), none⟩,
  ⟨some 61, .p (.faddr 9 (T 60)), none⟩,
  ⟨some 62, .r (.load1 (T 61)), none⟩,
  ⟨some 63, .p (.bin .mul (T 62) (C (.int .u64 8))), none⟩,
  ⟨some 64, .p (.mov (T 4)), none⟩,
  ⟨some 65, .p (.bin .sub (C (.int .i64 7)) (T 64)), none⟩,
  ⟨some 66, .p (.bin .mul (C (.int .i64 8)) (T 65)), none⟩,
  ⟨some 67, .p (.bin .shr (T 63) (T 66)), none⟩,
  ⟨some 68, .p (.cint .u8 (T 67)), none⟩,
  ⟨some 69, .a (.bslice [(.int .u8 0)] 1 [(0, 1, (T 68))]), none⟩,
  ⟨some 70, .e (.append 1 1 (T 58) (T 69)), none⟩,
  ⟨some 71, .p (.nilc (T 54)), none⟩,
  ⟨some 72, .p (.faddr 8 (T 71)), none⟩,
  ⟨none, .e (.store 1 (T 72) (T 70)), none⟩]
def xq175_11 : List XO := xq175_11l
theorem xq175_11e : E3 xq175_11 xq175_11l := E3.rfl
abbrev xq175_12l : List XO := [
  ⟨some 73, .p (.bin .add (T 51) (C (.int .i64 1))), none⟩,
  ⟨some 51, .p (.mov (T 73)), none⟩]
def xq175_12 : List XO := xq175_12l
theorem xq175_12e : E3 xq175_12 xq175_12l := E3.rfl
def xq175_13b : XC :=
  .seq (.ops xq175_9) (.seq (.cond (T 52) (.skip) (.exit 2)) (.seq (.block 3 (.seq (.ops xq175_10) (.draw xq175_11 [(4, (16, [])), (8, (16, []))]))) (.ops xq175_12)))
def xq175_13 : XC := xq175_13b
theorem xq175_13k {pr : Prog} {k : List KI} {Q : XE → Fr → Heap → Prop} {t : Fr} {h : Heap} (hw : wpk pr xq175_13b k Q t h) : wpk pr xq175_13 k Q t h := hw
abbrev xq175_14l : List XO := [
  ⟨some 74, .p (.mov (T 3)), none⟩,
  ⟨some 75, .p (.nilc (T 74)), none⟩,
  ⟨some 76, .p (.faddr 8 (T 75)), none⟩,
  ⟨some 77, .r (.load1 (T 76)), none⟩,
  ⟨some 78, .p (.lenV (T 77)), none⟩,
  ⟨some 79, .p (.bin .gtr (T 78) (C (.int .i64 0))), none⟩]
def xq175_14 : List XO := xq175_14l
theorem xq175_14e : E3 xq175_14 xq175_14l := E3.rfl
abbrev xq175_15l : List XO := [
  ⟨some 80, .p (.mov (T 3)), none⟩,
  ⟨some 81, .p (.mov (T 3)), none⟩,
  ⟨some 82, .p (.nilc (T 81)), none⟩,
  ⟨some 83, .p (.faddr 8 (T 82)), none⟩,
  ⟨some 84, .r (.load1 (T 83)), none⟩,
  ⟨some 85, .p (.slc 1 (T 84) none (some (C (.int .i64 64))) none), none⟩,
  ⟨some 86, .call (.func 208) [(T 80), (T 85)], none⟩]
def xq175_15 : List XO := xq175_15l
theorem xq175_15e : E3 xq175_15 xq175_15l := E3.rfl
abbrev xq175_16l : List XO := [
  ⟨some 87, .p (.mov (T 3)), none⟩,
  ⟨some 88, .p (.mov (T 3)), none⟩,
  ⟨some 89, .p (.nilc (T 88)), none⟩,
  ⟨some 90, .p (.faddr 8 (T 89)), none⟩,
  ⟨some 91, .r (.load1 (T 90)), none⟩,
  ⟨some 92, .p (.slc 1 (T 91) (some (C (.int .i64 64))) none none), none⟩,
  ⟨some 93, .p (.nilc (T 87)), none⟩,
  ⟨some 94, .p (.faddr 8 (T 93)), none⟩,
  ⟨none, .e (.store 1 (T 94) (T 92)), none⟩]
def xq175_16 : List XO := xq175_16l
theorem xq175_16e : E3 xq175_16 xq175_16l := E3.rfl
def xq175_17b : XC :=
  .seq (.seq (.ops xq175_14) (.cond (T 79) (.skip) (.exit 4))) (.block 5 (.seq (.ops xq175_15) (.ops xq175_16)))
def xq175_17 : XC := xq175_17b
theorem xq175_17k {pr : Prog} {k : List KI} {Q : XE → Fr → Heap → Prop} {t : Fr} {h : Heap} (hw : wpk pr xq175_17b k Q t h) : wpk pr xq175_17 k Q t h := hw
abbrev xq175_18l : List XO := [
  ⟨some 5, .p (.mov (C (.slice none 0 0))), none⟩]
def xq175_18 : List XO := xq175_18l
theorem xq175_18e : E3 xq175_18 xq175_18l := E3.rfl
abbrev xq175_19l : List XO := [
  ⟨some 95, .p (.mov (T 3)), none⟩,
  ⟨some 96, .p (.nilc (T 95)), none⟩,
  ⟨some 97, .p (.faddr 0 (T 96)), none⟩,
  ⟨some 98, .r (.loadN 8 (T 97)), none⟩,
  ⟨some 99, .p (.mov (C (.int .i64 0))), none⟩]
def xq175_19 : List XO := xq175_19l
theorem xq175_19e : E3 xq175_19 xq175_19l := E3.rfl
abbrev xq175_20l : List XO := [
  ⟨some 100, .p (.bin .lss (T 99) (C (.int .i64 8))), none⟩]
def xq175_20 : List XO := xq175_20l
theorem xq175_20e : E3 xq175_20 xq175_20l := E3.rfl
abbrev xq175_21l : List XO := [
  ⟨some 101, .p (.idxA1 8 (T 98) (T 99)), none⟩,
  ⟨some 7, .p (.mov (T 101)), none⟩]
def xq175_21 : List XO := xq175_21l
theorem xq175_21e : E3 xq175_21 xq175_21l := E3.rfl
abbrev xq175_22l : List XO := [
  ⟨some 102, .p (.mov (C (.int .i64 0))), none⟩]
def xq175_22 : List XO := xq175_22l
theorem xq175_22e : E3 xq175_22 xq175_22l := E3.rfl
abbrev xq175_23l : List XO := [
  ⟨some 103, .p (.bin .lss (T 102) (C (.int .i64 4))), none⟩]
def xq175_23 : List XO := xq175_23l
theorem xq175_23e : E3 xq175_23 xq175_23l := E3.rfl
abbrev xq175_24l : List XO := [
  ⟨some 104, .p (.mov (T 102)), none⟩,
  ⟨some 8, .p (.mov (T 104)), none⟩]
def xq175_24 : List XO := xq175_24l
theorem xq175_24e : E3 xq175_24 xq175_24l := E3.rfl
abbrev xq175_25l : List XO := [
  ⟨some 105, .p (.mov (T 5)), none⟩,
  ⟨some 106, .p (.mov (T 7)), none⟩,
  ⟨some 107, .p (.mov (T 8)), none⟩,
  ⟨some 108, .p (.bin .sub (C (.int .i64 3)) (T 107)), none⟩,
  ⟨some 109, .p (.bin .mul (C (.int .i64 8)) (T 108)), none⟩,
  ⟨some 110, .p (.bin .shr (T 106) (T 109)), none⟩,
  ⟨some 111, .p (.cint .u8 (T 110)), none⟩,
  ⟨some 112, .a (.bslice [(.int .u8 0)] 1 [(0, 1, (T 111))]), none⟩,
  ⟨some 113, .e (.append 1 1 (T 105) (T 112)), none⟩,
  ⟨some 5, .p (.mov (T 113)), none⟩]
def xq175_25 : List XO := xq175_25l
theorem xq175_25e : E3 xq175_25 xq175_25l := E3.rfl
abbrev xq175_26l : List XO := [
  ⟨some 114, .p (.bin .add (T 102) (C (.int .i64 1))), none⟩,
  ⟨some 102, .p (.mov (T 114)), none⟩]
def xq175_26 : List XO := xq175_26l
theorem xq175_26e : E3 xq175_26 xq175_26l := E3.rfl
def xq175_27b : XC :=
  .seq (.ops xq175_23) (.seq (.cond (T 103) (.skip) (.exit 8)) (.seq (.block 9 (.seq (.ops xq175_24) (.ops xq175_25))) (.ops xq175_26)))
def xq175_27 : XC := xq175_27b
theorem xq175_27k {pr : Prog} {k : List KI} {Q : XE → Fr → Heap → Prop} {t : Fr} {h : Heap} (hw : wpk pr xq175_27b k Q t h) : wpk pr xq175_27 k Q t h := hw
abbrev xq175_28l : List XO := [
  ⟨some 115, .p (.bin .add (T 99) (C (.int .i64 1))), none⟩,
  ⟨some 99, .p (.mov (T 115)), none⟩]
def xq175_28 : List XO := xq175_28l
theorem xq175_28e : E3 xq175_28 xq175_28l := E3.rfl
def xq175_29b : XC :=
  .seq (.ops xq175_20) (.seq (.cond (T 100) (.skip) (.exit 6)) (.seq (.block 7 (.seq (.ops xq175_21) (.seq (.ops xq175_22) (.block 8 (.loop xq175_27))))) (.ops xq175_28)))
def xq175_29 : XC := xq175_29b
theorem xq175_29k {pr : Prog} {k : List KI} {Q : XE → Fr → Heap → Prop} {t : Fr} {h : Heap} (hw : wpk pr xq175_29b k Q t h) : wpk pr xq175_29 k Q t h := hw
abbrev xq175_30l : List XO := [
  ⟨some 116, .p (.mov (T 5)), none⟩,
  ⟨some 117, .r (.cb2s (T 116)), none⟩,
  ⟨some 2, .p (.mov (T 117)), none⟩]
def xq175_30 : List XO := xq175_30l
theorem xq175_30e : E3 xq175_30 xq175_30l := E3.rfl
def xq175 : XF := ⟨1, [.tmp 2],
  .seq (.ops xq175_0) (.seq (.seq (.ops xq175_1) (.cond (T 10) (.seq (.ops xq175_2) (.ret)) (.skip))) (.seq (.draw xq175_3 [(3, (11, [])), (7, (11, []))]) (.seq (.draw xq175_4 []) (.seq (.block 0 (.loop xq175_7)) (.seq (.seq (.ops xq175_8) (.block 2 (.loop xq175_13))) (.seq (.block 4 (.loop xq175_17)) (.seq (.ops xq175_18) (.seq (.seq (.ops xq175_19) (.block 6 (.loop xq175_29))) (.seq (.ops xq175_30) (.ret))))))))))⟩
def yq175 := PLift.up (And.intro (And.intro (And.intro (And.intro (@xq175_0e) (And.intro (@xq175_1e) (@xq175_2e))) (And.intro (@xq175_3e) (And.intro (@xq175_4e) (@xq175_5e)))) (And.intro (And.intro (@xq175_6e) (And.intro (@xq175_8e) (@xq175_9e))) (And.intro (And.intro (@xq175_10e) (@xq175_11e)) (And.intro (@xq175_12e) (@xq175_14e))))) (And.intro (And.intro (And.intro (@xq175_15e) (And.intro (@xq175_16e) (@xq175_18e))) (And.intro (@xq175_19e) (And.intro (@xq175_20e) (@xq175_21e)))) (And.intro (And.intro (@xq175_22e) (And.intro (@xq175_23e) (@xq175_24e))) (And.intro (And.intro (@xq175_25e) (@xq175_26e)) (And.intro (@xq175_28e) (@xq175_30e))))))
theorem cq175 : zj Tryz.prog Tryz.f175 = some xq175 := by kernel_rfl
abbrev xq156_0l : List XO := [
  ⟨some 2, .p (.mov (C (.string (strOf [])))), none⟩]
def xq156_0 : List XO := xq156_0l
theorem xq156_0e : E3 xq156_0 xq156_0l := E3.rfl
abbrev xq156_1l : List XO := [
  ⟨some 4, .call (.func 172) [], none⟩,
  ⟨some 3, .p (.mov (T 4)), none⟩]
def xq156_1 : List XO := xq156_1l
theorem xq156_1e : E3 xq156_1 xq156_1l := E3.rfl
abbrev xq156_2l : List XO := [
  ⟨some 5, .p (.mov (T 3)), none⟩,
  ⟨some 6, .p (.mov (T 0)), none⟩,
  ⟨some 7, .call (.func 173) [(T 5), (T 6)], none⟩]
def xq156_2 : List XO := xq156_2l
theorem xq156_2e : E3 xq156_2 xq156_2l := E3.rfl
abbrev xq156_3l : List XO := [
  ⟨some 8, .p (.mov (T 3)), none⟩,
  ⟨some 9, .call (.func 175) [(T 8)], none⟩,
  ⟨some 2, .p (.mov (T 9)), none⟩]
def xq156_3 : List XO := xq156_3l
theorem xq156_3e : E3 xq156_3 xq156_3l := E3.rfl
def xq156 : XF := ⟨1, [.tmp 2],
  .seq (.ops xq156_0) (.seq (.ops xq156_1) (.seq (.ops xq156_2) (.seq (.ops xq156_3) (.ret))))⟩
def yq156 := PLift.up (And.intro (And.intro (@xq156_0e) (@xq156_1e)) (And.intro (@xq156_2e) (@xq156_3e)))
theorem cq156 : zj Tryz.prog Tryz.f156 = some xq156 := by kernel_rfl
abbrev xq235_0l : List XO := [
  ⟨some 4, .p (.mov (C (.int .u32 0))), none⟩]
def xq235_0 : List XO := xq235_0l
theorem xq235_0e : E3 xq235_0 xq235_0l := E3.rfl
abbrev xq235_1l : List XO := [
  ⟨some 5, .p (.mov (T 0)), none⟩,
  ⟨some 6, .p (.mov (T 1)), none⟩,
  ⟨some 7, .p (.bin .shr (T 5) (T 6)), none⟩,
  ⟨some 8, .p (.mov (T 0)), none⟩,
  ⟨some 9, .p (.mov (T 1)), none⟩,
  ⟨some 10, .p (.bin .sub (C (.int .u64 32)) (T 9)), none⟩,
  ⟨some 11, .p (.bin .shl (T 8) (T 10)), none⟩,
  ⟨some 12, .p (.bin .or (T 7) (T 11)), none⟩,
  ⟨some 4, .p (.mov (T 12)), none⟩]
def xq235_1 : List XO := xq235_1l
theorem xq235_1e : E3 xq235_1 xq235_1l := E3.rfl
def xq235 : XF := ⟨2, [.tmp 4],
  .seq (.ops xq235_0) (.seq (.ops xq235_1) (.ret))⟩
def yq235 := PLift.up (And.intro (@xq235_0e) (@xq235_1e))
theorem cq235 : zj Tryz.prog Tryz.f235 = some xq235 := by kernel_rfl
abbrev xq234_0l : List XO := [
  ⟨some 0, .a (.alloc (List.replicate 64 (.int .u32 0))), none⟩,
  ⟨some 1, .a (.alloc (List.replicate 8 (.int .u32 0))), none⟩]
def xq234_0 : List XO := xq234_0l
theorem xq234_0e : E3 xq234_0 xq234_0l := E3.rfl
abbrev xq234_1l : List XO := [
  ⟨some 2, .p (.build (List.replicate 64 (.int .u32 0)) [(0, 1, (C (.int .u32 1116352408))), (1, 1, (C (.int .u32 1899447441))), (2, 1, (C (.int .u32 3049323471))), (3, 1, (C (.int .u32 3921009573))), (4, 1, (C (.int .u32 961987163))), (5, 1, (C (.int .u32 1508970993))), (6, 1, (C (.int .u32 2453635748))), (7, 1, (C (.int .u32 2870763221))), (8, 1, (C (.int .u32 3624381080))), (9, 1, (C (.int .u32 310598401))), (10, 1, (C (.int .u32 607225278))), (11, 1, (C (.int .u32 1426881987))), (12, 1, (C (.int .u32 1925078388))), (13, 1, (C (.int .u32 2162078206))), (14, 1, (C (.int .u32 2614888103))), (15, 1, (C (.int .u32 3248222580))), (16, 1, (C (.int .u32 3835390401))), (17, 1, (C (.int .u32 4022224774))), (18, 1, (C (.int .u32 264347078))), (19, 1, (C (.int .u32 604807628))), (20, 1, (C (.int .u32 770255983))), (21, 1, (C (.int .u32 1249150122))), (22, 1, (C (.int .u32 1555081692))), (23, 1, (C (.int .u32 1996064986))), (24, 1, (C (.int .u32 2554220882))), (25, 1, (C (.int .u32 2821834349))), (26, 1, (C (.int .u32 2952996808))), (27, 1, (C (.int .u32 3210313671))), (28, 1, (C (.int .u32 3336571891))), (29, 1, (C (.int .u32 3584528711))), (30, 1, (C (.int .u32 113926993))), (31, 1, (C (.int .u32 338241895))), (32, 1, (C (.int .u32 666307205))), (33, 1, (C (.int .u32 773529912))), (34, 1, (C (.int .u32 1294757372))), (35, 1, (C (.int .u32 1396182291))), (36, 1, (C (.int .u32 1695183700))), (37, 1, (C (.int .u32 1986661051))), (38, 1, (C (.int .u32 2177026350))), (39, 1, (C (.int .u32 2456956037))), (40, 1, (C (.int .u32 2730485921))), (41, 1, (C (.int .u32 2820302411))), (42, 1, (C (.int .u32 3259730800))), (43, 1, (C (.int .u32 3345764771))), (44, 1, (C (.int .u32 3516065817))), (45, 1, (C (.int .u32 3600352804))), (46, 1, (C (.int .u32 4094571909))), (47, 1, (C (.int .u32 275423344))), (48, 1, (C (.int .u32 430227734))), (49, 1, (C (.int .u32 506948616))), (50, 1, (C (.int .u32 659060556))), (51, 1, (C (.int .u32 883997877))), (52, 1, (C (.int .u32 958139571))), (53, 1, (C (.int .u32 1322822218))), (54, 1, (C (.int .u32 1537002063))), (55, 1, (C (.int .u32 1747873779))), (56, 1, (C (.int .u32 1955562222))), (57, 1, (C (.int .u32 2024104815))), (58, 1, (C (.int .u32 2227730452))), (59, 1, (C (.int .u32 2361852424))), (60, 1, (C (.int .u32 2428436474))), (61, 1, (C (.int .u32 2756734187))), (62, 1, (C (.int .u32 3204031479))), (63, 1, (C (.int .u32 3329325298)))]), none⟩,
  ⟨some 3, .p (.build (List.replicate 8 (.int .u32 0)) [(0, 1, (C (.int .u32 1779033703))), (1, 1, (C (.int .u32 3144134277))), (2, 1, (C (.int .u32 1013904242))), (3, 1, (C (.int .u32 2773480762))), (4, 1, (C (.int .u32 1359893119))), (5, 1, (C (.int .u32 2600822924))), (6, 1, (C (.int .u32 528734635))), (7, 1, (C (.int .u32 1541459225)))]), none⟩,
  ⟨none, .e (.store 64 (T 0) (T 2)), none⟩,
  ⟨none, .e (.store 8 (T 1) (T 3)), none⟩]
def xq234_1 : List XO := xq234_1l
theorem xq234_1e : E3 xq234_1 xq234_1l := E3.rfl
def xq234 : XF := ⟨0, [.cellN 0 64, .cellN 1 8],
  .seq (.ops xq234_0) (.seq (.ops xq234_1) (.ret))⟩
def yq234 := PLift.up (And.intro (@xq234_0e) (@xq234_1e))
theorem cq234 : zj Tryz.prog Tryz.f234 = some xq234 := by kernel_rfl
abbrev xq205_0l : List XO := [
  ⟨some 2, .p (.mov (C (.string (strOf [])))), none⟩]
def xq205_0 : List XO := xq205_0l
theorem xq205_0e : E3 xq205_0 xq205_0l := E3.rfl
abbrev xq205_1l : List XO := [
  ⟨some 25, .call (.func 234) [], none⟩,
  ⟨some 24, .p (.mov (T 25)), none⟩,
  ⟨some 26, .p (.ext (T 24) 0), none⟩,
  ⟨some 27, .p (.ext (T 24) 1), none⟩,
  ⟨some 3, .a (.alloc (List.replicate 64 (.int .u32 0))), none⟩,
  ⟨some 4, .a (.alloc (List.replicate 8 (.int .u32 0))), none⟩,
  ⟨none, .e (.store 64 (T 3) (T 26)), none⟩,
  ⟨none, .e (.store 8 (T 4) (T 27)), none⟩]
def xq205_1 : List XO := xq205_1l
theorem xq205_1e : E3 xq205_1 xq205_1l := E3.rfl
abbrev xq205_2l : List XO := [
  ⟨some 28, .p (.mov (T 0)), none⟩,
  ⟨some 29, .a (.cs2b (T 28)), none⟩,
  ⟨some 5, .p (.mov (T 29)), none⟩]
def xq205_2 : List XO := xq205_2l
theorem xq205_2e : E3 xq205_2 xq205_2l := E3.rfl
abbrev xq205_3l : List XO := [
  ⟨some 30, .p (.mov (T 5)), none⟩,
  ⟨some 31, .a (.bslice [(.int .u8 0)] 1 [(0, 1, (C (.int .u8 128)))]), none⟩,
  ⟨some 32, .e (.append 1 1 (T 30) (T 31)), none⟩,
  ⟨some 5, .p (.mov (T 32)), none⟩]
def xq205_3 : List XO := xq205_3l
theorem xq205_3e : E3 xq205_3 xq205_3l := E3.rfl
abbrev xq205_4l : List XO := [
  ⟨some 33, .p (.mov (T 5)), none⟩,
  ⟨some 34, .p (.lenV (T 33)), none⟩,
  ⟨some 35, .p (.bin .rem (T 34) (C (.int .i64 64))), none⟩,
  ⟨some 36, .p (.eql true .int (T 35) (C (.int .i64 56))), none⟩]
def xq205_4 : List XO := xq205_4l
theorem xq205_4e : E3 xq205_4 xq205_4l := E3.rfl
abbrev xq205_5l : List XO := [
  ⟨some 37, .p (.mov (T 5)), none⟩,
  ⟨some 38, .a (.bslice [(.int .u8 0)] 1 [(0, 1, (C (.int .u8 0)))]), none⟩,
  ⟨some 39, .e (.append 1 1 (T 37) (T 38)), none⟩,
  ⟨some 5, .p (.mov (T 39)), none⟩]
def xq205_5 : List XO := xq205_5l
theorem xq205_5e : E3 xq205_5 xq205_5l := E3.rfl
def xq205_6b : XC :=
  .seq (.seq (.ops xq205_4) (.cond (T 36) (.skip) (.exit 0))) (.block 1 (.ops xq205_5))
def xq205_6 : XC := xq205_6b
theorem xq205_6k {pr : Prog} {k : List KI} {Q : XE → Fr → Heap → Prop} {t : Fr} {h : Heap} (hw : wpk pr xq205_6b k Q t h) : wpk pr xq205_6 k Q t h := hw
abbrev xq205_7l : List XO := [
  ⟨some 40, .p (.mov (T 0)), none⟩,
  ⟨some 41, .p (.lenS (T 40)), none⟩,
  ⟨some 42, .p (.cint .u64 (T 41)), none⟩,
  ⟨some 43, .p (.bin .mul (T 42) (C (.int .u64 8))), none⟩,
  ⟨some 6, .p (.mov (T 43)), none⟩]
def xq205_7 : List XO := xq205_7l
theorem xq205_7e : E3 xq205_7 xq205_7l := E3.rfl
abbrev xq205_8l : List XO := [
  ⟨some 7, .p (.mov (C (.int .i64 7))), none⟩]
def xq205_8 : List XO := xq205_8l
theorem xq205_8e : E3 xq205_8 xq205_8l := E3.rfl
abbrev xq205_9l : List XO := [
  ⟨some 44, .p (.mov (T 7)), none⟩,
  ⟨some 45, .p (.bin .geq (T 44) (C (.int .i64 0))), none⟩]
def xq205_9 : List XO := xq205_9l
theorem xq205_9e : E3 xq205_9 xq205_9l := E3.rfl
abbrev xq205_10l : List XO := [
  ⟨some 48, .p (.mov (T 5)), none⟩,
  ⟨some 49, .p (.mov (T 6)), none⟩,
  ⟨some 50, .p (.mov (T 7)), none⟩,
  ⟨some 51, .p (.bin .mul (C (.int .i64 8)) (T 50)), none⟩,
  ⟨some 52, .p (.cint .u64 (T 51)), none⟩,
  ⟨some 53, .p (.bin .shr (T 49) (T 52)), none⟩,
  ⟨some 54, .p (.cint .u8 (T 53)), none⟩,
  ⟨some 55, .a (.bslice [(.int .u8 0)] 1 [(0, 1, (T 54))]), none⟩,
  ⟨some 56, .e (.append 1 1 (T 48) (T 55)), none⟩,
  ⟨some 5, .p (.mov (T 56)), none⟩]
def xq205_10 : List XO := xq205_10l
theorem xq205_10e : E3 xq205_10 xq205_10l := E3.rfl
abbrev xq205_11l : List XO := [
  ⟨some 46, .p (.mov (T 7)), none⟩,
  ⟨some 47, .p (.bin .sub (T 46) (C (.int .i64 1))), none⟩,
  ⟨some 7, .p (.mov (T 47)), none⟩]
def xq205_11 : List XO := xq205_11l
theorem xq205_11e : E3 xq205_11 xq205_11l := E3.rfl
def xq205_12b : XC :=
  .seq (.seq (.ops xq205_9) (.cond (T 45) (.skip) (.exit 2))) (.seq (.block 3 (.ops xq205_10)) (.ops xq205_11))
def xq205_12 : XC := xq205_12b
theorem xq205_12k {pr : Prog} {k : List KI} {Q : XE → Fr → Heap → Prop} {t : Fr} {h : Heap} (hw : wpk pr xq205_12b k Q t h) : wpk pr xq205_12 k Q t h := hw
abbrev xq205_13l : List XO := [
  ⟨some 8, .p (.mov (C (.int .i64 0))), none⟩]
def xq205_13 : List XO := xq205_13l
theorem xq205_13e : E3 xq205_13 xq205_13l := E3.rfl
abbrev xq205_14l : List XO := [
  ⟨some 57, .p (.mov (T 8)), none⟩,
  ⟨some 58, .p (.mov (T 5)), none⟩,
  ⟨some 59, .p (.lenV (T 58)), none⟩,
  ⟨some 60, .p (.bin .lss (T 57) (T 59)), none⟩]
def xq205_14 : List XO := xq205_14l
theorem xq205_14e : E3 xq205_14 xq205_14l := E3.rfl
abbrev xq205_15l : List XO := [
  ⟨some 63, .p (.build (List.replicate 64 (.int .u32 0)) []), none⟩,
  ⟨some 9, .a (.alloc (List.replicate 64 (.int .u32 0))), none⟩,
  ⟨none, .e (.store 64 (T 9) (T 63)), none⟩]
def xq205_15 : List XO := xq205_15l
theorem xq205_15e : E3 xq205_15 xq205_15l := E3.rfl
abbrev xq205_16l : List XO := [
  ⟨some 10, .p (.mov (C (.int .i64 0))), none⟩]
def xq205_16 : List XO := xq205_16l
theorem xq205_16e : E3 xq205_16 xq205_16l := E3.rfl
abbrev xq205_17l : List XO := [
  ⟨some 64, .p (.mov (T 10)), none⟩,
  ⟨some 65, .p (.bin .lss (T 64) (C (.int .i64 64))), none⟩]
def xq205_17 : List XO := xq205_17l
theorem xq205_17e : E3 xq205_17 xq205_17l := E3.rfl
abbrev xq205_18l : List XO := [
  ⟨some 68, .p (.mov (T 10)), none⟩,
  ⟨some 69, .p (.bin .lss (T 68) (C (.int .i64 16))), none⟩]
def xq205_18 : List XO := xq205_18l
theorem xq205_18e : E3 xq205_18 xq205_18l := E3.rfl
abbrev xq205_19l : List XO := [
  ⟨some 70, .p (.mov (T 5)), none⟩,
  ⟨some 71, .p (.mov (T 8)), none⟩,
  ⟨some 72, .p (.mov (T 10)), none⟩,
  ⟨some 73, .p (.bin .mul (C (.int .i64 4)) (T 72)), none⟩,
  ⟨some 74, .p (.bin .add (T 71) (T 73)), none⟩,
  ⟨some 75, .p (.mov (T 8)), none⟩,
  ⟨some 76, .p (.mov (T 10)), none⟩,
  ⟨some 77, .p (.bin .mul (C (.int .i64 4)) (T 76)), none⟩,
  ⟨some 78, .p (.bin .add (T 75) (T 77)), none⟩,
  ⟨some 79, .p (.bin .add (T 78) (C (.int .i64 4))), none⟩,
  ⟨some 80, .p (.slc 1 (T 70) (some (T 74)) (some (T 79)) none), none⟩,
  ⟨some 11, .p (.mov (T 80)), none⟩]
def xq205_19 : List XO := xq205_19l
theorem xq205_19e : E3 xq205_19 xq205_19l := E3.rfl
abbrev xq205_20l : List XO := [
  ⟨some 81, .p (.mov (T 10)), none⟩,
  ⟨some 82, .p (.mov (T 11)), none⟩,
  ⟨some 83, .p (.iaddrS 1 (T 82) (C (.int .i64 0))), none⟩,
  ⟨some 84, .r (.load1 (T 83)), none⟩,
  ⟨some 85, .p (.cint .u32 (T 84)), none⟩,
  ⟨some 86, .p (.bin .shl (T 85) (C (.int .u64 24))), none⟩,
  ⟨some 87, .p (.mov (T 11)), none⟩,
  ⟨some 88, .p (.iaddrS 1 (T 87) (C (.int .i64 1))), none⟩,
  ⟨some 89, .r (.load1 (T 88)), none⟩,
  ⟨some 90, .p (.cint .u32 (T 89)), none⟩,
  ⟨some 91, .p (.bin .shl (T 90) (C (.int .u64 16))), none⟩,
  ⟨some 92, .p (.bin .or (T 86) (T 91)), none⟩,
  ⟨some 93, .p (.mov (T 11)), none⟩,
  ⟨some 94, .p (.iaddrS 1 (T 93) (C (.int .i64 2))), none⟩,
  ⟨some 95, .r (.load1 (T 94)), none⟩,
  ⟨some 96, .p (.cint .u32 (T 95)), none⟩,
  ⟨some 97, .p (.bin .shl (T 96) (C (.int .u64 8))), none⟩,
  ⟨some 98, .p (.bin .or (T 92) (T 97)), none⟩,
  ⟨some 99, .p (.mov (T 11)), none⟩,
  ⟨some 100, .p (.iaddrS 1 (T 99) (C (.int .i64 3))), none⟩,
  ⟨some 101, .r (.load1 (T 100)), none⟩,
  ⟨some 102, .p (.cint .u32 (T 101)), none⟩,
  ⟨some 103, .p (.bin .or (T 98) (T 102)), none⟩,
  ⟨some 104, .p (.iaddrA 64 1 (T 9) (T 81)), none⟩,
  ⟨none, .e (.store 1 (T 104) (T 103)), none⟩]
def xq205_20 : List XO := xq205_20l
theorem xq205_20e : E3 xq205_20 xq205_20l := E3.rfl
abbrev xq205_21l : List XO := [
  ⟨some 105, .p (.mov (T 10)), none⟩,
  ⟨some 106, .p (.bin .sub (T 105) (C (.int .i64 15))), none⟩,
  ⟨some 107, .p (.iaddrA 64 1 (T 9) (T 106)), none⟩,
  ⟨some 108, .r (.load1 (T 107)), none⟩,
  ⟨some 109, .call (.func 235) [(T 108), (C (.int .u64 7))], none⟩,
  ⟨some 110, .p (.mov (T 10)), none⟩,
  ⟨some 111, .p (.bin .sub (T 110) (C (.int .i64 15))), none⟩,
  ⟨some 112, .p (.iaddrA 64 1 (T 9) (T 111)), none⟩,
  ⟨some 113, .r (.load1 (T 112)), none⟩,
  ⟨some 114, .call (.func 235) [(T 113), (C (.int .u64 18))], none⟩,
  ⟨some 115, .p (.bin .xor (T 109) (T 114)), none⟩,
  ⟨some 116, .p (.mov (T 10)), none⟩,
  ⟨some 117, .p (.bin .sub (T 116) (C (.int .i64 15))), none⟩,
  ⟨some 118, .p (.iaddrA 64 1 (T 9) (T 117)), none⟩,
  ⟨some 119, .r (.load1 (T 118)), none⟩,
  ⟨some 120, .p (.bin .shr (T 119) (C (.int .u64 3))), none⟩,
  ⟨some 121, .p (.bin .xor (T 115) (T 120)), none⟩,
  ⟨some 12, .p (.mov (T 121)), none⟩]
def xq205_21 : List XO := xq205_21l
theorem xq205_21e : E3 xq205_21 xq205_21l := E3.rfl
abbrev xq205_22l : List XO := [
  ⟨some 122, .p (.mov (T 10)), none⟩,
  ⟨some 123, .p (.bin .sub (T 122) (C (.int .i64 2))), none⟩,
  ⟨some 124, .p (.iaddrA 64 1 (T 9) (T 123)), none⟩,
  ⟨some 125, .r (.load1 (T 124)), none⟩,
  ⟨some 126, .call (.func 235) [(T 125), (C (.int .u64 17))], none⟩,
  ⟨some 127, .p (.mov (T 10)), none⟩,
  ⟨some 128, .p (.bin .sub (T 127) (C (.int .i64 2))), none⟩,
  ⟨some 129, .p (.iaddrA 64 1 (T 9) (T 128)), none⟩,
  ⟨some 130, .r (.load1 (T 129)), none⟩,
  ⟨some 131, .call (.func 235) [(T 130), (C (.int .u64 19))], none⟩,
  ⟨some 132, .p (.bin .xor (T 126) (T 131)), none⟩,
  ⟨some 133, .p (.mov (T 10)), none⟩,
  ⟨some 134, .p (.bin .sub (T 133) (C (.int .i64 2))), none⟩,
  ⟨some 135, .p (.iaddrA 64 1 (T 9) (T 134)), none⟩,
  ⟨some 136, .r (.load1 (T 135)), none⟩,
  ⟨some 137, .p (.bin .shr (T 136) (C (.int .u64 10))), none⟩,
  ⟨some 138, .p (.bin .xor (T 132) (T 137)), none⟩,
  ⟨some 13, .p (.mov (T 138)), none⟩]
def xq205_22 : List XO := xq205_22l
theorem xq205_22e : E3 xq205_22 xq205_22l := E3.rfl
abbrev xq205_23l : List XO := [
  ⟨some 139, .p (.mov (T 10)), none⟩,
  ⟨some 140, .p (.mov (T 10)), none⟩,
  ⟨some 141, .p (.bin .sub (T 140) (C (.int .i64 16))), none⟩,
  ⟨some 142, .p (.iaddrA 64 1 (T 9) (T 141)), none⟩,
  ⟨some 143, .r (.load1 (T 142)), none⟩,
  ⟨some 144, .p (.mov (T 12)), none⟩,
  ⟨some 145, .p (.bin .add (T 143) (T 144)), none⟩,
  ⟨some 146, .p (.mov (T 10)), none⟩,
  ⟨some 147, .p (.bin .sub (T 146) (C (.int .i64 7))), none⟩,
  ⟨some 148, .p (.iaddrA 64 1 (T 9) (T 147)), none⟩,
  ⟨some 149, .r (.load1 (T 148)), none⟩,
  ⟨some 150, .p (.bin .add (T 145) (T 149)), none⟩,
  ⟨some 151, .p (.mov (T 13)), none⟩,
  ⟨some 152, .p (.bin .add (T 150) (T 151)), none⟩,
  ⟨some 153, .p (.iaddrA 64 1 (T 9) (T 139)), none⟩,
  ⟨none, .e (.store 1 (T 153) (T 152)), none⟩]
def xq205_23 : List XO := xq205_23l
theorem xq205_23e : E3 xq205_23 xq205_23l := E3.rfl
abbrev xq205_24l : List XO := [
  ⟨some 66, .p (.mov (T 10)), none⟩,
  ⟨some 67, .p (.bin .add (T 66) (C (.int .i64 1))), none⟩,
  ⟨some 10, .p (.mov (T 67)), none⟩]
def xq205_24 : List XO := xq205_24l
theorem xq205_24e : E3 xq205_24 xq205_24l := E3.rfl
def xq205_25b : XC :=
  .seq (.seq (.ops xq205_17) (.cond (T 65) (.skip) (.exit 6))) (.seq (.block 7 (.seq (.seq (.ops xq205_18) (.cond (T 69) (.seq (.ops xq205_19) (.seq (.draw xq205_20 []) (.exit 7))) (.skip))) (.seq (.draw xq205_21 [(8, (4, [])), (14, (4, [])), (14, (9, []))]) (.seq (.draw xq205_22 [(8, (4, [])), (14, (4, [])), (14, (9, []))]) (.draw xq205_23 []))))) (.ops xq205_24))
def xq205_25 : XC := xq205_25b
theorem xq205_25k {pr : Prog} {k : List KI} {Q : XE → Fr → Heap → Prop} {t : Fr} {h : Heap} (hw : wpk pr xq205_25b k Q t h) : wpk pr xq205_25 k Q t h := hw
abbrev xq205_26l : List XO := [
  ⟨some 154, .r (.loadN 8 (T 4)), none⟩,
  ⟨some 14, .a (.alloc (List.replicate 8 (.int .u32 0))), none⟩,
  ⟨none, .e (.store 8 (T 14) (T 154)), none⟩]
def xq205_26 : List XO := xq205_26l
theorem xq205_26e : E3 xq205_26 xq205_26l := E3.rfl
abbrev xq205_27l : List XO := [
  ⟨some 15, .p (.mov (C (.int .i64 0))), none⟩]
def xq205_27 : List XO := xq205_27l
theorem xq205_27e : E3 xq205_27 xq205_27l := E3.rfl
abbrev xq205_28l : List XO := [
  ⟨some 155, .p (.mov (T 15)), none⟩,
  ⟨some 156, .p (.bin .lss (T 155) (C (.int .i64 64))), none⟩]
def xq205_28 : List XO := xq205_28l
theorem xq205_28e : E3 xq205_28 xq205_28l := E3.rfl
abbrev xq205_29l : List XO := [
  ⟨some 159, .p (.iaddrA 8 1 (T 14) (C (.int .i64 4))), none⟩,
  ⟨some 160, .r (.load1 (T 159)), none⟩,
  ⟨some 161, .call (.func 235) [(T 160), (C (.int .u64 6))], none⟩,
  ⟨some 162, .p (.iaddrA 8 1 (T 14) (C (.int .i64 4))), none⟩,
  ⟨some 163, .r (.load1 (T 162)), none⟩,
  ⟨some 164, .call (.func 235) [(T 163), (C (.int .u64 11))], none⟩,
  ⟨some 165, .p (.bin .xor (T 161) (T 164)), none⟩,
  ⟨some 166, .p (.iaddrA 8 1 (T 14) (C (.int .i64 4))), none⟩,
  ⟨some 167, .r (.load1 (T 166)), none⟩,
  ⟨some 168, .call (.func 235) [(T 167), (C (.int .u64 25))], none⟩,
  ⟨some 169, .p (.bin .xor (T 165) (T 168)), none⟩,
  ⟨some 16, .p (.mov (T 169)), none⟩]
def xq205_29 : List XO := xq205_29l
theorem xq205_29e : E3 xq205_29 xq205_29l := E3.rfl
abbrev xq205_30l : List XO := [
  ⟨some 170, .p (.iaddrA 8 1 (T 14) (C (.int .i64 7))), none⟩,
  ⟨some 171, .r (.load1 (T 170)), none⟩,
  ⟨some 172, .p (.mov (T 16)), none⟩,
  ⟨some 173, .p (.bin .add (T 171) (T 172)), none⟩,
  ⟨some 174, .p (.iaddrA 8 1 (T 14) (C (.int .i64 4))), none⟩,
  ⟨some 175, .r (.load1 (T 174)), none⟩,
  ⟨some 176, .p (.iaddrA 8 1 (T 14) (C (.int .i64 5))), none⟩,
  ⟨some 177, .r (.load1 (T 176)), none⟩,
  ⟨some 178, .p (.bin .and (T 175) (T 177)), none⟩,
  ⟨some 179, .p (.iaddrA 8 1 (T 14) (C (.int .i64 4))), none⟩,
  ⟨some 180, .r (.load1 (T 179)), none⟩,
  ⟨some 181, .p (.bin .sub (C (.int .u32 4294967295)) (T 180)), none⟩,
  ⟨some 182, .p (.iaddrA 8 1 (T 14) (C (.int .i64 6))), none⟩,
  ⟨some 183, .r (.load1 (T 182)), none⟩,
  ⟨some 184, .p (.bin .and (T 181) (T 183)), none⟩,
  ⟨some 185, .p (.bin .xor (T 178) (T 184)), none⟩,
  ⟨some 186, .p (.bin .add (T 173) (T 185)), none⟩,
  ⟨some 187, .p (.mov (T 15)), none⟩,
  ⟨some 188, .p (.iaddrA 64 1 (T 3) (T 187)), none⟩,
  ⟨some 189, .r (.load1 (T 188)), none⟩,
  ⟨some 190, .p (.bin .add (T 186) (T 189)), none⟩,
  ⟨some 191, .p (.mov (T 15)), none⟩,
  ⟨some 192, .p (.iaddrA 64 1 (T 9) (T 191)), none⟩,
  ⟨some 193, .r (.load1 (T 192)), none⟩,
  ⟨some 194, .p (.bin .add (T 190) (T 193)), none⟩,
  ⟨some 17, .p (.mov (T 194)), none⟩]
def xq205_30 : List XO := xq205_30l
theorem xq205_30e : E3 xq205_30 xq205_30l := E3.rfl
abbrev xq205_31l : List XO := [
  ⟨some 195, .p (.iaddrA 8 1 (T 14) (C (.int .i64 0))), none⟩,
  ⟨some 196, .r (.load1 (T 195)), none⟩,
  ⟨some 197, .call (.func 235) [(T 196), (C (.int .u64 2))], none⟩,
  ⟨some 198, .p (.iaddrA 8 1 (T 14) (C (.int .i64 0))), none⟩,
  ⟨some 199, .r (.load1 (T 198)), none⟩,
  ⟨some 200, .call (.func 235) [(T 199), (C (.int .u64 13))], none⟩,
  ⟨some 201, .p (.bin .xor (T 197) (T 200)), none⟩,
  ⟨some 202, .p (.iaddrA 8 1 (T 14) (C (.int .i64 0))), none⟩,
  ⟨some 203, .r (.load1 (T 202)), none⟩,
  ⟨some 204, .call (.func 235) [(T 203), (C (.int .u64 22))], none⟩,
  ⟨some 205, .p (.bin .xor (T 201) (T 204)), none⟩,
  ⟨some 18, .p (.mov (T 205)), none⟩]
def xq205_31 : List XO := xq205_31l
theorem xq205_31e : E3 xq205_31 xq205_31l := E3.rfl
abbrev xq205_32l : List XO := [
  ⟨some 206, .p (.mov (T 18)), none⟩,
  ⟨some 207, .p (.iaddrA 8 1 (T 14) (C (.int .i64 0))), none⟩,
  ⟨some 208, .r (.load1 (T 207)), none⟩,
  ⟨some 209, .p (.iaddrA 8 1 (T 14) (C (.int .i64 1))), none⟩,
  ⟨some 210, .r (.load1 (T 209)), none⟩,
  ⟨some 211, .p (.bin .and (T 208) (T 210)), none⟩,
  ⟨some 212, .p (.iaddrA 8 1 (T 14) (C (.int .i64 0))), none⟩,
  ⟨some 213, .r (.load1 (T 212)), none⟩,
  ⟨some 214, .p (.iaddrA 8 1 (T 14) (C (.int .i64 2))), none⟩,
  ⟨some 215, .r (.load1 (T 214)), none⟩,
  ⟨some 216, .p (.bin .and (T 213) (T 215)), none⟩,
  ⟨some 217, .p (.bin .xor (T 211) (T 216)), none⟩,
  ⟨some 218, .p (.iaddrA 8 1 (T 14) (C (.int .i64 1))), none⟩,
  ⟨some 219, .r (.load1 (T 218)), none⟩,
  ⟨some 220, .p (.iaddrA 8 1 (T 14) (C (.int .i64 2))), none⟩,
  ⟨some 221, .r (.load1 (T 220)), none⟩,
  ⟨some 222, .p (.bin .and (T 219) (T 221)), none⟩,
  ⟨some 223, .p (.bin .xor (T 217) (T 222)), none⟩,
  ⟨some 224, .p (.bin .add (T 206) (T 223)), none⟩,
  ⟨some 19, .p (.mov (T 224)), none⟩]
def xq205_32 : List XO := xq205_32l
theorem xq205_32e : E3 xq205_32 xq205_32l := E3.rfl
abbrev xq205_33l : List XO := [
  ⟨some 20, .p (.mov (C (.int .i64 7))), none⟩]
def xq205_33 : List XO := xq205_33l
theorem xq205_33e : E3 xq205_33 xq205_33l := E3.rfl
abbrev xq205_34l : List XO := [
  ⟨some 225, .p (.mov (T 20)), none⟩,
  ⟨some 226, .p (.bin .gtr (T 225) (C (.int .i64 0))), none⟩]
def xq205_34 : List XO := xq205_34l
theorem xq205_34e : E3 xq205_34 xq205_34l := E3.rfl
abbrev xq205_35l : List XO := [
  ⟨some 229, .p (.mov (T 20)), none⟩,
  ⟨some 230, .p (.mov (T 20)), none⟩,
  ⟨some 231, .p (.bin .sub (T 230) (C (.int .i64 1))), none⟩,
  ⟨some 232, .p (.iaddrA 8 1 (T 14) (T 231)), none⟩,
  ⟨some 233, .r (.load1 (T 232)), none⟩,
  ⟨some 234, .p (.iaddrA 8 1 (T 14) (T 229)), none⟩,
  ⟨none, .e (.store 1 (T 234) (T 233)), none⟩]
def xq205_35 : List XO := xq205_35l
theorem xq205_35e : E3 xq205_35 xq205_35l := E3.rfl
abbrev xq205_36l : List XO := [
  ⟨some 227, .p (.mov (T 20)), none⟩,
  ⟨some 228, .p (.bin .sub (T 227) (C (.int .i64 1))), none⟩,
  ⟨some 20, .p (.mov (T 228)), none⟩]
def xq205_36 : List XO := xq205_36l
theorem xq205_36e : E3 xq205_36 xq205_36l := E3.rfl
def xq205_37b : XC :=
  .seq (.seq (.ops xq205_34) (.cond (T 226) (.skip) (.exit 10))) (.seq (.block 11 (.ops xq205_35)) (.ops xq205_36))
def xq205_37 : XC := xq205_37b
theorem xq205_37k {pr : Prog} {k : List KI} {Q : XE → Fr → Heap → Prop} {t : Fr} {h : Heap} (hw : wpk pr xq205_37b k Q t h) : wpk pr xq205_37 k Q t h := hw
abbrev xq205_38l : List XO := [
  ⟨some 235, .p (.iaddrA 8 1 (T 14) (C (.int .i64 4))), none⟩,
  ⟨some 236, .r (.load1 (T 235)), none⟩,
  ⟨some 237, .p (.mov (T 17)), none⟩,
  ⟨some 238, .p (.bin .add (T 236) (T 237)), none⟩,
  ⟨some 239, .p (.iaddrA 8 1 (T 14) (C (.int .i64 4))), none⟩,
  ⟨none, .e (.store 1 (T 239) (T 238)), none⟩]
def xq205_38 : List XO := xq205_38l
theorem xq205_38e : E3 xq205_38 xq205_38l := E3.rfl
abbrev xq205_39l : List XO := [
  ⟨some 240, .p (.mov (T 17)), none⟩,
  ⟨some 241, .p (.mov (T 19)), none⟩,
  ⟨some 242, .p (.bin .add (T 240) (T 241)), none⟩,
  ⟨some 243, .p (.iaddrA 8 1 (T 14) (C (.int .i64 0))), none⟩,
  ⟨none, .e (.store 1 (T 243) (T 242)), none⟩]
def xq205_39 : List XO := xq205_39l
theorem xq205_39e : E3 xq205_39 xq205_39l := E3.rfl
abbrev xq205_40l : List XO := [
  ⟨some 157, .p (.mov (T 15)), none⟩,
  ⟨some 158, .p (.bin .add (T 157) (C (.int .i64 1))), none⟩,
  ⟨some 15, .p (.mov (T 158)), none⟩]
def xq205_40 : List XO := xq205_40l
theorem xq205_40e : E3 xq205_40 xq205_40l := E3.rfl
def xq205_41b : XC :=
  .seq (.seq (.ops xq205_28) (.cond (T 156) (.skip) (.exit 8))) (.seq (.block 9 (.seq (.draw xq205_29 [(4, (2, [])), (8, (2, [])), (8, (5, []))]) (.seq (.draw xq205_30 []) (.seq (.draw xq205_31 [(4, (2, [])), (8, (2, [])), (8, (5, []))]) (.seq (.ops xq205_32) (.seq (.seq (.ops xq205_33) (.block 10 (.loop xq205_37))) (.seq (.ops xq205_38) (.ops xq205_39)))))))) (.ops xq205_40))
def xq205_41 : XC := xq205_41b
theorem xq205_41k {pr : Prog} {k : List KI} {Q : XE → Fr → Heap → Prop} {t : Fr} {h : Heap} (hw : wpk pr xq205_41b k Q t h) : wpk pr xq205_41 k Q t h := hw
abbrev xq205_42l : List XO := [
  ⟨some 21, .p (.mov (C (.int .i64 0))), none⟩]
def xq205_42 : List XO := xq205_42l
theorem xq205_42e : E3 xq205_42 xq205_42l := E3.rfl
abbrev xq205_43l : List XO := [
  ⟨some 244, .p (.mov (T 21)), none⟩,
  ⟨some 245, .p (.bin .lss (T 244) (C (.int .i64 8))), none⟩]
def xq205_43 : List XO := xq205_43l
theorem xq205_43e : E3 xq205_43 xq205_43l := E3.rfl
abbrev xq205_44l : List XO := [
  ⟨some 248, .p (.mov (T 21)), none⟩,
  ⟨some 249, .p (.iaddrA 8 1 (T 4) (T 248)), none⟩,
  ⟨some 250, .r (.load1 (T 249)), none⟩,
  ⟨some 251, .p (.mov (T 21)), none⟩,
  ⟨some 252, .p (.iaddrA 8 1 (T 14) (T 251)), none⟩,
  ⟨some 253, .r (.load1 (T 252)), none⟩,
  ⟨some 254, .p (.bin .add (T 250) (T 253)), none⟩,
  ⟨some 255, .p (.iaddrA 8 1 (T 4) (T 248)), none⟩,
  ⟨none, .e (.store 1 (T 255) (T 254)), none⟩]
def xq205_44 : List XO := xq205_44l
theorem xq205_44e : E3 xq205_44 xq205_44l := E3.rfl
abbrev xq205_45l : List XO := [
  ⟨some 246, .p (.mov (T 21)), none⟩,
  ⟨some 247, .p (.bin .add (T 246) (C (.int .i64 1))), none⟩,
  ⟨some 21, .p (.mov (T 247)), none⟩]
def xq205_45 : List XO := xq205_45l
theorem xq205_45e : E3 xq205_45 xq205_45l := E3.rfl
def xq205_46b : XC :=
  .seq (.seq (.ops xq205_43) (.cond (T 245) (.skip) (.exit 12))) (.seq (.block 13 (.draw xq205_44 [])) (.ops xq205_45))
def xq205_46 : XC := xq205_46b
theorem xq205_46k {pr : Prog} {k : List KI} {Q : XE → Fr → Heap → Prop} {t : Fr} {h : Heap} (hw : wpk pr xq205_46b k Q t h) : wpk pr xq205_46 k Q t h := hw
abbrev xq205_47l : List XO := [
  ⟨some 61, .p (.mov (T 8)), none⟩,
  ⟨some 62, .p (.bin .add (T 61) (C (.int .i64 64))), none⟩,
  ⟨some 8, .p (.mov (T 62)), none⟩]
def xq205_47 : List XO := xq205_47l
theorem xq205_47e : E3 xq205_47 xq205_47l := E3.rfl
def xq205_48b : XC :=
  .seq (.seq (.ops xq205_14) (.cond (T 60) (.skip) (.exit 4))) (.seq (.block 5 (.seq (.ops xq205_15) (.seq (.seq (.ops xq205_16) (.block 6 (.loop xq205_25))) (.seq (.ops xq205_26) (.seq (.seq (.ops xq205_27) (.block 8 (.loop xq205_41))) (.seq (.ops xq205_42) (.block 12 (.loop xq205_46)))))))) (.ops xq205_47))
def xq205_48 : XC := xq205_48b
theorem xq205_48k {pr : Prog} {k : List KI} {Q : XE → Fr → Heap → Prop} {t : Fr} {h : Heap} (hw : wpk pr xq205_48b k Q t h) : wpk pr xq205_48 k Q t h := hw
abbrev xq205_49l : List XO := [
  ⟨some 256, .a (.bslice [] 0 []), none⟩,
  ⟨some 22, .p (.mov (T 256)), none⟩]
def xq205_49 : List XO := xq205_49l
theorem xq205_49e : E3 xq205_49 xq205_49l := E3.rfl
abbrev xq205_50l : List XO := [
  ⟨some 23, .p (.mov (C (.int .i64 0))), none⟩]
def xq205_50 : List XO := xq205_50l
theorem xq205_50e : E3 xq205_50 xq205_50l := E3.rfl
abbrev xq205_51l : List XO := [
  ⟨some 257, .p (.mov (T 23)), none⟩,
  ⟨some 258, .p (.bin .lss (T 257) (C (.int .i64 8))), none⟩]
def xq205_51 : List XO := xq205_51l
theorem xq205_51e : E3 xq205_51 xq205_51l := E3.rfl
abbrev xq205_52l : List XO := [
  ⟨some 261, .p (.mov (T 22)), none⟩,
  ⟨some 262, .p (.mov (T 23)), none⟩,
  ⟨some 263, .p (.iaddrA 8 1 (T 4) (T 262)), none⟩,
  ⟨some 264, .r (.load1 (T 263)), none⟩,
  ⟨some 265, .p (.bin .shr (T 264) (C (.int .u64 24))), none⟩,
  ⟨some 266, .p (.cint .u8 (T 265)), none⟩,
  ⟨some 267, .p (.mov (T 23)), none⟩,
  ⟨some 268, .p (.iaddrA 8 1 (T 4) (T 267)), none⟩,
  ⟨some 269, .r (.load1 (T 268)), none⟩,
  ⟨some 270, .p (.bin .shr (T 269) (C (.int .u64 16))), none⟩,
  ⟨some 271, .p (.cint .u8 (T 270)), none⟩,
  ⟨some 272, .p (.mov (T 23)), none⟩,
  ⟨some 273, .p (.iaddrA 8 1 (T 4) (T 272)), none⟩,
  ⟨some 274, .r (.load1 (T 273)), none⟩,
  ⟨some 275, .p (.bin .shr (T 274) (C (.int .u64 8))), none⟩,
  ⟨some 276, .p (.cint .u8 (T 275)), none⟩,
  ⟨some 277, .p (.mov (T 23)), none⟩,
  ⟨some 278, .p (.iaddrA 8 1 (T 4) (T 277)), none⟩,
  ⟨some 279, .r (.load1 (T 278)), none⟩,
  ⟨some 280, .p (.cint .u8 (T 279)), none⟩,
  ⟨some 281, .a (.bslice (List.replicate 4 (.int .u8 0)) 4 [(0, 1, (T 266)), (1, 1, (T 271)), (2, 1, (T 276)), (3, 1, (T 280))]), none⟩,
  ⟨some 282, .e (.append 1 1 (T 261) (T 281)), none⟩,
  ⟨some 22, .p (.mov (T 282)), none⟩]
def xq205_52 : List XO := xq205_52l
theorem xq205_52e : E3 xq205_52 xq205_52l := E3.rfl
abbrev xq205_53l : List XO := [
  ⟨some 259, .p (.mov (T 23)), none⟩,
  ⟨some 260, .p (.bin .add (T 259) (C (.int .i64 1))), none⟩,
  ⟨some 23, .p (.mov (T 260)), none⟩]
def xq205_53 : List XO := xq205_53l
theorem xq205_53e : E3 xq205_53 xq205_53l := E3.rfl
def xq205_54b : XC :=
  .seq (.seq (.ops xq205_51) (.cond (T 258) (.skip) (.exit 14))) (.seq (.block 15 (.draw xq205_52 [(3, (21, [])), (8, (21, [])), (13, (21, [])), (18, (21, []))])) (.ops xq205_53))
def xq205_54 : XC := xq205_54b
theorem xq205_54k {pr : Prog} {k : List KI} {Q : XE → Fr → Heap → Prop} {t : Fr} {h : Heap} (hw : wpk pr xq205_54b k Q t h) : wpk pr xq205_54 k Q t h := hw
abbrev xq205_55l : List XO := [
  ⟨some 283, .p (.mov (T 22)), none⟩,
  ⟨some 284, .r (.cb2s (T 283)), none⟩,
  ⟨some 2, .p (.mov (T 284)), none⟩]
def xq205_55 : List XO := xq205_55l
theorem xq205_55e : E3 xq205_55 xq205_55l := E3.rfl
def xq205 : XF := ⟨1, [.tmp 2],
  .seq (.ops xq205_0) (.seq (.ops xq205_1) (.seq (.ops xq205_2) (.seq (.ops xq205_3) (.seq (.block 0 (.loop xq205_6)) (.seq (.ops xq205_7) (.seq (.seq (.ops xq205_8) (.block 2 (.loop xq205_12))) (.seq (.seq (.ops xq205_13) (.block 4 (.loop xq205_48))) (.seq (.ops xq205_49) (.seq (.seq (.ops xq205_50) (.block 14 (.loop xq205_54))) (.seq (.ops xq205_55) (.ret)))))))))))⟩
def yq205 := PLift.up (And.intro (And.intro (And.intro (And.intro (And.intro (@xq205_0e) (And.intro (@xq205_1e) (@xq205_2e))) (And.intro (@xq205_3e) (And.intro (@xq205_4e) (@xq205_5e)))) (And.intro (And.intro (@xq205_7e) (And.intro (@xq205_8e) (@xq205_9e))) (And.intro (@xq205_10e) (And.intro (@xq205_11e) (@xq205_13e))))) (And.intro (And.intro (And.intro (@xq205_14e) (And.intro (@xq205_15e) (@xq205_16e))) (And.intro (@xq205_17e) (And.intro (@xq205_18e) (@xq205_19e)))) (And.intro (And.intro (@xq205_20e) (And.intro (@xq205_21e) (@xq205_22e))) (And.intro (@xq205_23e) (And.intro (@xq205_24e) (@xq205_26e)))))) (And.intro (And.intro (And.intro (And.intro (@xq205_27e) (And.intro (@xq205_28e) (@xq205_29e))) (And.intro (@xq205_30e) (And.intro (@xq205_31e) (@xq205_32e)))) (And.intro (And.intro (@xq205_33e) (And.intro (@xq205_34e) (@xq205_35e))) (And.intro (@xq205_36e) (And.intro (@xq205_38e) (@xq205_39e))))) (And.intro (And.intro (And.intro (@xq205_40e) (And.intro (@xq205_42e) (@xq205_43e))) (And.intro (@xq205_44e) (And.intro (@xq205_45e) (@xq205_47e)))) (And.intro (And.intro (@xq205_49e) (And.intro (@xq205_50e) (@xq205_51e))) (And.intro (@xq205_52e) (And.intro (@xq205_53e) (@xq205_55e)))))))
theorem cq205 : zj Tryz.prog Tryz.f205 = some xq205 := by kernel_rfl
abbrev xq250_0l : List XO := [
  ⟨some 4, .p (.mov (C (.string (strOf [])))), none⟩]
def xq250_0 : List XO := xq250_0l
theorem xq250_0e : E3 xq250_0 xq250_0l := E3.rfl
abbrev xq250_1l : List XO := [
  ⟨some 7, .p (.mov (T 0)), none⟩,
  ⟨some 8, .p (.lenS (T 7)), none⟩,
  ⟨some 9, .p (.bin .gtr (T 8) (C (.int .i64 64))), none⟩]
def xq250_1 : List XO := xq250_1l
theorem xq250_1e : E3 xq250_1 xq250_1l := E3.rfl
abbrev xq250_2l : List XO := [
  ⟨some 10, .p (.mov (T 0)), none⟩,
  ⟨some 11, .call (.func 156) [(T 10)], none⟩,
  ⟨some 0, .p (.mov (T 11)), none⟩]
def xq250_2 : List XO := xq250_2l
theorem xq250_2e : E3 xq250_2 xq250_2l := E3.rfl
abbrev xq250_3l : List XO := [
  ⟨some 12, .p (.mov (T 0)), none⟩,
  ⟨some 13, .p (.mov (T 0)), none⟩,
  ⟨some 14, .p (.lenS (T 13)), none⟩,
  ⟨some 15, .p (.bin .sub (C (.int .i64 64)) (T 14)), none⟩,
  ⟨some 16, .call (.func 264) [(C (.string (strOf [0]))), (T 15)], none⟩,
  ⟨some 17, .p (.bin .add (T 12) (T 16)), none⟩,
  ⟨some 18, .a (.cs2b (T 17)), none⟩,
  ⟨some 5, .p (.mov (T 18)), none⟩]
def xq250_3 : List XO := xq250_3l
theorem xq250_3e : E3 xq250_3 xq250_3l := E3.rfl
abbrev xq250_4l : List XO := [
  ⟨some 19, .p (.mov (T 5)), none⟩,
  ⟨some 20, .p (.lenV (T 19)), none⟩,
  ⟨some 21, .p (.mov (C (.int .i64 0))), none⟩]
def xq250_4 : List XO := xq250_4l
theorem xq250_4e : E3 xq250_4 xq250_4l := E3.rfl
abbrev xq250_5l : List XO := [
  ⟨some 22, .p (.bin .lss (T 21) (T 20)), none⟩]
def xq250_5 : List XO := xq250_5l
theorem xq250_5e : E3 xq250_5 xq250_5l := E3.rfl
abbrev xq250_6l : List XO := [
  ⟨some 23, .p (.mov (T 21)), none⟩,
  ⟨some 6, .p (.mov (T 23)), none⟩]
def xq250_6 : List XO := xq250_6l
theorem xq250_6e : E3 xq250_6 xq250_6l := E3.rfl
abbrev xq250_7l : List XO := [
  ⟨some 24, .p (.mov (T 5)), none⟩,
  ⟨some 25, .p (.mov (T 6)), none⟩,
  ⟨some 26, .p (.iaddrS 1 (T 24) (T 25)), none⟩,
  ⟨some 27, .r (.load1 (T 26)), none⟩,
  ⟨some 28, .p (.mov (T 1)), none⟩,
  ⟨some 29, .p (.bin .xor (T 27) (T 28)), none⟩,
  ⟨some 30, .p (.iaddrS 1 (T 24) (T 25)), none⟩,
  ⟨none, .e (.store 1 (T 30) (T 29)), none⟩]
def xq250_7 : List XO := xq250_7l
theorem xq250_7e : E3 xq250_7 xq250_7l := E3.rfl
abbrev xq250_8l : List XO := [
  ⟨some 31, .p (.bin .add (T 21) (C (.int .i64 1))), none⟩,
  ⟨some 21, .p (.mov (T 31)), none⟩]
def xq250_8 : List XO := xq250_8l
theorem xq250_8e : E3 xq250_8 xq250_8l := E3.rfl
def xq250_9b : XC :=
  .seq (.ops xq250_5) (.seq (.cond (T 22) (.skip) (.exit 0)) (.seq (.block 1 (.seq (.ops xq250_6) (.ops xq250_7))) (.ops xq250_8)))
def xq250_9 : XC := xq250_9b
theorem xq250_9k {pr : Prog} {k : List KI} {Q : XE → Fr → Heap → Prop} {t : Fr} {h : Heap} (hw : wpk pr xq250_9b k Q t h) : wpk pr xq250_9 k Q t h := hw
abbrev xq250_10l : List XO := [
  ⟨some 32, .p (.mov (T 5)), none⟩,
  ⟨some 33, .r (.cb2s (T 32)), none⟩,
  ⟨some 4, .p (.mov (T 33)), none⟩]
def xq250_10 : List XO := xq250_10l
theorem xq250_10e : E3 xq250_10 xq250_10l := E3.rfl
def xq250 : XF := ⟨2, [.tmp 4],
  .seq (.ops xq250_0) (.seq (.seq (.ops xq250_1) (.cond (T 9) (.ops xq250_2) (.skip))) (.seq (.ops xq250_3) (.seq (.seq (.ops xq250_4) (.block 0 (.loop xq250_9))) (.seq (.ops xq250_10) (.ret)))))⟩
def yq250 := PLift.up (And.intro (And.intro (And.intro (@xq250_0e) (@xq250_1e)) (And.intro (@xq250_2e) (And.intro (@xq250_3e) (@xq250_4e)))) (And.intro (And.intro (@xq250_5e) (@xq250_6e)) (And.intro (@xq250_7e) (And.intro (@xq250_8e) (@xq250_10e)))))
theorem cq250 : zj Tryz.prog Tryz.f250 = some xq250 := by kernel_rfl
abbrev xq216_0l : List XO := [
  ⟨some 4, .p (.mov (C (.string (strOf [])))), none⟩]
def xq216_0 : List XO := xq216_0l
theorem xq216_0e : E3 xq216_0 xq216_0l := E3.rfl
abbrev xq216_1l : List XO := [
  ⟨some 5, .p (.mov (T 0)), none⟩,
  ⟨some 6, .call (.func 250) [(T 5), (C (.int .u8 92))], none⟩,
  ⟨some 7, .p (.mov (T 0)), none⟩,
  ⟨some 8, .call (.func 250) [(T 7), (C (.int .u8 54))], none⟩,
  ⟨some 9, .p (.mov (T 1)), none⟩,
  ⟨some 10, .p (.bin .add (T 8) (T 9)), none⟩,
  ⟨some 11, .call (.func 156) [(T 10)], none⟩,
  ⟨some 12, .p (.bin .add (T 6) (T 11)), none⟩,
  ⟨some 13, .call (.func 156) [(T 12)], none⟩,
  ⟨some 4, .p (.mov (T 13)), none⟩]
def xq216_1 : List XO := xq216_1l
theorem xq216_1e : E3 xq216_1 xq216_1l := E3.rfl
def xq216 : XF := ⟨2, [.tmp 4],
  .seq (.ops xq216_0) (.seq (.ops xq216_1) (.ret))⟩
def yq216 := PLift.up (And.intro (@xq216_0e) (@xq216_1e))
theorem cq216 : zj Tryz.prog Tryz.f216 = some xq216 := by kernel_rfl
abbrev xq222_0l : List XO := [
  ⟨some 6, .p (.mov (C (.bool false))), none⟩]
def xq222_0 : List XO := xq222_0l
theorem xq222_0e : E3 xq222_0 xq222_0l := E3.rfl
abbrev xq222_1l : List XO := [
  ⟨some 7, .p (.mov (T 0)), none⟩,
  ⟨some 8, .p (.mov (T 1)), none⟩,
  ⟨some 9, .call (.func 216) [(T 7), (T 8)], none⟩,
  ⟨some 10, .p (.mov (T 2)), none⟩,
  ⟨some 11, .call (.func 183) [(T 9), (T 10)], none⟩,
  ⟨some 6, .p (.mov (T 11)), none⟩]
def xq222_1 : List XO := xq222_1l
theorem xq222_1e : E3 xq222_1 xq222_1l := E3.rfl
def xq222 : XF := ⟨3, [.tmp 6],
  .seq (.ops xq222_0) (.seq (.ops xq222_1) (.ret))⟩
def yq222 := PLift.up (And.intro (@xq222_0e) (@xq222_1e))
theorem cq222 : zj Tryz.prog Tryz.f222 = some xq222 := by kernel_rfl
abbrev xq183_0l : List XO := [
  ⟨some 4, .p (.mov (C (.bool false))), none⟩]
def xq183_0 : List XO := xq183_0l
theorem xq183_0e : E3 xq183_0 xq183_0l := E3.rfl
abbrev xq183_1l : List XO := [
  ⟨some 7, .p (.mov (T 0)), none⟩,
  ⟨some 8, .p (.lenS (T 7)), none⟩,
  ⟨some 9, .p (.mov (T 1)), none⟩,
  ⟨some 10, .p (.lenS (T 9)), none⟩,
  ⟨some 11, .p (.eql true .int (T 8) (T 10)), none⟩]
def xq183_1 : List XO := xq183_1l
theorem xq183_1e : E3 xq183_1 xq183_1l := E3.rfl
abbrev xq183_2l : List XO := [
  ⟨some 4, .p (.mov (C (.bool false))), none⟩]
def xq183_2 : List XO := xq183_2l
theorem xq183_2e : E3 xq183_2 xq183_2l := E3.rfl
abbrev xq183_3l : List XO := [
  ⟨some 5, .p (.mov (C (.int .u8 0))), none⟩]
def xq183_3 : List XO := xq183_3l
theorem xq183_3e : E3 xq183_3 xq183_3l := E3.rfl
abbrev xq183_4l : List XO := [
  ⟨some 12, .p (.mov (T 0)), none⟩,
  ⟨some 13, .p (.lenS (T 12)), none⟩,
  ⟨some 14, .p (.mov (C (.int .i64 0))), none⟩]
def xq183_4 : List XO := xq183_4l
theorem xq183_4e : E3 xq183_4 xq183_4l := E3.rfl
abbrev xq183_5l : List XO := [
  ⟨some 15, .p (.bin .lss (T 14) (T 13)), none⟩]
def xq183_5 : List XO := xq183_5l
theorem xq183_5e : E3 xq183_5 xq183_5l := E3.rfl
abbrev xq183_6l : List XO := [
  ⟨some 16, .p (.mov (T 14)), none⟩,
  ⟨some 6, .p (.mov (T 16)), none⟩]
def xq183_6 : List XO := xq183_6l
theorem xq183_6e : E3 xq183_6 xq183_6l := E3.rfl
abbrev xq183_7l : List XO := [
  ⟨some 17, .p (.mov (T 5)), none⟩,
  ⟨some 18, .p (.mov (T 0)), none⟩,
  ⟨some 19, .p (.mov (T 6)), none⟩,
  ⟨some 20, .p (.idxS (T 18) (T 19)), none⟩,
  ⟨some 21, .p (.mov (T 1)), none⟩,
  ⟨some 22, .p (.mov (T 6)), none⟩,
  ⟨some 23, .p (.idxS (T 21) (T 22)), none⟩,
  ⟨some 24, .p (.bin .xor (T 20) (T 23)), none⟩,
  ⟨some 25, .p (.bin .or (T 17) (T 24)), none⟩,
  ⟨some 5, .p (.mov (T 25)), none⟩]
def xq183_7 : List XO := xq183_7l
theorem xq183_7e : E3 xq183_7 xq183_7l := E3.rfl
abbrev xq183_8l : List XO := [
  ⟨some 26, .p (.bin .add (T 14) (C (.int .i64 1))), none⟩,
  ⟨some 14, .p (.mov (T 26)), none⟩]
def xq183_8 : List XO := xq183_8l
theorem xq183_8e : E3 xq183_8 xq183_8l := E3.rfl
def xq183_9b : XC :=
  .seq (.ops xq183_5) (.seq (.cond (T 15) (.skip) (.exit 0)) (.seq (.block 1 (.seq (.ops xq183_6) (.draw xq183_7 []))) (.ops xq183_8)))
def xq183_9 : XC := xq183_9b
theorem xq183_9k {pr : Prog} {k : List KI} {Q : XE → Fr → Heap → Prop} {t : Fr} {h : Heap} (hw : wpk pr xq183_9b k Q t h) : wpk pr xq183_9 k Q t h := hw
abbrev xq183_10l : List XO := [
  ⟨some 27, .p (.mov (T 5)), none⟩,
  ⟨some 28, .p (.eql false .int (T 27) (C (.int .u8 0))), none⟩,
  ⟨some 4, .p (.mov (T 28)), none⟩]
def xq183_10 : List XO := xq183_10l
theorem xq183_10e : E3 xq183_10 xq183_10l := E3.rfl
def xq183 : XF := ⟨2, [.tmp 4],
  .seq (.ops xq183_0) (.seq (.seq (.ops xq183_1) (.cond (T 11) (.seq (.ops xq183_2) (.ret)) (.skip))) (.seq (.ops xq183_3) (.seq (.seq (.ops xq183_4) (.block 0 (.loop xq183_9))) (.seq (.ops xq183_10) (.ret)))))⟩
def yq183 := PLift.up (And.intro (And.intro (And.intro (@xq183_0e) (@xq183_1e)) (And.intro (@xq183_2e) (And.intro (@xq183_3e) (@xq183_4e)))) (And.intro (And.intro (@xq183_5e) (@xq183_6e)) (And.intro (@xq183_7e) (And.intro (@xq183_8e) (@xq183_10e)))))
theorem cq183 : zj Tryz.prog Tryz.f183 = some xq183 := by kernel_rfl
end Go.X
end
section
namespace Go.X
open Go.Proofs
end Go.X
end
section
namespace Go.X
open Go.Proofs
abbrev xq174_0l : List XO := [
  ⟨some 2, .p (.mov (C (.string (strOf [])))), none⟩]
def xq174_0 : List XO := xq174_0l
theorem xq174_0e : E3 xq174_0 xq174_0l := E3.rfl
abbrev xq174_1l : List XO := [
  ⟨some 3, .p (.mov (T 0)), none⟩,
  ⟨some 4, .p (.bin .shr (T 3) (C (.int .u64 24))), none⟩,
  ⟨some 5, .p (.cint .u8 (T 4)), none⟩,
  ⟨some 6, .p (.mov (T 0)), none⟩,
  ⟨some 7, .p (.bin .shr (T 6) (C (.int .u64 16))), none⟩,
  ⟨some 8, .p (.cint .u8 (T 7)), none⟩,
  ⟨some 9, .p (.mov (T 0)), none⟩,
  ⟨some 10, .p (.bin .shr (T 9) (C (.int .u64 8))), none⟩,
  ⟨some 11, .p (.cint .u8 (T 10)), none⟩,
  ⟨some 12, .p (.mov (T 0)), none⟩,
  ⟨some 13, .p (.cint .u8 (T 12)), none⟩,
  ⟨some 14, .a (.bslice (List.replicate 4 (.int .u8 0)) 4 [(0, 1, (T 5)), (1, 1, (T 8)), (2, 1, (T 11)), (3, 1, (T 13))]), none⟩,
  ⟨some 15, .r (.cb2s (T 14)), none⟩,
  ⟨some 2, .p (.mov (T 15)), none⟩]
def xq174_1 : List XO := xq174_1l
theorem xq174_1e : E3 xq174_1 xq174_1l := E3.rfl
def xq174 : XF := ⟨1, [.tmp 2],
  .seq (.ops xq174_0) (.seq (.ops xq174_1) (.ret))⟩
def yq174 := PLift.up (And.intro (@xq174_0e) (@xq174_1e))
theorem cq174 : zj Tryz.prog Tryz.f174 = some xq174 := by kernel_rfl
abbrev xq129_0l : List XO := [
  ⟨some 4, .p (.mov (C (.string (strOf [])))), none⟩]
def xq129_0 : List XO := xq129_0l
theorem xq129_0e : E3 xq129_0 xq129_0l := E3.rfl
abbrev xq129_1l : List XO := [
  ⟨some 8, .call (.func 172) [], none⟩,
  ⟨some 5, .p (.mov (T 8)), none⟩]
def xq129_1 : List XO := xq129_1l
theorem xq129_1e : E3 xq129_1 xq129_1l := E3.rfl
abbrev xq129_2l : List XO := [
  ⟨some 9, .p (.mov (T 5)), none⟩,
  ⟨some 10, .p (.mov (T 0)), none⟩,
  ⟨some 11, .a (.bslice [(.int .u8 0)] 1 [(0, 1, (T 10))]), none⟩,
  ⟨some 12, .r (.cb2s (T 11)), none⟩,
  ⟨some 13, .call (.func 173) [(T 9), (T 12)], none⟩]
def xq129_2 : List XO := xq129_2l
theorem xq129_2e : E3 xq129_2 xq129_2l := E3.rfl
abbrev xq129_3l : List XO := [
  ⟨some 14, .p (.mov (T 1)), none⟩,
  ⟨some 15, .p (.lenV (T 14)), none⟩,
  ⟨some 16, .p (.mov (C (.int .i64 0))), none⟩]
def xq129_3 : List XO := xq129_3l
theorem xq129_3e : E3 xq129_3 xq129_3l := E3.rfl
abbrev xq129_4l : List XO := [
  ⟨some 17, .p (.bin .lss (T 16) (T 15)), none⟩]
def xq129_4 : List XO := xq129_4l
theorem xq129_4e : E3 xq129_4 xq129_4l := E3.rfl
abbrev xq129_5l : List XO := [
  ⟨some 18, .p (.iaddrS 1 (T 14) (T 16)), none⟩,
  ⟨some 19, .r (.load1 (T 18)), none⟩,
  ⟨some 7, .p (.mov (T 19)), none⟩]
def xq129_5 : List XO := xq129_5l
theorem xq129_5e : E3 xq129_5 xq129_5l := E3.rfl
abbrev xq129_6l : List XO := [
  ⟨some 20, .p (.mov (T 5)), none⟩,
  ⟨some 21, .p (.mov (T 7)), none⟩,
  ⟨some 22, .p (.lenS (T 21)), none⟩,
  ⟨some 23, .call (.func 174) [(T 22)], none⟩,
  ⟨some 24, .call (.func 173) [(T 20), (T 23)], none⟩]
def xq129_6 : List XO := xq129_6l
theorem xq129_6e : E3 xq129_6 xq129_6l := E3.rfl
abbrev xq129_7l : List XO := [
  ⟨some 25, .p (.mov (T 5)), none⟩,
  ⟨some 26, .p (.mov (T 7)), none⟩,
  ⟨some 27, .call (.func 173) [(T 25), (T 26)], none⟩]
def xq129_7 : List XO := xq129_7l
theorem xq129_7e : E3 xq129_7 xq129_7l := E3.rfl
abbrev xq129_8l : List XO := [
  ⟨some 28, .p (.bin .add (T 16) (C (.int .i64 1))), none⟩,
  ⟨some 16, .p (.mov (T 28)), none⟩]
def xq129_8 : List XO := xq129_8l
theorem xq129_8e : E3 xq129_8 xq129_8l := E3.rfl
def xq129_9b : XC :=
  .seq (.ops xq129_4) (.seq (.cond (T 17) (.skip) (.exit 0)) (.seq (.block 1 (.seq (.ops xq129_5) (.seq (.ops xq129_6) (.ops xq129_7)))) (.ops xq129_8)))
def xq129_9 : XC := xq129_9b
theorem xq129_9k {pr : Prog} {k : List KI} {Q : XE → Fr → Heap → Prop} {t : Fr} {h : Heap} (hw : wpk pr xq129_9b k Q t h) : wpk pr xq129_9 k Q t h := hw
abbrev xq129_10l : List XO := [
  ⟨some 29, .p (.mov (T 5)), none⟩,
  ⟨some 30, .call (.func 175) [(T 29)], none⟩,
  ⟨some 4, .p (.mov (T 30)), none⟩]
def xq129_10 : List XO := xq129_10l
theorem xq129_10e : E3 xq129_10 xq129_10l := E3.rfl
def xq129 : XF := ⟨2, [.tmp 4],
  .seq (.ops xq129_0) (.seq (.ops xq129_1) (.seq (.ops xq129_2) (.seq (.seq (.ops xq129_3) (.block 0 (.loop xq129_9))) (.seq (.ops xq129_10) (.ret)))))⟩
def yq129 := PLift.up (And.intro (And.intro (And.intro (@xq129_0e) (@xq129_1e)) (And.intro (@xq129_2e) (And.intro (@xq129_3e) (@xq129_4e)))) (And.intro (And.intro (@xq129_5e) (@xq129_6e)) (And.intro (@xq129_7e) (And.intro (@xq129_8e) (@xq129_10e)))))
theorem cq129 : zj Tryz.prog Tryz.f129 = some xq129 := by kernel_rfl
abbrev xq168_0l : List XO := [
  ⟨some 4, .p (.mov (C (.string (strOf [])))), none⟩]
def xq168_0 : List XO := xq168_0l
theorem xq168_0e : E3 xq168_0 xq168_0l := E3.rfl
abbrev xq168_1l : List XO := [
  ⟨some 8, .p (.mov (T 0)), none⟩,
  ⟨some 9, .a (.bslice [(.int .u8 0)] 1 [(0, 1, (T 8))]), none⟩,
  ⟨some 10, .r (.cb2s (T 9)), none⟩,
  ⟨some 5, .p (.mov (T 10)), none⟩]
def xq168_1 : List XO := xq168_1l
theorem xq168_1e : E3 xq168_1 xq168_1l := E3.rfl
abbrev xq168_2l : List XO := [
  ⟨some 6, .p (.mov (C (.int .i64 0))), none⟩]
def xq168_2 : List XO := xq168_2l
theorem xq168_2e : E3 xq168_2 xq168_2l := E3.rfl
abbrev xq168_3l : List XO := [
  ⟨some 11, .p (.mov (T 6)), none⟩,
  ⟨some 12, .p (.mov (T 1)), none⟩,
  ⟨some 13, .p (.lenV (T 12)), none⟩,
  ⟨some 14, .p (.bin .lss (T 11) (T 13)), none⟩]
def xq168_3 : List XO := xq168_3l
theorem xq168_3e : E3 xq168_3 xq168_3l := E3.rfl
abbrev xq168_4l : List XO := [
  ⟨some 17, .p (.mov (T 1)), none⟩,
  ⟨some 18, .p (.mov (T 6)), none⟩,
  ⟨some 19, .p (.iaddrS 1 (T 17) (T 18)), none⟩,
  ⟨some 20, .r (.load1 (T 19)), none⟩,
  ⟨some 21, .p (.lenS (T 20)), none⟩,
  ⟨some 7, .p (.mov (T 21)), none⟩]
def xq168_4 : List XO := xq168_4l
theorem xq168_4e : E3 xq168_4 xq168_4l := E3.rfl
abbrev xq168_5l : List XO := [
  ⟨some 22, .p (.mov (T 5)), none⟩,
  ⟨some 23, .p (.mov (T 7)), none⟩,
  ⟨some 24, .p (.bin .quo (T 23) (C (.int .i64 16777216))), none⟩,
  ⟨some 25, .p (.cint .u8 (T 24)), none⟩,
  ⟨some 26, .p (.mov (T 7)), none⟩,
  ⟨some 27, .p (.bin .quo (T 26) (C (.int .i64 65536))), none⟩,
  ⟨some 28, .p (.cint .u8 (T 27)), none⟩,
  ⟨some 29, .p (.mov (T 7)), none⟩,
  ⟨some 30, .p (.bin .quo (T 29) (C (.int .i64 256))), none⟩,
  ⟨some 31, .p (.cint .u8 (T 30)), none⟩,
  ⟨some 32, .p (.mov (T 7)), none⟩,
  ⟨some 33, .p (.cint .u8 (T 32)), none⟩,
  ⟨some 34, .a (.bslice (List.replicate 4 (.int .u8 0)) 4 [(0, 1, (T 25)), (1, 1, (T 28)), (2, 1, (T 31)), (3, 1, (T 33))]), none⟩,
  ⟨some 35, .r (.cb2s (T 34)), none⟩,
  ⟨some 36, .p (.mov (T 1)), none⟩,
  ⟨some 37, .p (.mov (T 6)), none⟩,
  ⟨some 38, .p (.iaddrS 1 (T 36) (T 37)), none⟩,
  ⟨some 39, .r (.load1 (T 38)), none⟩,
  ⟨some 40, .p (.bin .add (T 35) (T 39)), none⟩,
  ⟨some 41, .p (.bin .add (T 22) (T 40)), none⟩,
  ⟨some 5, .p (.mov (T 41)), none⟩]
def xq168_5 : List XO := xq168_5l
theorem xq168_5e : E3 xq168_5 xq168_5l := E3.rfl
abbrev xq168_6l : List XO := [
  ⟨some 15, .p (.mov (T 6)), none⟩,
  ⟨some 16, .p (.bin .add (T 15) (C (.int .i64 1))), none⟩,
  ⟨some 6, .p (.mov (T 16)), none⟩]
def xq168_6 : List XO := xq168_6l
theorem xq168_6e : E3 xq168_6 xq168_6l := E3.rfl
def xq168_7b : XC :=
  .seq (.seq (.ops xq168_3) (.cond (T 14) (.skip) (.exit 0))) (.seq (.block 1 (.seq (.ops xq168_4) (.draw xq168_5 []))) (.ops xq168_6))
def xq168_7 : XC := xq168_7b
theorem xq168_7k {pr : Prog} {k : List KI} {Q : XE → Fr → Heap → Prop} {t : Fr} {h : Heap} (hw : wpk pr xq168_7b k Q t h) : wpk pr xq168_7 k Q t h := hw
abbrev xq168_8l : List XO := [
  ⟨some 42, .p (.mov (T 5)), none⟩,
  ⟨some 43, .call (.func 205) [(T 42)], none⟩,
  ⟨some 4, .p (.mov (T 43)), none⟩]
def xq168_8 : List XO := xq168_8l
theorem xq168_8e : E3 xq168_8 xq168_8l := E3.rfl
def xq168 : XF := ⟨2, [.tmp 4],
  .seq (.ops xq168_0) (.seq (.ops xq168_1) (.seq (.seq (.ops xq168_2) (.block 0 (.loop xq168_7))) (.seq (.ops xq168_8) (.ret))))⟩
def yq168 := PLift.up (And.intro (And.intro (And.intro (@xq168_0e) (@xq168_1e)) (And.intro (@xq168_2e) (@xq168_3e))) (And.intro (And.intro (@xq168_4e) (@xq168_5e)) (And.intro (@xq168_6e) (@xq168_8e))))
theorem cq168 : zj Tryz.prog Tryz.f168 = some xq168 := by kernel_rfl
end Go.X
end
