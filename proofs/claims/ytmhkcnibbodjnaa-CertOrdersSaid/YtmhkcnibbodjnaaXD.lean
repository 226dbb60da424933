/- The digest in plain words; the functions of the seat as the interpreter has them, each held against the loaded program. -/
import Derived.Test.YtmhkcnibbodjnaaProg
import Derived.KernelRfl
import Derived.Test.YtmhkcnibbodjnaaXC
set_option linter.unusedSimpArgs false
set_option linter.unusedVariables false
set_option maxHeartbeats 2000000
section
namespace Go.X.Sha
def rotr (x n : Nat) : Nat := Nat.lor ((x % 4294967296) >>> n) ((x <<< (32 - n)) % 4294967296)
def s0 (x : Nat) : Nat := Nat.xor (Nat.xor (rotr x 7) (rotr x 18)) ((x % 4294967296) >>> 3)
def s1 (x : Nat) : Nat := Nat.xor (Nat.xor (rotr x 17) (rotr x 19)) ((x % 4294967296) >>> 10)
def e0 (x : Nat) : Nat := Nat.xor (Nat.xor (rotr x 2) (rotr x 13)) (rotr x 22)
def e1 (x : Nat) : Nat := Nat.xor (Nat.xor (rotr x 6) (rotr x 11)) (rotr x 25)
def ch (e f g : Nat) : Nat := Nat.xor (Nat.land e f) (Nat.land (4294967295 - e % 4294967296) g)
def maj (a b c : Nat) : Nat := Nat.xor (Nat.xor (Nat.land a b) (Nat.land a c)) (Nat.land b c)
def K : List Nat := [
0x428a2f98, 0x71374491, 0xb5c0fbcf, 0xe9b5dba5, 0x3956c25b, 0x59f111f1, 0x923f82a4, 0xab1c5ed5,
  0xd807aa98, 0x12835b01, 0x243185be, 0x550c7dc3, 0x72be5d74, 0x80deb1fe, 0x9bdc06a7, 0xc19bf174,
  0xe49b69c1, 0xefbe4786, 0x0fc19dc6, 0x240ca1cc, 0x2de92c6f, 0x4a7484aa, 0x5cb0a9dc, 0x76f988da,
  0x983e5152, 0xa831c66d, 0xb00327c8, 0xbf597fc7, 0xc6e00bf3, 0xd5a79147, 0x06ca6351, 0x14292967,
  0x27b70a85, 0x2e1b2138, 0x4d2c6dfc, 0x53380d13, 0x650a7354, 0x766a0abb, 0x81c2c92e, 0x92722c85,
  0xa2bfe8a1, 0xa81a664b, 0xc24b8b70, 0xc76c51a3, 0xd192e819, 0xd6990624, 0xf40e3585, 0x106aa070,
  0x19a4c116, 0x1e376c08, 0x2748774c, 0x34b0bcb5, 0x391c0cb3, 0x4ed8aa4a, 0x5b9cca4f, 0x682e6ff3,
  0x748f82ee, 0x78a5636f, 0x84c87814, 0x8cc70208, 0x90befffa, 0xa4506ceb, 0xbef9a3f7, 0xc67178f2]
def H0 : List Nat := [0x6a09e667, 0xbb67ae85, 0x3c6ef372, 0xa54ff53a, 0x510e527f, 0x9b05688c, 0x1f83d9ab, 0x5be0cd19]
def round (k w : Nat) : List Nat → List Nat
  | [a, b, c, d, e, f, g, h] =>
    let t := (h + e1 e + ch e f g + k + w) % 4294967296
    [(t + e0 a + maj a b c) % 4294967296, a, b, c, (d + t) % 4294967296, e, f, g]
  | l => l
def sched : Nat → List Nat → List Nat
  | 0, _ => []
  | n + 1, w => (w.getD 0 0) :: sched n (w.drop 1 ++ [(w.getD 0 0 + s0 (w.getD 1 0) + w.getD 9 0 + s1 (w.getD 14 0)) % 4294967296])
def rounds : List Nat → List Nat → List Nat → List Nat
  | k :: ks, w :: ws, v => rounds ks ws (round k w v)
  | _, _, v => v
def addAll : List Nat → List Nat → List Nat
  | a :: u, b :: bs => ((a + b) % 4294967296) :: addAll u bs
  | _, _ => []
def block (h w : List Nat) : List Nat := addAll h (rounds K (sched 64 w) h)
def words : List Nat → List Nat
  | a :: b :: c :: d :: r => (((a * 256 + b) * 256 + c) * 256 + d) :: words r
  | _ => []
def blocks : Nat → List Nat → List Nat → List Nat
  | 0, h, _ => h
  | n + 1, h, w => blocks n (block h (w.take 16)) (w.drop 16)
def lenBytes (n : Nat) : List Nat := [n / 72057594037927936 % 256, n / 281474976710656 % 256, n / 1099511627776 % 256, n / 4294967296 % 256, n / 16777216 % 256, n / 65536 % 256, n / 256 % 256, n % 256]
def pad (b : List Nat) : List Nat := b ++ 128 :: List.replicate ((119 - b.length % 64) % 64) 0 ++ lenBytes (b.length * 8 % 18446744073709551616)
def zKl : List Nat → List Nat
  | [] => []
  | x :: r => (x / 16777216 % 256) :: (x / 65536 % 256) :: (x / 256 % 256) :: (x % 256) :: zKl r
def shaN (b : List Nat) : List Nat := zKl (blocks ((pad b).length / 64) H0 (words (pad b)))
def sha (b : List UInt8) : List UInt8 := (shaN (b.map (·.toNat))).map UInt8.ofNat
end Go.X.Sha
end
section
namespace Go.X.Sha
def nxt (l : List Nat) : Nat := (l.getD (l.length - 16) 0 + s0 (l.getD (l.length - 15) 0) + l.getD (l.length - 7) 0 + s1 (l.getD (l.length - 2) 0)) % 4294967296
def ext : List Nat → Nat → List Nat
  | l, 0 => l
  | l, n + 1 => ext (l ++ [nxt l]) n
theorem ext_succ : ∀ (n : Nat) (l : List Nat), ext l (n + 1) = ext l n ++ [nxt (ext l n)]
  | 0, l => rfl
  | n + 1, l => by
    show ext (l ++ [nxt l]) (n + 1) = ext (l ++ [nxt l]) n ++ [nxt (ext (l ++ [nxt l]) n)]
    exact ext_succ n _
theorem ext_len : ∀ (n : Nat) (l : List Nat), (ext l n).length = l.length + n
  | 0, l => rfl
  | n + 1, l => by rw [ext_succ, List.length_append, ext_len n l]; rfl
theorem nxt_cons (a : Nat) (l : List Nat) (h : 16 ≤ l.length) : nxt (a :: l) = nxt l := by
  have e : ∀ j, j ≤ 16 → 1 ≤ j → (a :: l).getD ((a :: l).length - j) 0 = l.getD (l.length - j) 0 := fun j h1 h2 => by
    rw [show (a :: l).length - j = (l.length - j) + 1 by simp; omega]; rfl
  unfold nxt
  rw [e 16 (by omega) (by omega), e 15 (by omega) (by omega), e 7 (by omega) (by omega), e 2 (by omega) (by omega)]
theorem zJG : ∀ (n a : Nat) (l : List Nat), 16 ≤ l.length → ext (a :: l) n = a :: ext l n
  | 0, a, l, h => rfl
  | n + 1, a, l, h => by
    show ext (a :: l ++ [nxt (a :: l)]) n = a :: ext (l ++ [nxt l]) n
    rw [nxt_cons a l h, List.cons_append]
    exact zJG n a _ (by simp; omega)
theorem nxt_win (w : List Nat) (h : w.length = 16) : nxt w = (w.getD 0 0 + s0 (w.getD 1 0) + w.getD 9 0 + s1 (w.getD 14 0)) % 4294967296 := by
  unfold nxt; rw [h]
theorem zW2 : ∀ (n : Nat) (w : List Nat), w.length = 16 → n ≤ 16 → sched n w = w.take n := by
  have key : ∀ (n : Nat) (w : List Nat) (x : List Nat), w.length + x.length = 16 → n ≤ w.length → sched n (w ++ x) = w.take n := by
    intro n
    induction n with
    | zero => intro w x _ _; rfl
    | succ n ih =>
      intro w x h hn
      cases w with
      | nil => simp at hn
      | cons a w =>
        simp only [sched, List.cons_append, List.drop_succ_cons, List.drop_zero, List.take_succ_cons]
        rw [List.append_assoc, ih w _ (by simp at h ⊢; omega) (by simp at hn; omega)]
        rfl
  intro n w h hn
  have := key n w [] (by simpa using h) (by omega)
  simpa using this
theorem sched_ext : ∀ (m : Nat) (w : List Nat), w.length = 16 → sched (16 + m) w = ext w m
  | 0, w, h => by rw [zW2 16 w h (Nat.le_refl _)]; simp [ext, ← h]
  | m + 1, w, h => by
    cases w with
    | nil => simp at h
    | cons a w =>
      show sched ((16 + m) + 1) (a :: w) = ext (a :: w ++ [nxt (a :: w)]) m
      rw [List.cons_append, zJG m a _ (by simp at h ⊢; omega), nxt_win _ h]
      simp only [sched]
      rw [sched_ext m _ (by simp at h ⊢; omega)]
      rfl
end Go.X.Sha
end
section
namespace Go.X
def zDm (b : Nat → Nat) (i : Nat) : Nat := ((b (4 * i) * 256 + b (4 * i + 1)) * 256 + b (4 * i + 2)) * 256 + b (4 * i + 3)
def zAb (b : Nat → Nat) : List Nat := (List.range 16).map (zDm b)
theorem zBW (b : Nat → Nat) : (zAb b).length = 16 := by simp [zAb]
def winB (l : List UInt8) : List Nat := zAb fun j => (l.getD j 0).toNat
theorem zHP {l : List UInt8} {n : Nat} (hn : 64 ≤ n) : winB (l.take n) = winB l := by
  unfold winB zAb
  refine List.map_congr_left fun i hi => ?_
  have hi' : i < 16 := List.mem_range.1 hi
  have e : ∀ j, j < 64 → (l.take n).getD j 0 = l.getD j 0 := fun j hj => by
    simp only [List.getD_eq_getElem?_getD]
    rw [List.getElem?_take, if_pos (by omega)]
  unfold zDm
  dsimp only
  rw [e _ (by omega), e _ (by omega), e _ (by omega), e _ (by omega)]
def zl : Nat → List Nat → List UInt8 → List Nat
  | 0, h, _ => h
  | n + 1, h, b => zl n (Sha.block h (winB b)) (b.drop 64)
theorem zEk : ∀ (i : Nat) (h : List Nat) (b : List UInt8), zl (i + 1) h b = Sha.block (zl i h b) (winB (b.drop (64 * i)))
  | 0, h, b => by simp [zl]
  | i + 1, h, b => by
    rw [zl, zEk i]
    simp only [zl, List.drop_drop]
    rw [show 64 + 64 * i = 64 * (i + 1) by omega]
theorem zFi : ∀ (i j : Nat) (h : List Nat) (b : List UInt8), zl (i + j) h b = zl j (zl i h b) (b.drop (64 * i))
  | 0, j, h, b => by simp [zl]
  | i + 1, j, h, b => by
    rw [show i + 1 + j = (i + j) + 1 by omega]
    simp only [zl]
    rw [zFi i j, List.drop_drop, show 64 + 64 * i = 64 * (i + 1) by omega]
theorem zXQ {a b : List UInt8} (h : 64 ≤ a.length) : winB (a ++ b) = winB a := by
  rw [← zHP (l := a ++ b) h]
  simp
theorem zEj : ∀ (i : Nat) (h : List Nat) (a b : List UInt8), 64 * i ≤ a.length → zl i h (a ++ b) = zl i h a
  | 0, h, a, b, _ => rfl
  | i + 1, h, a, b, hl => by
    simp only [zl]
    rw [zXQ (by omega), List.drop_append_of_le_length (by omega)]
    exact zEj i _ _ b (by simp; omega)
theorem zIX : ∀ (a b : List Nat), a.length = b.length → (Sha.addAll a b).length = a.length
  | [], [], _ => rfl
  | x :: a, y :: b, h => by simp [Sha.addAll, zIX a b (by simpa using h)]
  | [], _ :: _, h => by simp at h
  | _ :: _, [], h => by simp at h
def lenB (n : Nat) : List UInt8 := (List.range 8).map fun i => UInt8.ofNat ((n % 18446744073709551616) >>> (8 * (7 - i)))
theorem zBl (n : Nat) : (lenB n).length = 8 := by simp [lenB]
def zAB (n : Nat) : Nat := (119 - n % 64) % 64
def padB (r : List UInt8) (n : Nat) : List UInt8 := r ++ [128] ++ List.replicate (zAB r.length) 0 ++ lenB (n * 8)
theorem zGi (r : List UInt8) (n : Nat) : (padB r n).length = 64 * ((padB r n).length / 64) := by
  have : (padB r n).length = r.length + 1 + zAB r.length + 8 := by simp [padB, zBl]; omega
  rw [this]
  unfold zAB
  omega
def outW (x : Nat) : List UInt8 := (List.range 4).map fun k => UInt8.ofNat ((x % 4294967296) >>> (8 * (3 - k)))
def outB (hs : List Nat) : List UInt8 := hs.flatMap outW
def fin (hs : List Nat) (r : List UInt8) (n : Nat) : List UInt8 := outB (zl ((padB r n).length / 64) hs (padB r n))
def sha (s : List UInt8) : List UInt8 := fin Sha.H0 s s.length
theorem zXp (a b : Nat) (h : a = b % 64) : zAB a = zAB b := by unfold zAB; omega
theorem zKQ (s : List UInt8) : fin (zl (s.length / 64) Sha.H0 s) (s.drop (64 * (s.length / 64))) s.length = sha s := by
  unfold sha fin
  have hl : (s.drop (64 * (s.length / 64))).length = s.length % 64 := by rw [List.length_drop]; omega
  have hp : padB s s.length = s.take (64 * (s.length / 64)) ++ padB (s.drop (64 * (s.length / 64))) s.length := by
    unfold padB
    rw [zXp _ s.length hl]
    simp only [← List.append_assoc]
    rw [List.take_append_drop]
  have hq := zGi (s.drop (64 * (s.length / 64))) s.length
  generalize padB (s.drop (64 * (s.length / 64))) s.length = p at *
  generalize padB s s.length = q at *
  subst hp
  have htl : (s.take (64 * (s.length / 64))).length = 64 * (s.length / 64) := by rw [List.length_take]; omega
  have hn : (s.take (64 * (s.length / 64)) ++ p).length / 64 = s.length / 64 + p.length / 64 := by
    rw [List.length_append, htl]; omega
  rw [hn, zFi]
  congr 1
  rw [zEj _ _ _ _ (by omega), List.drop_append, htl, List.drop_of_length_le (by omega)]
  simp only [Nat.sub_self, List.drop_zero, List.nil_append]
  congr 1
  have := zEj (s.length / 64) Sha.H0 (s.take (64 * (s.length / 64))) (s.drop (64 * (s.length / 64))) (by rw [htl]; exact Nat.le_refl _)
  rw [List.take_append_drop] at this
  exact this
theorem zE9 : ∀ (hs : List Nat), (outB hs).length = 4 * hs.length
  | [] => rfl
  | x :: hs => by
    have := zE9 hs
    simp only [outB, List.flatMap_cons, List.length_append, List.length_cons] at *
    rw [this]
    simp [outW]; omega
end Go.X
end
section
namespace Go.X
open Go.Proofs
abbrev zM1 : List XO := [
  ⟨some 4, .p (.mov (C (.int .u32 0))), none⟩]
def zM0 : List XO := zM1
theorem xq118_0e : E3 zM0 zM1 := E3.rfl
abbrev zM3 : List XO := [
  ⟨some 5, .p (.mov (T 0)), none⟩,
  ⟨some 6, .p (.mov (T 1)), none⟩,
  ⟨some 7, .p (.un .neg (T 6)), none⟩,
  ⟨some 8, .call (.func 126) [(T 5), (T 7)], none⟩,
  ⟨some 4, .p (.mov (T 8)), none⟩]
def zM2 : List XO := zM3
theorem xq118_1e : E3 zM2 zM3 := E3.rfl
def xq118 : XF := ⟨2, [.tmp 4],
  .seq (.ops zM0) (.seq (.ops zM2) (.ret))⟩
def yq118 := PLift.up (And.intro (@xq118_0e) (@xq118_1e))
theorem cq118 : zb Try.prog Try.f118 = some xq118 := by kernel_rfl
abbrev zNI : List XO := [
  ⟨some 4, .p (.mov (C (.int .u32 0))), none⟩]
def zNH : List XO := zNI
theorem xq126_0e : E3 zNH zNI := E3.rfl
abbrev zNK : List XO := [
  ⟨some 6, .p (.mov (T 1)), none⟩,
  ⟨some 7, .p (.cint .u64 (T 6)), none⟩,
  ⟨some 8, .p (.bin .and (T 7) (C (.int .u64 31))), none⟩,
  ⟨some 5, .p (.mov (T 8)), none⟩]
def zNJ : List XO := zNK
theorem xq126_1e : E3 zNJ zNK := E3.rfl
abbrev zNM : List XO := [
  ⟨some 9, .p (.mov (T 0)), none⟩,
  ⟨some 10, .p (.mov (T 5)), none⟩,
  ⟨some 11, .p (.bin .shl (T 9) (T 10)), none⟩,
  ⟨some 12, .p (.mov (T 0)), none⟩,
  ⟨some 13, .p (.mov (T 5)), none⟩,
  ⟨some 14, .p (.bin .sub (C (.int .u64 32)) (T 13)), none⟩,
  ⟨some 15, .p (.bin .shr (T 12) (T 14)), none⟩,
  ⟨some 16, .p (.bin .or (T 11) (T 15)), none⟩,
  ⟨some 4, .p (.mov (T 16)), none⟩]
def zNL : List XO := zNM
theorem xq126_2e : E3 zNL zNM := E3.rfl
def xq126 : XF := ⟨2, [.tmp 4],
  .seq (.ops zNH) (.seq (.ops zNJ) (.seq (.ops zNL) (.ret)))⟩
def yq126 := PLift.up (And.intro (@xq126_0e) (And.intro (@xq126_1e) (@xq126_2e)))
theorem cq126 : zb Try.prog Try.f126 = some xq126 := by kernel_rfl
abbrev zMJ : List XO := [
  ⟨some 0, .a (.alloc (List.replicate 64 (.int .u32 0))), none⟩]
def zMI : List XO := zMJ
theorem xq116_0e : E3 zMI zMJ := E3.rfl
abbrev zML : List XO := [
  ⟨some 1, .p (.build (List.replicate 64 (.int .u32 0)) [(0, 1, (C (.int .u32 1116352408))), (1, 1, (C (.int .u32 1899447441))), (2, 1, (C (.int .u32 3049323471))), (3, 1, (C (.int .u32 3921009573))), (4, 1, (C (.int .u32 961987163))), (5, 1, (C (.int .u32 1508970993))), (6, 1, (C (.int .u32 2453635748))), (7, 1, (C (.int .u32 2870763221))), (8, 1, (C (.int .u32 3624381080))), (9, 1, (C (.int .u32 310598401))), (10, 1, (C (.int .u32 607225278))), (11, 1, (C (.int .u32 1426881987))), (12, 1, (C (.int .u32 1925078388))), (13, 1, (C (.int .u32 2162078206))), (14, 1, (C (.int .u32 2614888103))), (15, 1, (C (.int .u32 3248222580))), (16, 1, (C (.int .u32 3835390401))), (17, 1, (C (.int .u32 4022224774))), (18, 1, (C (.int .u32 264347078))), (19, 1, (C (.int .u32 604807628))), (20, 1, (C (.int .u32 770255983))), (21, 1, (C (.int .u32 1249150122))), (22, 1, (C (.int .u32 1555081692))), (23, 1, (C (.int .u32 1996064986))), (24, 1, (C (.int .u32 2554220882))), (25, 1, (C (.int .u32 2821834349))), (26, 1, (C (.int .u32 2952996808))), (27, 1, (C (.int .u32 3210313671))), (28, 1, (C (.int .u32 3336571891))), (29, 1, (C (.int .u32 3584528711))), (30, 1, (C (.int .u32 113926993))), (31, 1, (C (.int .u32 338241895))), (32, 1, (C (.int .u32 666307205))), (33, 1, (C (.int .u32 773529912))), (34, 1, (C (.int .u32 1294757372))), (35, 1, (C (.int .u32 1396182291))), (36, 1, (C (.int .u32 1695183700))), (37, 1, (C (.int .u32 1986661051))), (38, 1, (C (.int .u32 2177026350))), (39, 1, (C (.int .u32 2456956037))), (40, 1, (C (.int .u32 2730485921))), (41, 1, (C (.int .u32 2820302411))), (42, 1, (C (.int .u32 3259730800))), (43, 1, (C (.int .u32 3345764771))), (44, 1, (C (.int .u32 3516065817))), (45, 1, (C (.int .u32 3600352804))), (46, 1, (C (.int .u32 4094571909))), (47, 1, (C (.int .u32 275423344))), (48, 1, (C (.int .u32 430227734))), (49, 1, (C (.int .u32 506948616))), (50, 1, (C (.int .u32 659060556))), (51, 1, (C (.int .u32 883997877))), (52, 1, (C (.int .u32 958139571))), (53, 1, (C (.int .u32 1322822218))), (54, 1, (C (.int .u32 1537002063))), (55, 1, (C (.int .u32 1747873779))), (56, 1, (C (.int .u32 1955562222))), (57, 1, (C (.int .u32 2024104815))), (58, 1, (C (.int .u32 2227730452))), (59, 1, (C (.int .u32 2361852424))), (60, 1, (C (.int .u32 2428436474))), (61, 1, (C (.int .u32 2756734187))), (62, 1, (C (.int .u32 3204031479))), (63, 1, (C (.int .u32 3329325298)))]), none⟩,
  ⟨none, .e (.store 64 (T 0) (T 1)), none⟩]
def zMK : List XO := zML
theorem xq116_1e : E3 zMK zML := E3.rfl
def xq116 : XF := ⟨0, [.cellN 0 64],
  .seq (.ops zMI) (.seq (.ops zMK) (.ret))⟩
def yq116 := PLift.up (And.intro (@xq116_0e) (@xq116_1e))
theorem cq116 : zb Try.prog Try.f116 = some xq116 := by kernel_rfl
abbrev zK3 : List XO := [
  ⟨some 0, .a (.alloc (List.replicate 8 (.int .u32 0))), none⟩]
def zK2 : List XO := zK3
theorem xq103_0e : E3 zK2 zK3 := E3.rfl
abbrev zK5 : List XO := [
  ⟨some 1, .p (.build (List.replicate 8 (.int .u32 0)) [(0, 1, (C (.int .u32 1779033703))), (1, 1, (C (.int .u32 3144134277))), (2, 1, (C (.int .u32 1013904242))), (3, 1, (C (.int .u32 2773480762))), (4, 1, (C (.int .u32 1359893119))), (5, 1, (C (.int .u32 2600822924))), (6, 1, (C (.int .u32 528734635))), (7, 1, (C (.int .u32 1541459225)))]), none⟩,
  ⟨none, .e (.store 8 (T 0) (T 1)), none⟩]
def zK4 : List XO := zK5
theorem xq103_1e : E3 zK4 zK5 := E3.rfl
def xq103 : XF := ⟨0, [.cellN 0 8],
  .seq (.ops zK2) (.seq (.ops zK4) (.ret))⟩
def yq103 := PLift.up (And.intro (@xq103_0e) (@xq103_1e))
theorem cq103 : zb Try.prog Try.f103 = some xq103 := by kernel_rfl
abbrev zMN : List XO := [
  ⟨some 2, .a (.alloc (List.replicate 64 (.int .u32 0))), none⟩]
def zMM : List XO := zMN
theorem xq117_0e : E3 zMM zMN := E3.rfl
abbrev zMg : List XO := [
  ⟨some 3, .a (.alloc (List.replicate 64 (.int .u32 0))), none⟩]
def zMO : List XO := zMg
theorem xq117_1e : E3 zMO zMg := E3.rfl
abbrev zMl : List XO := [
  ⟨some 11, .p (.mov (C (.int .i64 0))), none⟩]
def zMh : List XO := zMl
theorem xq117_2e : E3 zMh zMl := E3.rfl
abbrev zMn : List XO := [
  ⟨some 12, .p (.bin .lss (T 11) (C (.int .i64 16))), none⟩]
def zMm : List XO := zMn
theorem xq117_3e : E3 zMm zMn := E3.rfl
abbrev zMp : List XO := [
  ⟨some 13, .p (.mov (T 11)), none⟩,
  ⟨some 4, .p (.mov (T 13)), none⟩]
def zMo : List XO := zMp
theorem xq117_4e : E3 zMo zMp := E3.rfl
abbrev zMr : List XO := [
  ⟨some 14, .p (.mov (C (.int .i64 0))), none⟩]
def zMq : List XO := zMr
theorem xq117_5e : E3 zMq zMr := E3.rfl
abbrev zMt : List XO := [
  ⟨some 15, .p (.bin .lss (T 14) (C (.int .i64 4))), none⟩]
def zMs : List XO := zMt
theorem xq117_6e : E3 zMs zMt := E3.rfl
abbrev zMv : List XO := [
  ⟨some 16, .p (.mov (T 14)), none⟩,
  ⟨some 5, .p (.mov (T 16)), none⟩]
def zMu : List XO := zMv
theorem xq117_7e : E3 zMu zMv := E3.rfl
abbrev zMx : List XO := [
  ⟨some 17, .p (.mov (T 4)), none⟩,
  ⟨some 18, .p (.mov (T 4)), none⟩,
  ⟨some 19, .p (.iaddrA 64 1 (T 3) (T 18)), none⟩,
  ⟨some 20, .r (.load1 (T 19)), none⟩,
  ⟨some 21, .p (.bin .shl (T 20) (C (.int .u64 8))), none⟩,
  ⟨some 22, .p (.mov (T 0)), none⟩,
  ⟨some 23, .p (.mov (T 4)), none⟩,
  ⟨some 24, .p (.bin .mul (C (.int .i64 4)) (T 23)), none⟩,
  ⟨some 25, .p (.mov (T 5)), none⟩,
  ⟨some 26, .p (.bin .add (T 24) (T 25)), none⟩,
  ⟨some 27, .p (.iaddrS 1 (T 22) (T 26)), none⟩,
  ⟨some 28, .r (.load1 (T 27)), none⟩,
  ⟨some 29, .p (.cint .u32 (T 28)), none⟩,
  ⟨some 30, .p (.bin .or (T 21) (T 29)), none⟩,
  ⟨some 31, .p (.iaddrA 64 1 (T 3) (T 17)), none⟩,
  ⟨none, .e (.store 1 (T 31) (T 30)), none⟩]
def zMw : List XO := zMx
theorem xq117_8e : E3 zMw zMx := E3.rfl
abbrev zMz : List XO := [
  ⟨some 32, .p (.bin .add (T 14) (C (.int .i64 1))), none⟩,
  ⟨some 14, .p (.mov (T 32)), none⟩]
def zMy : List XO := zMz
theorem xq117_9e : E3 zMy zMz := E3.rfl
def zHZ : XC :=
  .seq (.ops zMs) (.seq (.cond (T 15) (.skip) (.exit 2)) (.seq (.block 3 (.seq (.ops zMu) (.draw zMw []))) (.ops zMy)))
def zHY : XC := zHZ
theorem zXd {pr : Prog} {k : List KI} {Q : XE → Fr → Heap → Prop} {t : Fr} {h : Heap} (hw : wpk pr zHZ k Q t h) : wpk pr zHY k Q t h := hw
abbrev zMQ : List XO := [
  ⟨some 33, .p (.bin .add (T 11) (C (.int .i64 1))), none⟩,
  ⟨some 11, .p (.mov (T 33)), none⟩]
def zMP : List XO := zMQ
theorem zXe : E3 zMP zMQ := E3.rfl
def zFY : XC :=
  .seq (.ops zMm) (.seq (.cond (T 12) (.skip) (.exit 0)) (.seq (.block 1 (.seq (.ops zMo) (.seq (.ops zMq) (.block 2 (.loop zHY))))) (.ops zMP)))
def zHa : XC := zFY
theorem zMR {pr : Prog} {k : List KI} {Q : XE → Fr → Heap → Prop} {t : Fr} {h : Heap} (hw : wpk pr zFY k Q t h) : wpk pr zHa k Q t h := hw
abbrev zMT : List XO := [
  ⟨some 6, .p (.mov (C (.int .i64 16))), none⟩]
def zMS : List XO := zMT
theorem zXf : E3 zMS zMT := E3.rfl
abbrev zMV : List XO := [
  ⟨some 34, .p (.mov (T 6)), none⟩,
  ⟨some 35, .p (.bin .lss (T 34) (C (.int .i64 64))), none⟩]
def zMU : List XO := zMV
theorem zXg : E3 zMU zMV := E3.rfl
abbrev zMX : List XO := [
  ⟨some 38, .p (.mov (T 6)), none⟩,
  ⟨some 39, .p (.bin .sub (T 38) (C (.int .i64 15))), none⟩,
  ⟨some 40, .p (.iaddrA 64 1 (T 3) (T 39)), none⟩,
  ⟨some 41, .r (.load1 (T 40)), none⟩,
  ⟨some 42, .p (.mov (T 6)), none⟩,
  ⟨some 43, .p (.bin .sub (T 42) (C (.int .i64 2))), none⟩,
  ⟨some 44, .p (.iaddrA 64 1 (T 3) (T 43)), none⟩,
  ⟨some 45, .r (.load1 (T 44)), none⟩,
  ⟨some 7, .p (.mov (T 41)), none⟩,
  ⟨some 8, .p (.mov (T 45)), none⟩]
def zMW : List XO := zMX
theorem zXh : E3 zMW zMX := E3.rfl
abbrev zMZ : List XO := [
  ⟨some 46, .p (.mov (T 7)), none⟩,
  ⟨some 47, .call (.func 118) [(T 46), (C (.int .i64 7))], none⟩,
  ⟨some 48, .p (.mov (T 7)), none⟩,
  ⟨some 49, .call (.func 118) [(T 48), (C (.int .i64 18))], none⟩,
  ⟨some 50, .p (.bin .xor (T 47) (T 49)), none⟩,
  ⟨some 51, .p (.mov (T 7)), none⟩,
  ⟨some 52, .p (.bin .shr (T 51) (C (.int .u64 3))), none⟩,
  ⟨some 53, .p (.bin .xor (T 50) (T 52)), none⟩,
  ⟨some 9, .p (.mov (T 53)), none⟩]
def zMY : List XO := zMZ
theorem zXi : E3 zMY zMZ := E3.rfl
abbrev zMb : List XO := [
  ⟨some 54, .p (.mov (T 8)), none⟩,
  ⟨some 55, .call (.func 118) [(T 54), (C (.int .i64 17))], none⟩,
  ⟨some 56, .p (.mov (T 8)), none⟩,
  ⟨some 57, .call (.func 118) [(T 56), (C (.int .i64 19))], none⟩,
  ⟨some 58, .p (.bin .xor (T 55) (T 57)), none⟩,
  ⟨some 59, .p (.mov (T 8)), none⟩,
  ⟨some 60, .p (.bin .shr (T 59) (C (.int .u64 10))), none⟩,
  ⟨some 61, .p (.bin .xor (T 58) (T 60)), none⟩,
  ⟨some 10, .p (.mov (T 61)), none⟩]
def zMa : List XO := zMb
theorem zXj : E3 zMa zMb := E3.rfl
abbrev zMd : List XO := [
  ⟨some 62, .p (.mov (T 6)), none⟩,
  ⟨some 63, .p (.mov (T 6)), none⟩,
  ⟨some 64, .p (.bin .sub (T 63) (C (.int .i64 16))), none⟩,
  ⟨some 65, .p (.iaddrA 64 1 (T 3) (T 64)), none⟩,
  ⟨some 66, .r (.load1 (T 65)), none⟩,
  ⟨some 67, .p (.mov (T 9)), none⟩,
  ⟨some 68, .p (.bin .add (T 66) (T 67)), none⟩,
  ⟨some 69, .p (.mov (T 6)), none⟩,
  ⟨some 70, .p (.bin .sub (T 69) (C (.int .i64 7))), none⟩,
  ⟨some 71, .p (.iaddrA 64 1 (T 3) (T 70)), none⟩,
  ⟨some 72, .r (.load1 (T 71)), none⟩,
  ⟨some 73, .p (.bin .add (T 68) (T 72)), none⟩,
  ⟨some 74, .p (.mov (T 10)), none⟩,
  ⟨some 75, .p (.bin .add (T 73) (T 74)), none⟩,
  ⟨some 76, .p (.iaddrA 64 1 (T 3) (T 62)), none⟩,
  ⟨none, .e (.store 1 (T 76) (T 75)), none⟩]
def zMc : List XO := zMd
theorem zXk : E3 zMc zMd := E3.rfl
abbrev zMf : List XO := [
  ⟨some 36, .p (.mov (T 6)), none⟩,
  ⟨some 37, .p (.bin .add (T 36) (C (.int .i64 1))), none⟩,
  ⟨some 6, .p (.mov (T 37)), none⟩]
def zMe : List XO := zMf
theorem zXl : E3 zMe zMf := E3.rfl
def zFZ : XC :=
  .seq (.seq (.ops zMU) (.cond (T 35) (.skip) (.exit 4))) (.seq (.block 5 (.seq (.draw zMW []) (.seq (.ops zMY) (.seq (.ops zMa) (.draw zMc []))))) (.ops zMe))
def zHb : XC := zFZ
theorem zMi {pr : Prog} {k : List KI} {Q : XE → Fr → Heap → Prop} {t : Fr} {h : Heap} (hw : wpk pr zFZ k Q t h) : wpk pr zHb k Q t h := hw
abbrev zMk : List XO := [
  ⟨some 77, .r (.loadN 64 (T 3)), none⟩,
  ⟨none, .e (.store 64 (T 2) (T 77)), none⟩]
def zMj : List XO := zMk
theorem zXm : E3 zMj zMk := E3.rfl
def xq117 : XF := ⟨1, [.cellN 2 64],
  .seq (.ops zMM) (.seq (.ops zMO) (.seq (.seq (.ops zMh) (.block 0 (.loop zHa))) (.seq (.seq (.ops zMS) (.block 4 (.loop zHb))) (.seq (.ops zMj) (.ret)))))⟩
def yq117 := PLift.up (And.intro (And.intro (And.intro (And.intro (@xq117_0e) (@xq117_1e)) (And.intro (@xq117_2e) (@xq117_3e))) (And.intro (And.intro (@xq117_4e) (@xq117_5e)) (And.intro (@xq117_6e) (And.intro (@xq117_7e) (@xq117_8e))))) (And.intro (And.intro (And.intro (@xq117_9e) (@zXe)) (And.intro (@zXf) (And.intro (@zXg) (@zXh)))) (And.intro (And.intro (@zXi) (@zXj)) (And.intro (@zXk) (And.intro (@zXl) (@zXm))))))
theorem cq117 : zb Try.prog Try.f117 = some xq117 := by kernel_rfl
abbrev zK7 : List XO := [
  ⟨some 14, .call (.func 116) [], none⟩,
  ⟨some 15, .p (.mov (T 1)), none⟩,
  ⟨some 16, .call (.func 117) [(T 15)], none⟩,
  ⟨some 4, .a (.alloc (List.replicate 64 (.int .u32 0))), none⟩,
  ⟨some 5, .a (.alloc (List.replicate 64 (.int .u32 0))), none⟩,
  ⟨none, .e (.store 64 (T 4) (T 14)), none⟩,
  ⟨none, .e (.store 64 (T 5) (T 16)), none⟩]
def zK6 : List XO := zK7
theorem xq104_0e : E3 zK6 zK7 := E3.rfl
abbrev zLN : List XO := [
  ⟨some 17, .p (.mov (T 0)), none⟩,
  ⟨some 18, .p (.nilc (T 17)), none⟩,
  ⟨some 19, .p (.faddr 0 (T 18)), none⟩,
  ⟨some 20, .r (.loadN 8 (T 19)), none⟩,
  ⟨some 6, .a (.alloc (List.replicate 8 (.int .u32 0))), none⟩,
  ⟨none, .e (.store 8 (T 6) (T 20)), none⟩]
def zK8 : List XO := zLN
theorem xq104_1e : E3 zK8 zLN := E3.rfl
abbrev zLP : List XO := [
  ⟨some 21, .p (.mov (C (.int .i64 0))), none⟩]
def zLO : List XO := zLP
theorem xq104_2e : E3 zLO zLP := E3.rfl
abbrev zLR : List XO := [
  ⟨some 22, .p (.bin .lss (T 21) (C (.int .i64 64))), none⟩]
def zLQ : List XO := zLR
theorem xq104_3e : E3 zLQ zLR := E3.rfl
abbrev zLT : List XO := [
  ⟨some 23, .p (.mov (T 21)), none⟩,
  ⟨some 7, .p (.mov (T 23)), none⟩]
def zLS : List XO := zLT
theorem xq104_4e : E3 zLS zLT := E3.rfl
abbrev zLV : List XO := [
  ⟨some 24, .p (.iaddrA 8 1 (T 6) (C (.int .i64 4))), none⟩,
  ⟨some 25, .r (.load1 (T 24)), none⟩,
  ⟨some 26, .call (.func 118) [(T 25), (C (.int .i64 6))], none⟩,
  ⟨some 27, .p (.iaddrA 8 1 (T 6) (C (.int .i64 4))), none⟩,
  ⟨some 28, .r (.load1 (T 27)), none⟩,
  ⟨some 29, .call (.func 118) [(T 28), (C (.int .i64 11))], none⟩,
  ⟨some 30, .p (.bin .xor (T 26) (T 29)), none⟩,
  ⟨some 31, .p (.iaddrA 8 1 (T 6) (C (.int .i64 4))), none⟩,
  ⟨some 32, .r (.load1 (T 31)), none⟩,
  ⟨some 33, .call (.func 118) [(T 32), (C (.int .i64 25))], none⟩,
  ⟨some 34, .p (.bin .xor (T 30) (T 33)), none⟩,
  ⟨some 8, .p (.mov (T 34)), none⟩]
def zLU : List XO := zLV
theorem xq104_5e : E3 zLU zLV := E3.rfl
abbrev zLX : List XO := [
  ⟨some 35, .p (.iaddrA 8 1 (T 6) (C (.int .i64 4))), none⟩,
  ⟨some 36, .r (.load1 (T 35)), none⟩,
  ⟨some 37, .p (.iaddrA 8 1 (T 6) (C (.int .i64 5))), none⟩,
  ⟨some 38, .r (.load1 (T 37)), none⟩,
  ⟨some 39, .p (.bin .and (T 36) (T 38)), none⟩,
  ⟨some 40, .p (.iaddrA 8 1 (T 6) (C (.int .i64 4))), none⟩,
  ⟨some 41, .r (.load1 (T 40)), none⟩,
  ⟨some 42, .p (.un .xor (T 41)), none⟩,
  ⟨some 43, .p (.iaddrA 8 1 (T 6) (C (.int .i64 6))), none⟩,
  ⟨some 44, .r (.load1 (T 43)), none⟩,
  ⟨some 45, .p (.bin .and (T 42) (T 44)), none⟩,
  ⟨some 46, .p (.bin .xor (T 39) (T 45)), none⟩,
  ⟨some 9, .p (.mov (T 46)), none⟩]
def zLW : List XO := zLX
theorem xq104_6e : E3 zLW zLX := E3.rfl
abbrev zLZ : List XO := [
  ⟨some 47, .p (.iaddrA 8 1 (T 6) (C (.int .i64 7))), none⟩,
  ⟨some 48, .r (.load1 (T 47)), none⟩,
  ⟨some 49, .p (.mov (T 8)), none⟩,
  ⟨some 50, .p (.bin .add (T 48) (T 49)), none⟩,
  ⟨some 51, .p (.mov (T 9)), none⟩,
  ⟨some 52, .p (.bin .add (T 50) (T 51)), none⟩,
  ⟨some 53, .p (.mov (T 7)), none⟩,
  ⟨some 54, .p (.iaddrA 64 1 (T 4) (T 53)), none⟩,
  ⟨some 55, .r (.load1 (T 54)), none⟩,
  ⟨some 56, .p (.bin .add (T 52) (T 55)), none⟩,
  ⟨some 57, .p (.mov (T 7)), none⟩,
  ⟨some 58, .p (.iaddrA 64 1 (T 5) (T 57)), none⟩,
  ⟨some 59, .r (.load1 (T 58)), none⟩,
  ⟨some 60, .p (.bin .add (T 56) (T 59)), none⟩,
  ⟨some 10, .p (.mov (T 60)), none⟩]
def zLY : List XO := zLZ
theorem xq104_7e : E3 zLY zLZ := E3.rfl
abbrev zLb : List XO := [
  ⟨some 61, .p (.iaddrA 8 1 (T 6) (C (.int .i64 0))), none⟩,
  ⟨some 62, .r (.load1 (T 61)), none⟩,
  ⟨some 63, .call (.func 118) [(T 62), (C (.int .i64 2))], none⟩,
  ⟨some 64, .p (.iaddrA 8 1 (T 6) (C (.int .i64 0))), none⟩,
  ⟨some 65, .r (.load1 (T 64)), none⟩,
  ⟨some 66, .call (.func 118) [(T 65), (C (.int .i64 13))], none⟩,
  ⟨some 67, .p (.bin .xor (T 63) (T 66)), none⟩,
  ⟨some 68, .p (.iaddrA 8 1 (T 6) (C (.int .i64 0))), none⟩,
  ⟨some 69, .r (.load1 (T 68)), none⟩,
  ⟨some 70, .call (.func 118) [(T 69), (C (.int .i64 22))], none⟩,
  ⟨some 71, .p (.bin .xor (T 67) (T 70)), none⟩,
  ⟨some 11, .p (.mov (T 71)), none⟩]
def zLa : List XO := zLb
theorem xq104_8e : E3 zLa zLb := E3.rfl
abbrev zLd : List XO := [
  ⟨some 72, .p (.iaddrA 8 1 (T 6) (C (.int .i64 0))), none⟩,
  ⟨some 73, .r (.load1 (T 72)), none⟩,
  ⟨some 74, .p (.iaddrA 8 1 (T 6) (C (.int .i64 1))), none⟩,
  ⟨some 75, .r (.load1 (T 74)), none⟩,
  ⟨some 76, .p (.bin .and (T 73) (T 75)), none⟩,
  ⟨some 77, .p (.iaddrA 8 1 (T 6) (C (.int .i64 0))), none⟩,
  ⟨some 78, .r (.load1 (T 77)), none⟩,
  ⟨some 79, .p (.iaddrA 8 1 (T 6) (C (.int .i64 2))), none⟩,
  ⟨some 80, .r (.load1 (T 79)), none⟩,
  ⟨some 81, .p (.bin .and (T 78) (T 80)), none⟩,
  ⟨some 82, .p (.bin .xor (T 76) (T 81)), none⟩,
  ⟨some 83, .p (.iaddrA 8 1 (T 6) (C (.int .i64 1))), none⟩,
  ⟨some 84, .r (.load1 (T 83)), none⟩,
  ⟨some 85, .p (.iaddrA 8 1 (T 6) (C (.int .i64 2))), none⟩,
  ⟨some 86, .r (.load1 (T 85)), none⟩,
  ⟨some 87, .p (.bin .and (T 84) (T 86)), none⟩,
  ⟨some 88, .p (.bin .xor (T 82) (T 87)), none⟩,
  ⟨some 12, .p (.mov (T 88)), none⟩]
def zLc : List XO := zLd
theorem xq104_9e : E3 zLc zLd := E3.rfl
abbrev zLA : List XO := [
  ⟨some 89, .p (.mov (T 10)), none⟩,
  ⟨some 90, .p (.mov (T 11)), none⟩,
  ⟨some 91, .p (.bin .add (T 89) (T 90)), none⟩,
  ⟨some 92, .p (.mov (T 12)), none⟩,
  ⟨some 93, .p (.bin .add (T 91) (T 92)), none⟩,
  ⟨some 94, .p (.iaddrA 8 1 (T 6) (C (.int .i64 0))), none⟩,
  ⟨some 95, .r (.load1 (T 94)), none⟩,
  ⟨some 96, .p (.iaddrA 8 1 (T 6) (C (.int .i64 1))), none⟩,
  ⟨some 97, .r (.load1 (T 96)), none⟩,
  ⟨some 98, .p (.iaddrA 8 1 (T 6) (C (.int .i64 2))), none⟩,
  ⟨some 99, .r (.load1 (T 98)), none⟩,
  ⟨some 100, .p (.iaddrA 8 1 (T 6) (C (.int .i64 3))), none⟩,
  ⟨some 101, .r (.load1 (T 100)), none⟩,
  ⟨some 102, .p (.mov (T 10)), none⟩,
  ⟨some 103, .p (.bin .add (T 101) (T 102)), none⟩,
  ⟨some 104, .p (.iaddrA 8 1 (T 6) (C (.int .i64 4))), none⟩,
  ⟨some 105, .r (.load1 (T 104)), none⟩,
  ⟨some 106, .p (.iaddrA 8 1 (T 6) (C (.int .i64 5))), none⟩,
  ⟨some 107, .r (.load1 (T 106)), none⟩,
  ⟨some 108, .p (.iaddrA 8 1 (T 6) (C (.int .i64 6))), none⟩,
  ⟨some 109, .r (.load1 (T 108)), none⟩,
  ⟨some 110, .p (.build (List.replicate 8 (.int .u32 0)) [(0, 1, (T 93)), (1, 1, (T 95)), (2, 1, (T 97)), (3, 1, (T 99)), (4, 1, (T 103)), (5, 1, (T 105)), (6, 1, (T 107)), (7, 1, (T 109))]), none⟩,
  ⟨none, .e (.store 8 (T 6) (T 110)), none⟩]
def zK9 : List XO := zLA
theorem zXU : E3 zK9 zLA := E3.rfl
abbrev zLC : List XO := [
  ⟨some 111, .p (.bin .add (T 21) (C (.int .i64 1))), none⟩,
  ⟨some 21, .p (.mov (T 111)), none⟩]
def zLB : List XO := zLC
theorem zXV : E3 zLB zLC := E3.rfl
def zHT : XC :=
  .seq (.ops zLQ) (.seq (.cond (T 22) (.skip) (.exit 0)) (.seq (.block 1 (.seq (.ops zLS) (.seq (.draw zLU [(4, (2, [])), (8, (2, [])), (8, (5, []))]) (.seq (.ops zLW) (.seq (.draw zLY []) (.seq (.draw zLa [(4, (2, [])), (8, (2, [])), (8, (5, []))]) (.seq (.ops zLc) (.ops zK9)))))))) (.ops zLB)))
def zHS : XC := zHT
theorem zXW {pr : Prog} {k : List KI} {Q : XE → Fr → Heap → Prop} {t : Fr} {h : Heap} (hw : wpk pr zHT k Q t h) : wpk pr zHS k Q t h := hw
abbrev zLE : List XO := [
  ⟨some 112, .p (.mov (C (.int .i64 0))), none⟩]
def zLD : List XO := zLE
theorem zXX : E3 zLD zLE := E3.rfl
abbrev zLG : List XO := [
  ⟨some 113, .p (.bin .lss (T 112) (C (.int .i64 8))), none⟩]
def zLF : List XO := zLG
theorem zXY : E3 zLF zLG := E3.rfl
abbrev zLI : List XO := [
  ⟨some 114, .p (.mov (T 112)), none⟩,
  ⟨some 13, .p (.mov (T 114)), none⟩]
def zLH : List XO := zLI
theorem zXZ : E3 zLH zLI := E3.rfl
abbrev zLK : List XO := [
  ⟨some 115, .p (.mov (T 0)), none⟩,
  ⟨some 116, .p (.mov (T 13)), none⟩,
  ⟨some 117, .p (.nilc (T 115)), none⟩,
  ⟨some 118, .p (.faddr 0 (T 117)), none⟩,
  ⟨some 119, .p (.iaddrA 8 1 (T 118) (T 116)), none⟩,
  ⟨some 120, .r (.load1 (T 119)), none⟩,
  ⟨some 121, .p (.mov (T 13)), none⟩,
  ⟨some 122, .p (.iaddrA 8 1 (T 6) (T 121)), none⟩,
  ⟨some 123, .r (.load1 (T 122)), none⟩,
  ⟨some 124, .p (.bin .add (T 120) (T 123)), none⟩,
  ⟨some 125, .p (.nilc (T 115)), none⟩,
  ⟨some 126, .p (.faddr 0 (T 125)), none⟩,
  ⟨some 127, .p (.iaddrA 8 1 (T 126) (T 116)), none⟩,
  ⟨none, .e (.store 1 (T 127) (T 124)), none⟩]
def zLJ : List XO := zLK
theorem zXa : E3 zLJ zLK := E3.rfl
abbrev zLM : List XO := [
  ⟨some 128, .p (.bin .add (T 112) (C (.int .i64 1))), none⟩,
  ⟨some 112, .p (.mov (T 128)), none⟩]
def zLL : List XO := zLM
theorem zXb : E3 zLL zLM := E3.rfl
def zHV : XC :=
  .seq (.ops zLF) (.seq (.cond (T 113) (.skip) (.exit 2)) (.seq (.block 3 (.seq (.ops zLH) (.draw zLJ []))) (.ops zLL)))
def zHU : XC := zHV
theorem zXc {pr : Prog} {k : List KI} {Q : XE → Fr → Heap → Prop} {t : Fr} {h : Heap} (hw : wpk pr zHV k Q t h) : wpk pr zHU k Q t h := hw
def zC8 : XF := ⟨2, [],
  .seq (.ops zK6) (.seq (.ops zK8) (.seq (.seq (.ops zLO) (.block 0 (.loop zHS))) (.seq (.ops zLD) (.block 2 (.loop zHU)))))⟩
def yq104 := PLift.up (And.intro (And.intro (And.intro (And.intro (@xq104_0e) (@xq104_1e)) (And.intro (@xq104_2e) (@xq104_3e))) (And.intro (And.intro (@xq104_4e) (@xq104_5e)) (And.intro (@xq104_6e) (@xq104_7e)))) (And.intro (And.intro (And.intro (@xq104_8e) (@xq104_9e)) (And.intro (@zXU) (@zXV))) (And.intro (And.intro (@zXX) (@zXY)) (And.intro (@zXZ) (And.intro (@zXa) (@zXb))))))
theorem cq104 : zb Try.prog Try.f104 = some zC8 := by kernel_rfl
abbrev zSq : List XO := [
  ⟨some 0, .p (.mov (C (.pointer none))), none⟩]
def xq85_0 : List XO := zSq
theorem xq85_0e : E3 xq85_0 zSq := E3.rfl
abbrev zSr : List XO := [
  ⟨some 1, .call (.func 103) [], none⟩,
  ⟨some 2, .p (.build [(.int .u32 0), (.int .u32 0), (.int .u32 0), (.int .u32 0), (.int .u32 0), (.int .u32 0), (.int .u32 0), (.int .u32 0), (.slice none 0 0), (.int .u64 0)] [(0, 8, (T 1))]), none⟩,
  ⟨some 3, .a (.box (T 2)), none⟩,
  ⟨some 0, .p (.mov (T 3)), none⟩]
def xq85_1 : List XO := zSr
theorem xq85_1e : E3 xq85_1 zSr := E3.rfl
def xq85 : XF := ⟨0, [.tmp 0],
  .seq (.ops xq85_0) (.seq (.ops xq85_1) (.ret))⟩
def yq85 := PLift.up (And.intro (@xq85_0e) (@xq85_1e))
theorem cq85 : zb Try.prog Try.f85 = some xq85 := by kernel_rfl
abbrev zSs : List XO := [
  ⟨some 4, .p (.mov (T 0)), none⟩,
  ⟨some 5, .p (.eql false .nptr (T 4) (C (.pointer none))), none⟩]
def xq86_0 : List XO := zSs
theorem xq86_0e : E3 xq86_0 zSs := E3.rfl
abbrev zSt : List XO := [
  ⟨some 6, .p (.mov (T 0)), none⟩,
  ⟨some 7, .p (.nilc (T 6)), none⟩,
  ⟨some 8, .p (.faddr 9 (T 7)), none⟩,
  ⟨some 9, .r (.load1 (T 8)), none⟩,
  ⟨some 10, .p (.mov (T 1)), none⟩,
  ⟨some 11, .p (.lenS (T 10)), none⟩,
  ⟨some 12, .p (.cint .u64 (T 11)), none⟩,
  ⟨some 13, .p (.bin .add (T 9) (T 12)), none⟩,
  ⟨some 14, .p (.nilc (T 6)), none⟩,
  ⟨some 15, .p (.faddr 9 (T 14)), none⟩,
  ⟨none, .e (.store 1 (T 15) (T 13)), none⟩]
def xq86_1 : List XO := zSt
theorem xq86_1e : E3 xq86_1 zSt := E3.rfl
abbrev zSu : List XO := [
  ⟨some 16, .p (.mov (T 0)), none⟩,
  ⟨some 17, .p (.mov (T 0)), none⟩,
  ⟨some 18, .p (.nilc (T 17)), none⟩,
  ⟨some 19, .p (.faddr 8 (T 18)), none⟩,
  ⟨some 20, .r (.load1 (T 19)), none⟩,
  ⟨some 21, .p (.mov (T 1)), none⟩,
  ⟨some 22, .e (.append 1 1 (T 20) (T 21)), none⟩,
  ⟨some 23, .p (.nilc (T 16)), none⟩,
  ⟨some 24, .p (.faddr 8 (T 23)), none⟩,
  ⟨none, .e (.store 1 (T 24) (T 22)), none⟩]
def xq86_2 : List XO := zSu
theorem xq86_2e : E3 xq86_2 zSu := E3.rfl
abbrev zSv : List XO := [
  ⟨some 25, .p (.mov (T 0)), none⟩,
  ⟨some 26, .p (.nilc (T 25)), none⟩,
  ⟨some 27, .p (.faddr 8 (T 26)), none⟩,
  ⟨some 28, .r (.load1 (T 27)), none⟩,
  ⟨some 29, .p (.lenV (T 28)), none⟩,
  ⟨some 30, .p (.bin .geq (T 29) (C (.int .i64 64))), none⟩]
def xq86_3 : List XO := zSv
theorem xq86_3e : E3 xq86_3 zSv := E3.rfl
abbrev zSw : List XO := [
  ⟨some 31, .p (.mov (T 0)), none⟩,
  ⟨some 32, .p (.mov (T 0)), none⟩,
  ⟨some 33, .p (.nilc (T 32)), none⟩,
  ⟨some 34, .p (.faddr 8 (T 33)), none⟩,
  ⟨some 35, .r (.load1 (T 34)), none⟩,
  ⟨some 36, .p (.slc 1 (T 35) none (some (C (.int .i64 64))) none), none⟩,
  ⟨some 37, .call (.func 104) [(T 31), (T 36)], none⟩]
def xq86_4 : List XO := zSw
theorem xq86_4e : E3 xq86_4 zSw := E3.rfl
abbrev zSx : List XO := [
  ⟨some 38, .p (.mov (T 0)), none⟩,
  ⟨some 39, .p (.mov (T 0)), none⟩,
  ⟨some 40, .p (.nilc (T 39)), none⟩,
  ⟨some 41, .p (.faddr 8 (T 40)), none⟩,
  ⟨some 42, .r (.load1 (T 41)), none⟩,
  ⟨some 43, .p (.slc 1 (T 42) (some (C (.int .i64 64))) none none), none⟩,
  ⟨some 44, .p (.nilc (T 38)), none⟩,
  ⟨some 45, .p (.faddr 8 (T 44)), none⟩,
  ⟨none, .e (.store 1 (T 45) (T 43)), none⟩]
def xq86_5 : List XO := zSx
theorem xq86_5e : E3 xq86_5 zSx := E3.rfl
def zIE : XC :=
  .seq (.seq (.ops xq86_3) (.cond (T 30) (.skip) (.exit 0))) (.block 1 (.seq (.ops xq86_4) (.ops xq86_5)))
def xq86_6 : XC := zIE
theorem xq86_6k {pr : Prog} {k : List KI} {Q : XE → Fr → Heap → Prop} {t : Fr} {h : Heap} (hw : wpk pr zIE k Q t h) : wpk pr xq86_6 k Q t h := hw
def xq86 : XF := ⟨2, [],
  .seq (.seq (.ops xq86_0) (.cond (T 5) (.ret) (.skip))) (.seq (.ops xq86_1) (.seq (.ops xq86_2) (.block 0 (.loop xq86_6))))⟩
def yq86 := PLift.up (And.intro (And.intro (@xq86_0e) (And.intro (@xq86_1e) (@xq86_2e))) (And.intro (@xq86_3e) (And.intro (@xq86_4e) (@xq86_5e))))
theorem cq86 : zb Try.prog Try.f86 = some xq86 := by kernel_rfl
abbrev zSy : List XO := [
  ⟨some 2, .p (.mov (C (.string (zB [])))), none⟩]
def xq87_0 : List XO := zSy
theorem xq87_0e : E3 xq87_0 zSy := E3.rfl
abbrev zTF : List XO := [
  ⟨some 9, .p (.mov (T 0)), none⟩,
  ⟨some 10, .p (.eql false .nptr (T 9) (C (.pointer none))), none⟩]
def xq87_1 : List XO := zTF
theorem xq87_1e : E3 xq87_1 zTF := E3.rfl
abbrev zTW : List XO := [
  ⟨some 2, .p (.mov (C (.string (zB [])))), none⟩]
def xq87_2 : List XO := zTW
theorem xq87_2e : E3 xq87_2 zTW := E3.rfl
abbrev zTZ : List XO := [
  ⟨some 11, .p (.mov (T 0)), none⟩,
  ⟨some 12, .p (.nilc (T 11)), none⟩,
  ⟨some 13, .p (.faddr 0 (T 12)), none⟩,
  ⟨some 14, .r (.loadN 8 (T 13)), none⟩,
  ⟨some 15, .p (.mov (T 0)), none⟩,
  ⟨some 16, .p (.nilc (T 15)), none⟩,
  ⟨some 17, .p (.faddr 9 (T 16)), none⟩,
  ⟨some 18, .r (.load1 (T 17)), none⟩,
  ⟨some 19, .p (.build [(.int .u32 0), (.int .u32 0), (.int .u32 0), (.int .u32 0), (.int .u32 0), (.int .u32 0), (.int .u32 0), (.int .u32 0), (.slice none 0 0), (.int .u64 0)] [(0, 8, (T 14)), (9, 1, (T 18))]), none⟩,
  ⟨some 20, .a (.box (T 19)), none⟩,
  ⟨some 3, .p (.mov (T 20)), none⟩]
def xq87_3 : List XO := zTZ
theorem xq87_3e : E3 xq87_3 zTZ := E3.rfl
abbrev zTa : List XO := [
  ⟨some 21, .p (.mov (T 3)), none⟩,
  ⟨some 22, .p (.mov (T 3)), none⟩,
  ⟨some 23, .p (.nilc (T 22)), none⟩,
  ⟨some 24, .p (.faddr 8 (T 23)), none⟩,
  ⟨some 25, .r (.load1 (T 24)), none⟩,
  ⟨some 26, .p (.mov (T 0)), none⟩,
  ⟨some 27, .p (.nilc (T 26)), none⟩,
  ⟨some 28, .p (.faddr 8 (T 27)), none⟩,
  ⟨some 29, .r (.load1 (T 28)), none⟩,
  ⟨some 30, .e (.append 1 1 (T 25) (T 29)), none⟩,
  ⟨some 31, .a (.bslice [(.int .u8 0)] 1 [(0, 1, (C (.int .u8 128)))]), none⟩,
  ⟨some 32, .e (.append 1 1 (T 30) (T 31)), none⟩,
  ⟨some 33, .p (.nilc (T 21)), none⟩,
  ⟨some 34, .p (.faddr 8 (T 33)), none⟩,
  ⟨none, .e (.store 1 (T 34) (T 32)), none⟩]
def xq87_4 : List XO := zTa
theorem xq87_4e : E3 xq87_4 zTa := E3.rfl
abbrev zTb : List XO := [
  ⟨some 35, .p (.mov (T 3)), none⟩,
  ⟨some 36, .p (.nilc (T 35)), none⟩,
  ⟨some 37, .p (.faddr 8 (T 36)), none⟩,
  ⟨some 38, .r (.load1 (T 37)), none⟩,
  ⟨some 39, .p (.lenV (T 38)), none⟩,
  ⟨some 40, .p (.bin .rem (T 39) (C (.int .i64 64))), none⟩,
  ⟨some 41, .p (.eql true .int (T 40) (C (.int .i64 56))), none⟩]
def xq87_5 : List XO := zTb
theorem xq87_5e : E3 xq87_5 zTb := E3.rfl
abbrev zTc : List XO := [
  ⟨some 42, .p (.mov (T 3)), none⟩,
  ⟨some 43, .p (.mov (T 3)), none⟩,
  ⟨some 44, .p (.nilc (T 43)), none⟩,
  ⟨some 45, .p (.faddr 8 (T 44)), none⟩,
  ⟨some 46, .r (.load1 (T 45)), none⟩,
  ⟨some 47, .a (.bslice [(.int .u8 0)] 1 [(0, 1, (C (.int .u8 0)))]), none⟩,
  ⟨some 48, .e (.append 1 1 (T 46) (T 47)), none⟩,
  ⟨some 49, .p (.nilc (T 42)), none⟩,
  ⟨some 50, .p (.faddr 8 (T 49)), none⟩,
  ⟨none, .e (.store 1 (T 50) (T 48)), none⟩]
def xq87_6 : List XO := zTc
theorem xq87_6e : E3 xq87_6 zTc := E3.rfl
def zIO : XC :=
  .seq (.seq (.ops xq87_5) (.cond (T 41) (.skip) (.exit 0))) (.block 1 (.ops xq87_6))
def zIN : XC := zIO
theorem xq87_7k {pr : Prog} {k : List KI} {Q : XE → Fr → Heap → Prop} {t : Fr} {h : Heap} (hw : wpk pr zIO k Q t h) : wpk pr zIN k Q t h := hw
abbrev zTd : List XO := [
  ⟨some 51, .p (.mov (C (.int .i64 0))), none⟩]
def xq87_8 : List XO := zTd
theorem xq87_8e : E3 xq87_8 zTd := E3.rfl
abbrev zTe : List XO := [
  ⟨some 52, .p (.bin .lss (T 51) (C (.int .i64 8))), none⟩]
def xq87_9 : List XO := zTe
theorem xq87_9e : E3 xq87_9 zTe := E3.rfl
abbrev zS0 : List XO := [
  ⟨some 53, .p (.mov (T 51)), none⟩,
  ⟨some 4, .p (.mov (T 53)), none⟩]
def zSz : List XO := zS0
theorem xq87_10e : E3 zSz zS0 := E3.rfl
abbrev zS2 : List XO := [
  ⟨some 54, .p (.mov (T 3)), none⟩,
  ⟨some 55, .p (.mov (T 3)), none⟩,
  ⟨some 56, .p (.nilc (T 55)), none⟩,
  ⟨some 57, .p (.faddr 8 (T 56)), none⟩,
  ⟨some 58, .r (.load1 (T 57)), none⟩,
  ⟨some 59, .p (.mov (T 3)), none⟩,
  ⟨some 60, .p (.nilc (T 59)), none⟩,
  ⟨some 61, .p (.faddr 9 (T 60)), none⟩,
  ⟨some 62, .r (.load1 (T 61)), none⟩,
  ⟨some 63, .p (.bin .mul (T 62) (C (.int .u64 8))), none⟩,
  ⟨some 64, .p (.mov (T 4)), none⟩,
  ⟨some 65, .p (.bin .sub (C (.int .i64 7)) (T 64)), none⟩,
  ⟨some 66, .p (.bin .mul (C (.int .i64 8)) (T 65)), none⟩,
  ⟨some 67, .p (.bin .shr (T 63) (T 66)), none⟩,
  ⟨some 68, .p (.cint .u8 (T 67)), none⟩,
  ⟨some 69, .a (.bslice [(.int .u8 0)] 1 [(0, 1, (T 68))]), none⟩,
  ⟨some 70, .e (.append 1 1 (T 58) (T 69)), none⟩,
  ⟨some 71, .p (.nilc (T 54)), none⟩,
  ⟨some 72, .p (.faddr 8 (T 71)), none⟩,
  ⟨none, .e (.store 1 (T 72) (T 70)), none⟩]
def zS1 : List XO := zS2
theorem xq87_11e : E3 zS1 zS2 := E3.rfl
abbrev zS4 : List XO := [
  ⟨some 73, .p (.bin .add (T 51) (C (.int .i64 1))), none⟩,
  ⟨some 51, .p (.mov (T 73)), none⟩]
def zS3 : List XO := zS4
theorem xq87_12e : E3 zS3 zS4 := E3.rfl
def zIG : XC :=
  .seq (.ops xq87_9) (.seq (.cond (T 52) (.skip) (.exit 2)) (.seq (.block 3 (.seq (.ops zSz) (.draw zS1 [(4, (16, [])), (8, (16, []))]))) (.ops zS3)))
def zIF : XC := zIG
theorem xq87_13k {pr : Prog} {k : List KI} {Q : XE → Fr → Heap → Prop} {t : Fr} {h : Heap} (hw : wpk pr zIG k Q t h) : wpk pr zIF k Q t h := hw
abbrev zS6 : List XO := [
  ⟨some 74, .p (.mov (T 3)), none⟩,
  ⟨some 75, .p (.nilc (T 74)), none⟩,
  ⟨some 76, .p (.faddr 8 (T 75)), none⟩,
  ⟨some 77, .r (.load1 (T 76)), none⟩,
  ⟨some 78, .p (.lenV (T 77)), none⟩,
  ⟨some 79, .p (.bin .gtr (T 78) (C (.int .i64 0))), none⟩]
def zS5 : List XO := zS6
theorem xq87_14e : E3 zS5 zS6 := E3.rfl
abbrev zS8 : List XO := [
  ⟨some 80, .p (.mov (T 3)), none⟩,
  ⟨some 81, .p (.mov (T 3)), none⟩,
  ⟨some 82, .p (.nilc (T 81)), none⟩,
  ⟨some 83, .p (.faddr 8 (T 82)), none⟩,
  ⟨some 84, .r (.load1 (T 83)), none⟩,
  ⟨some 85, .p (.slc 1 (T 84) none (some (C (.int .i64 64))) none), none⟩,
  ⟨some 86, .call (.func 104) [(T 80), (T 85)], none⟩]
def zS7 : List XO := zS8
theorem xq87_15e : E3 zS7 zS8 := E3.rfl
abbrev zTA : List XO := [
  ⟨some 87, .p (.mov (T 3)), none⟩,
  ⟨some 88, .p (.mov (T 3)), none⟩,
  ⟨some 89, .p (.nilc (T 88)), none⟩,
  ⟨some 90, .p (.faddr 8 (T 89)), none⟩,
  ⟨some 91, .r (.load1 (T 90)), none⟩,
  ⟨some 92, .p (.slc 1 (T 91) (some (C (.int .i64 64))) none none), none⟩,
  ⟨some 93, .p (.nilc (T 87)), none⟩,
  ⟨some 94, .p (.faddr 8 (T 93)), none⟩,
  ⟨none, .e (.store 1 (T 94) (T 92)), none⟩]
def zS9 : List XO := zTA
theorem xq87_16e : E3 zS9 zTA := E3.rfl
def zII : XC :=
  .seq (.seq (.ops zS5) (.cond (T 79) (.skip) (.exit 4))) (.block 5 (.seq (.ops zS7) (.ops zS9)))
def zIH : XC := zII
theorem xq87_17k {pr : Prog} {k : List KI} {Q : XE → Fr → Heap → Prop} {t : Fr} {h : Heap} (hw : wpk pr zII k Q t h) : wpk pr zIH k Q t h := hw
abbrev zTC : List XO := [
  ⟨some 5, .p (.mov (C (.slice none 0 0))), none⟩]
def zTB : List XO := zTC
theorem xq87_18e : E3 zTB zTC := E3.rfl
abbrev zTE : List XO := [
  ⟨some 95, .p (.mov (T 3)), none⟩,
  ⟨some 96, .p (.nilc (T 95)), none⟩,
  ⟨some 97, .p (.faddr 0 (T 96)), none⟩,
  ⟨some 98, .r (.loadN 8 (T 97)), none⟩,
  ⟨some 99, .p (.mov (C (.int .i64 0))), none⟩]
def zTD : List XO := zTE
theorem xq87_19e : E3 zTD zTE := E3.rfl
abbrev zTH : List XO := [
  ⟨some 100, .p (.bin .lss (T 99) (C (.int .i64 8))), none⟩]
def zTG : List XO := zTH
theorem xq87_20e : E3 zTG zTH := E3.rfl
abbrev zTJ : List XO := [
  ⟨some 101, .p (.idxA1 8 (T 98) (T 99)), none⟩,
  ⟨some 7, .p (.mov (T 101)), none⟩]
def zTI : List XO := zTJ
theorem xq87_21e : E3 zTI zTJ := E3.rfl
abbrev zTL : List XO := [
  ⟨some 102, .p (.mov (C (.int .i64 0))), none⟩]
def zTK : List XO := zTL
theorem xq87_22e : E3 zTK zTL := E3.rfl
abbrev zTN : List XO := [
  ⟨some 103, .p (.bin .lss (T 102) (C (.int .i64 4))), none⟩]
def zTM : List XO := zTN
theorem xq87_23e : E3 zTM zTN := E3.rfl
abbrev zTP : List XO := [
  ⟨some 104, .p (.mov (T 102)), none⟩,
  ⟨some 8, .p (.mov (T 104)), none⟩]
def zTO : List XO := zTP
theorem xq87_24e : E3 zTO zTP := E3.rfl
abbrev zTR : List XO := [
  ⟨some 105, .p (.mov (T 5)), none⟩,
  ⟨some 106, .p (.mov (T 7)), none⟩,
  ⟨some 107, .p (.mov (T 8)), none⟩,
  ⟨some 108, .p (.bin .sub (C (.int .i64 3)) (T 107)), none⟩,
  ⟨some 109, .p (.bin .mul (C (.int .i64 8)) (T 108)), none⟩,
  ⟨some 110, .p (.bin .shr (T 106) (T 109)), none⟩,
  ⟨some 111, .p (.cint .u8 (T 110)), none⟩,
  ⟨some 112, .a (.bslice [(.int .u8 0)] 1 [(0, 1, (T 111))]), none⟩,
  ⟨some 113, .e (.append 1 1 (T 105) (T 112)), none⟩,
  ⟨some 5, .p (.mov (T 113)), none⟩]
def zTQ : List XO := zTR
theorem xq87_25e : E3 zTQ zTR := E3.rfl
abbrev zTT : List XO := [
  ⟨some 114, .p (.bin .add (T 102) (C (.int .i64 1))), none⟩,
  ⟨some 102, .p (.mov (T 114)), none⟩]
def zTS : List XO := zTT
theorem xq87_26e : E3 zTS zTT := E3.rfl
def zIK : XC :=
  .seq (.ops zTM) (.seq (.cond (T 103) (.skip) (.exit 8)) (.seq (.block 9 (.seq (.ops zTO) (.ops zTQ))) (.ops zTS)))
def zIJ : XC := zIK
theorem xq87_27k {pr : Prog} {k : List KI} {Q : XE → Fr → Heap → Prop} {t : Fr} {h : Heap} (hw : wpk pr zIK k Q t h) : wpk pr zIJ k Q t h := hw
abbrev zTV : List XO := [
  ⟨some 115, .p (.bin .add (T 99) (C (.int .i64 1))), none⟩,
  ⟨some 99, .p (.mov (T 115)), none⟩]
def zTU : List XO := zTV
theorem xq87_28e : E3 zTU zTV := E3.rfl
def zIM : XC :=
  .seq (.ops zTG) (.seq (.cond (T 100) (.skip) (.exit 6)) (.seq (.block 7 (.seq (.ops zTI) (.seq (.ops zTK) (.block 8 (.loop zIJ))))) (.ops zTU)))
def zIL : XC := zIM
theorem xq87_29k {pr : Prog} {k : List KI} {Q : XE → Fr → Heap → Prop} {t : Fr} {h : Heap} (hw : wpk pr zIM k Q t h) : wpk pr zIL k Q t h := hw
abbrev zTY : List XO := [
  ⟨some 116, .p (.mov (T 5)), none⟩,
  ⟨some 117, .r (.cb2s (T 116)), none⟩,
  ⟨some 2, .p (.mov (T 117)), none⟩]
def zTX : List XO := zTY
theorem xq87_30e : E3 zTX zTY := E3.rfl
def xq87 : XF := ⟨1, [.tmp 2],
  .seq (.ops xq87_0) (.seq (.seq (.ops xq87_1) (.cond (T 10) (.seq (.ops xq87_2) (.ret)) (.skip))) (.seq (.draw xq87_3 [(3, (11, [])), (7, (11, []))]) (.seq (.draw xq87_4 []) (.seq (.block 0 (.loop zIN)) (.seq (.seq (.ops xq87_8) (.block 2 (.loop zIF))) (.seq (.block 4 (.loop zIH)) (.seq (.ops zTB) (.seq (.seq (.ops zTD) (.block 6 (.loop zIL))) (.seq (.ops zTX) (.ret))))))))))⟩
def yq87 := PLift.up (And.intro (And.intro (And.intro (And.intro (@xq87_0e) (And.intro (@xq87_1e) (@xq87_2e))) (And.intro (@xq87_3e) (And.intro (@xq87_4e) (@xq87_5e)))) (And.intro (And.intro (@xq87_6e) (And.intro (@xq87_8e) (@xq87_9e))) (And.intro (And.intro (@xq87_10e) (@xq87_11e)) (And.intro (@xq87_12e) (@xq87_14e))))) (And.intro (And.intro (And.intro (@xq87_15e) (And.intro (@xq87_16e) (@xq87_18e))) (And.intro (@xq87_19e) (And.intro (@xq87_20e) (@xq87_21e)))) (And.intro (And.intro (@xq87_22e) (And.intro (@xq87_23e) (@xq87_24e))) (And.intro (And.intro (@xq87_25e) (@xq87_26e)) (And.intro (@xq87_28e) (@xq87_30e))))))
theorem cq87 : zb Try.prog Try.f87 = some xq87 := by kernel_rfl
abbrev zRb : List XO := [
  ⟨some 2, .p (.mov (C (.string (zB [])))), none⟩]
def xq59_0 : List XO := zRb
theorem xq59_0e : E3 xq59_0 zRb := E3.rfl
abbrev zRc : List XO := [
  ⟨some 4, .call (.func 85) [], none⟩,
  ⟨some 3, .p (.mov (T 4)), none⟩]
def xq59_1 : List XO := zRc
theorem xq59_1e : E3 xq59_1 zRc := E3.rfl
abbrev zRd : List XO := [
  ⟨some 5, .p (.mov (T 3)), none⟩,
  ⟨some 6, .p (.mov (T 0)), none⟩,
  ⟨some 7, .call (.func 86) [(T 5), (T 6)], none⟩]
def xq59_2 : List XO := zRd
theorem xq59_2e : E3 xq59_2 zRd := E3.rfl
abbrev zRe : List XO := [
  ⟨some 8, .p (.mov (T 3)), none⟩,
  ⟨some 9, .call (.func 87) [(T 8)], none⟩,
  ⟨some 2, .p (.mov (T 9)), none⟩]
def xq59_3 : List XO := zRe
theorem xq59_3e : E3 xq59_3 zRe := E3.rfl
def xq59 : XF := ⟨1, [.tmp 2],
  .seq (.ops xq59_0) (.seq (.ops xq59_1) (.seq (.ops xq59_2) (.seq (.ops xq59_3) (.ret))))⟩
def yq59 := PLift.up (And.intro (And.intro (@xq59_0e) (@xq59_1e)) (And.intro (@xq59_2e) (@xq59_3e)))
theorem cq59 : zb Try.prog Try.f59 = some xq59 := by kernel_rfl
abbrev zRr : List XO := [
  ⟨some 4, .p (.mov (C (.int .u32 0))), none⟩]
def xq62_0 : List XO := zRr
theorem xq62_0e : E3 xq62_0 zRr := E3.rfl
abbrev zRs : List XO := [
  ⟨some 5, .p (.mov (T 0)), none⟩,
  ⟨some 6, .p (.mov (T 1)), none⟩,
  ⟨some 7, .p (.bin .shr (T 5) (T 6)), none⟩,
  ⟨some 8, .p (.mov (T 0)), none⟩,
  ⟨some 9, .p (.mov (T 1)), none⟩,
  ⟨some 10, .p (.bin .sub (C (.int .u64 32)) (T 9)), none⟩,
  ⟨some 11, .p (.bin .shl (T 8) (T 10)), none⟩,
  ⟨some 12, .p (.bin .or (T 7) (T 11)), none⟩,
  ⟨some 4, .p (.mov (T 12)), none⟩]
def xq62_1 : List XO := zRs
theorem xq62_1e : E3 xq62_1 zRs := E3.rfl
def xq62 : XF := ⟨2, [.tmp 4],
  .seq (.ops xq62_0) (.seq (.ops xq62_1) (.ret))⟩
def yq62 := PLift.up (And.intro (@xq62_0e) (@xq62_1e))
theorem cq62 : zb Try.prog Try.f62 = some xq62 := by kernel_rfl
abbrev zRp : List XO := [
  ⟨some 0, .a (.alloc (List.replicate 64 (.int .u32 0))), none⟩,
  ⟨some 1, .a (.alloc (List.replicate 8 (.int .u32 0))), none⟩]
def xq61_0 : List XO := zRp
theorem xq61_0e : E3 xq61_0 zRp := E3.rfl
abbrev zRq : List XO := [
  ⟨some 2, .p (.build (List.replicate 64 (.int .u32 0)) [(0, 1, (C (.int .u32 1116352408))), (1, 1, (C (.int .u32 1899447441))), (2, 1, (C (.int .u32 3049323471))), (3, 1, (C (.int .u32 3921009573))), (4, 1, (C (.int .u32 961987163))), (5, 1, (C (.int .u32 1508970993))), (6, 1, (C (.int .u32 2453635748))), (7, 1, (C (.int .u32 2870763221))), (8, 1, (C (.int .u32 3624381080))), (9, 1, (C (.int .u32 310598401))), (10, 1, (C (.int .u32 607225278))), (11, 1, (C (.int .u32 1426881987))), (12, 1, (C (.int .u32 1925078388))), (13, 1, (C (.int .u32 2162078206))), (14, 1, (C (.int .u32 2614888103))), (15, 1, (C (.int .u32 3248222580))), (16, 1, (C (.int .u32 3835390401))), (17, 1, (C (.int .u32 4022224774))), (18, 1, (C (.int .u32 264347078))), (19, 1, (C (.int .u32 604807628))), (20, 1, (C (.int .u32 770255983))), (21, 1, (C (.int .u32 1249150122))), (22, 1, (C (.int .u32 1555081692))), (23, 1, (C (.int .u32 1996064986))), (24, 1, (C (.int .u32 2554220882))), (25, 1, (C (.int .u32 2821834349))), (26, 1, (C (.int .u32 2952996808))), (27, 1, (C (.int .u32 3210313671))), (28, 1, (C (.int .u32 3336571891))), (29, 1, (C (.int .u32 3584528711))), (30, 1, (C (.int .u32 113926993))), (31, 1, (C (.int .u32 338241895))), (32, 1, (C (.int .u32 666307205))), (33, 1, (C (.int .u32 773529912))), (34, 1, (C (.int .u32 1294757372))), (35, 1, (C (.int .u32 1396182291))), (36, 1, (C (.int .u32 1695183700))), (37, 1, (C (.int .u32 1986661051))), (38, 1, (C (.int .u32 2177026350))), (39, 1, (C (.int .u32 2456956037))), (40, 1, (C (.int .u32 2730485921))), (41, 1, (C (.int .u32 2820302411))), (42, 1, (C (.int .u32 3259730800))), (43, 1, (C (.int .u32 3345764771))), (44, 1, (C (.int .u32 3516065817))), (45, 1, (C (.int .u32 3600352804))), (46, 1, (C (.int .u32 4094571909))), (47, 1, (C (.int .u32 275423344))), (48, 1, (C (.int .u32 430227734))), (49, 1, (C (.int .u32 506948616))), (50, 1, (C (.int .u32 659060556))), (51, 1, (C (.int .u32 883997877))), (52, 1, (C (.int .u32 958139571))), (53, 1, (C (.int .u32 1322822218))), (54, 1, (C (.int .u32 1537002063))), (55, 1, (C (.int .u32 1747873779))), (56, 1, (C (.int .u32 1955562222))), (57, 1, (C (.int .u32 2024104815))), (58, 1, (C (.int .u32 2227730452))), (59, 1, (C (.int .u32 2361852424))), (60, 1, (C (.int .u32 2428436474))), (61, 1, (C (.int .u32 2756734187))), (62, 1, (C (.int .u32 3204031479))), (63, 1, (C (.int .u32 3329325298)))]), none⟩,
  ⟨some 3, .p (.build (List.replicate 8 (.int .u32 0)) [(0, 1, (C (.int .u32 1779033703))), (1, 1, (C (.int .u32 3144134277))), (2, 1, (C (.int .u32 1013904242))), (3, 1, (C (.int .u32 2773480762))), (4, 1, (C (.int .u32 1359893119))), (5, 1, (C (.int .u32 2600822924))), (6, 1, (C (.int .u32 528734635))), (7, 1, (C (.int .u32 1541459225)))]), none⟩,
  ⟨none, .e (.store 64 (T 0) (T 2)), none⟩,
  ⟨none, .e (.store 8 (T 1) (T 3)), none⟩]
def xq61_1 : List XO := zRq
theorem xq61_1e : E3 xq61_1 zRq := E3.rfl
def xq61 : XF := ⟨0, [.cellN 0 64, .cellN 1 8],
  .seq (.ops xq61_0) (.seq (.ops xq61_1) (.ret))⟩
def yq61 := PLift.up (And.intro (@xq61_0e) (@xq61_1e))
theorem cq61 : zb Try.prog Try.f61 = some xq61 := by kernel_rfl
abbrev zN3 : List XO := [
  ⟨some 2, .p (.mov (C (.string (zB [])))), none⟩]
def xq18_0 : List XO := zN3
theorem xq18_0e : E3 xq18_0 zN3 := E3.rfl
abbrev zOM : List XO := [
  ⟨some 25, .call (.func 61) [], none⟩,
  ⟨some 24, .p (.mov (T 25)), none⟩,
  ⟨some 26, .p (.ext (T 24) 0), none⟩,
  ⟨some 27, .p (.ext (T 24) 1), none⟩,
  ⟨some 3, .a (.alloc (List.replicate 64 (.int .u32 0))), none⟩,
  ⟨some 4, .a (.alloc (List.replicate 8 (.int .u32 0))), none⟩,
  ⟨none, .e (.store 64 (T 3) (T 26)), none⟩,
  ⟨none, .e (.store 8 (T 4) (T 27)), none⟩]
def xq18_1 : List XO := zOM
theorem xq18_1e : E3 xq18_1 zOM := E3.rfl
abbrev zOf : List XO := [
  ⟨some 28, .p (.mov (T 0)), none⟩,
  ⟨some 29, .a (.cs2b (T 28)), none⟩,
  ⟨some 5, .p (.mov (T 29)), none⟩]
def xq18_2 : List XO := zOf
theorem xq18_2e : E3 xq18_2 zOf := E3.rfl
abbrev zOy : List XO := [
  ⟨some 30, .p (.mov (T 5)), none⟩,
  ⟨some 31, .a (.bslice [(.int .u8 0)] 1 [(0, 1, (C (.int .u8 128)))]), none⟩,
  ⟨some 32, .e (.append 1 1 (T 30) (T 31)), none⟩,
  ⟨some 5, .p (.mov (T 32)), none⟩]
def xq18_3 : List XO := zOy
theorem xq18_3e : E3 xq18_3 zOy := E3.rfl
abbrev zPD : List XO := [
  ⟨some 33, .p (.mov (T 5)), none⟩,
  ⟨some 34, .p (.lenV (T 33)), none⟩,
  ⟨some 35, .p (.bin .rem (T 34) (C (.int .i64 64))), none⟩,
  ⟨some 36, .p (.eql true .int (T 35) (C (.int .i64 56))), none⟩]
def xq18_4 : List XO := zPD
theorem xq18_4e : E3 xq18_4 zPD := E3.rfl
abbrev zPO : List XO := [
  ⟨some 37, .p (.mov (T 5)), none⟩,
  ⟨some 38, .a (.bslice [(.int .u8 0)] 1 [(0, 1, (C (.int .u8 0)))]), none⟩,
  ⟨some 39, .e (.append 1 1 (T 37) (T 38)), none⟩,
  ⟨some 5, .p (.mov (T 39)), none⟩]
def xq18_5 : List XO := zPO
theorem xq18_5e : E3 xq18_5 zPO := E3.rfl
def zHu : XC :=
  .seq (.seq (.ops xq18_4) (.cond (T 36) (.skip) (.exit 0))) (.block 1 (.ops xq18_5))
def zHt : XC := zHu
theorem xq18_6k {pr : Prog} {k : List KI} {Q : XE → Fr → Heap → Prop} {t : Fr} {h : Heap} (hw : wpk pr zHu k Q t h) : wpk pr zHt k Q t h := hw
abbrev zPP : List XO := [
  ⟨some 40, .p (.mov (T 0)), none⟩,
  ⟨some 41, .p (.lenS (T 40)), none⟩,
  ⟨some 42, .p (.cint .u64 (T 41)), none⟩,
  ⟨some 43, .p (.bin .mul (T 42) (C (.int .u64 8))), none⟩,
  ⟨some 6, .p (.mov (T 43)), none⟩]
def xq18_7 : List XO := zPP
theorem xq18_7e : E3 xq18_7 zPP := E3.rfl
abbrev zPQ : List XO := [
  ⟨some 7, .p (.mov (C (.int .i64 7))), none⟩]
def xq18_8 : List XO := zPQ
theorem xq18_8e : E3 xq18_8 zPQ := E3.rfl
abbrev zPR : List XO := [
  ⟨some 44, .p (.mov (T 7)), none⟩,
  ⟨some 45, .p (.bin .geq (T 44) (C (.int .i64 0))), none⟩]
def xq18_9 : List XO := zPR
theorem xq18_9e : E3 xq18_9 zPR := E3.rfl
abbrev zN5 : List XO := [
  ⟨some 48, .p (.mov (T 5)), none⟩,
  ⟨some 49, .p (.mov (T 6)), none⟩,
  ⟨some 50, .p (.mov (T 7)), none⟩,
  ⟨some 51, .p (.bin .mul (C (.int .i64 8)) (T 50)), none⟩,
  ⟨some 52, .p (.cint .u64 (T 51)), none⟩,
  ⟨some 53, .p (.bin .shr (T 49) (T 52)), none⟩,
  ⟨some 54, .p (.cint .u8 (T 53)), none⟩,
  ⟨some 55, .a (.bslice [(.int .u8 0)] 1 [(0, 1, (T 54))]), none⟩,
  ⟨some 56, .e (.append 1 1 (T 48) (T 55)), none⟩,
  ⟨some 5, .p (.mov (T 56)), none⟩]
def zN4 : List XO := zN5
theorem xq18_10e : E3 zN4 zN5 := E3.rfl
abbrev zN7 : List XO := [
  ⟨some 46, .p (.mov (T 7)), none⟩,
  ⟨some 47, .p (.bin .sub (T 46) (C (.int .i64 1))), none⟩,
  ⟨some 7, .p (.mov (T 47)), none⟩]
def zN6 : List XO := zN7
theorem xq18_11e : E3 zN6 zN7 := E3.rfl
def zHg : XC :=
  .seq (.seq (.ops xq18_9) (.cond (T 45) (.skip) (.exit 2))) (.seq (.block 3 (.ops zN4)) (.ops zN6))
def zHf : XC := zHg
theorem xq18_12k {pr : Prog} {k : List KI} {Q : XE → Fr → Heap → Prop} {t : Fr} {h : Heap} (hw : wpk pr zHg k Q t h) : wpk pr zHf k Q t h := hw
abbrev zN9 : List XO := [
  ⟨some 8, .p (.mov (C (.int .i64 0))), none⟩]
def zN8 : List XO := zN9
theorem xq18_13e : E3 zN8 zN9 := E3.rfl
abbrev zOB : List XO := [
  ⟨some 57, .p (.mov (T 8)), none⟩,
  ⟨some 58, .p (.mov (T 5)), none⟩,
  ⟨some 59, .p (.lenV (T 58)), none⟩,
  ⟨some 60, .p (.bin .lss (T 57) (T 59)), none⟩]
def zOA : List XO := zOB
theorem xq18_14e : E3 zOA zOB := E3.rfl
abbrev zOD : List XO := [
  ⟨some 63, .p (.build (List.replicate 64 (.int .u32 0)) []), none⟩,
  ⟨some 9, .a (.alloc (List.replicate 64 (.int .u32 0))), none⟩,
  ⟨none, .e (.store 64 (T 9) (T 63)), none⟩]
def zOC : List XO := zOD
theorem xq18_15e : E3 zOC zOD := E3.rfl
abbrev zOF : List XO := [
  ⟨some 10, .p (.mov (C (.int .i64 0))), none⟩]
def zOE : List XO := zOF
theorem xq18_16e : E3 zOE zOF := E3.rfl
abbrev zOH : List XO := [
  ⟨some 64, .p (.mov (T 10)), none⟩,
  ⟨some 65, .p (.bin .lss (T 64) (C (.int .i64 64))), none⟩]
def zOG : List XO := zOH
theorem xq18_17e : E3 zOG zOH := E3.rfl
abbrev zOJ : List XO := [
  ⟨some 68, .p (.mov (T 10)), none⟩,
  ⟨some 69, .p (.bin .lss (T 68) (C (.int .i64 16))), none⟩]
def zOI : List XO := zOJ
theorem xq18_18e : E3 zOI zOJ := E3.rfl
abbrev zOL : List XO := [
  ⟨some 70, .p (.mov (T 5)), none⟩,
  ⟨some 71, .p (.mov (T 8)), none⟩,
  ⟨some 72, .p (.mov (T 10)), none⟩,
  ⟨some 73, .p (.bin .mul (C (.int .i64 4)) (T 72)), none⟩,
  ⟨some 74, .p (.bin .add (T 71) (T 73)), none⟩,
  ⟨some 75, .p (.mov (T 8)), none⟩,
  ⟨some 76, .p (.mov (T 10)), none⟩,
  ⟨some 77, .p (.bin .mul (C (.int .i64 4)) (T 76)), none⟩,
  ⟨some 78, .p (.bin .add (T 75) (T 77)), none⟩,
  ⟨some 79, .p (.bin .add (T 78) (C (.int .i64 4))), none⟩,
  ⟨some 80, .p (.slc 1 (T 70) (some (T 74)) (some (T 79)) none), none⟩,
  ⟨some 11, .p (.mov (T 80)), none⟩]
def zOK : List XO := zOL
theorem xq18_19e : E3 zOK zOL := E3.rfl
abbrev zOO : List XO := [
  ⟨some 81, .p (.mov (T 10)), none⟩,
  ⟨some 82, .p (.mov (T 11)), none⟩,
  ⟨some 83, .p (.iaddrS 1 (T 82) (C (.int .i64 0))), none⟩,
  ⟨some 84, .r (.load1 (T 83)), none⟩,
  ⟨some 85, .p (.cint .u32 (T 84)), none⟩,
  ⟨some 86, .p (.bin .shl (T 85) (C (.int .u64 24))), none⟩,
  ⟨some 87, .p (.mov (T 11)), none⟩,
  ⟨some 88, .p (.iaddrS 1 (T 87) (C (.int .i64 1))), none⟩,
  ⟨some 89, .r (.load1 (T 88)), none⟩,
  ⟨some 90, .p (.cint .u32 (T 89)), none⟩,
  ⟨some 91, .p (.bin .shl (T 90) (C (.int .u64 16))), none⟩,
  ⟨some 92, .p (.bin .or (T 86) (T 91)), none⟩,
  ⟨some 93, .p (.mov (T 11)), none⟩,
  ⟨some 94, .p (.iaddrS 1 (T 93) (C (.int .i64 2))), none⟩,
  ⟨some 95, .r (.load1 (T 94)), none⟩,
  ⟨some 96, .p (.cint .u32 (T 95)), none⟩,
  ⟨some 97, .p (.bin .shl (T 96) (C (.int .u64 8))), none⟩,
  ⟨some 98, .p (.bin .or (T 92) (T 97)), none⟩,
  ⟨some 99, .p (.mov (T 11)), none⟩,
  ⟨some 100, .p (.iaddrS 1 (T 99) (C (.int .i64 3))), none⟩,
  ⟨some 101, .r (.load1 (T 100)), none⟩,
  ⟨some 102, .p (.cint .u32 (T 101)), none⟩,
  ⟨some 103, .p (.bin .or (T 98) (T 102)), none⟩,
  ⟨some 104, .p (.iaddrA 64 1 (T 9) (T 81)), none⟩,
  ⟨none, .e (.store 1 (T 104) (T 103)), none⟩]
def zON : List XO := zOO
theorem xq18_20e : E3 zON zOO := E3.rfl
abbrev zOQ : List XO := [
  ⟨some 105, .p (.mov (T 10)), none⟩,
  ⟨some 106, .p (.bin .sub (T 105) (C (.int .i64 15))), none⟩,
  ⟨some 107, .p (.iaddrA 64 1 (T 9) (T 106)), none⟩,
  ⟨some 108, .r (.load1 (T 107)), none⟩,
  ⟨some 109, .call (.func 62) [(T 108), (C (.int .u64 7))], none⟩,
  ⟨some 110, .p (.mov (T 10)), none⟩,
  ⟨some 111, .p (.bin .sub (T 110) (C (.int .i64 15))), none⟩,
  ⟨some 112, .p (.iaddrA 64 1 (T 9) (T 111)), none⟩,
  ⟨some 113, .r (.load1 (T 112)), none⟩,
  ⟨some 114, .call (.func 62) [(T 113), (C (.int .u64 18))], none⟩,
  ⟨some 115, .p (.bin .xor (T 109) (T 114)), none⟩,
  ⟨some 116, .p (.mov (T 10)), none⟩,
  ⟨some 117, .p (.bin .sub (T 116) (C (.int .i64 15))), none⟩,
  ⟨some 118, .p (.iaddrA 64 1 (T 9) (T 117)), none⟩,
  ⟨some 119, .r (.load1 (T 118)), none⟩,
  ⟨some 120, .p (.bin .shr (T 119) (C (.int .u64 3))), none⟩,
  ⟨some 121, .p (.bin .xor (T 115) (T 120)), none⟩,
  ⟨some 12, .p (.mov (T 121)), none⟩]
def zOP : List XO := zOQ
theorem xq18_21e : E3 zOP zOQ := E3.rfl
abbrev zOS : List XO := [
  ⟨some 122, .p (.mov (T 10)), none⟩,
  ⟨some 123, .p (.bin .sub (T 122) (C (.int .i64 2))), none⟩,
  ⟨some 124, .p (.iaddrA 64 1 (T 9) (T 123)), none⟩,
  ⟨some 125, .r (.load1 (T 124)), none⟩,
  ⟨some 126, .call (.func 62) [(T 125), (C (.int .u64 17))], none⟩,
  ⟨some 127, .p (.mov (T 10)), none⟩,
  ⟨some 128, .p (.bin .sub (T 127) (C (.int .i64 2))), none⟩,
  ⟨some 129, .p (.iaddrA 64 1 (T 9) (T 128)), none⟩,
  ⟨some 130, .r (.load1 (T 129)), none⟩,
  ⟨some 131, .call (.func 62) [(T 130), (C (.int .u64 19))], none⟩,
  ⟨some 132, .p (.bin .xor (T 126) (T 131)), none⟩,
  ⟨some 133, .p (.mov (T 10)), none⟩,
  ⟨some 134, .p (.bin .sub (T 133) (C (.int .i64 2))), none⟩,
  ⟨some 135, .p (.iaddrA 64 1 (T 9) (T 134)), none⟩,
  ⟨some 136, .r (.load1 (T 135)), none⟩,
  ⟨some 137, .p (.bin .shr (T 136) (C (.int .u64 10))), none⟩,
  ⟨some 138, .p (.bin .xor (T 132) (T 137)), none⟩,
  ⟨some 13, .p (.mov (T 138)), none⟩]
def zOR : List XO := zOS
theorem xq18_22e : E3 zOR zOS := E3.rfl
abbrev zOU : List XO := [
  ⟨some 139, .p (.mov (T 10)), none⟩,
  ⟨some 140, .p (.mov (T 10)), none⟩,
  ⟨some 141, .p (.bin .sub (T 140) (C (.int .i64 16))), none⟩,
  ⟨some 142, .p (.iaddrA 64 1 (T 9) (T 141)), none⟩,
  ⟨some 143, .r (.load1 (T 142)), none⟩,
  ⟨some 144, .p (.mov (T 12)), none⟩,
  ⟨some 145, .p (.bin .add (T 143) (T 144)), none⟩,
  ⟨some 146, .p (.mov (T 10)), none⟩,
  ⟨some 147, .p (.bin .sub (T 146) (C (.int .i64 7))), none⟩,
  ⟨some 148, .p (.iaddrA 64 1 (T 9) (T 147)), none⟩,
  ⟨some 149, .r (.load1 (T 148)), none⟩,
  ⟨some 150, .p (.bin .add (T 145) (T 149)), none⟩,
  ⟨some 151, .p (.mov (T 13)), none⟩,
  ⟨some 152, .p (.bin .add (T 150) (T 151)), none⟩,
  ⟨some 153, .p (.iaddrA 64 1 (T 9) (T 139)), none⟩,
  ⟨none, .e (.store 1 (T 153) (T 152)), none⟩]
def zOT : List XO := zOU
theorem xq18_23e : E3 zOT zOU := E3.rfl
abbrev zOW : List XO := [
  ⟨some 66, .p (.mov (T 10)), none⟩,
  ⟨some 67, .p (.bin .add (T 66) (C (.int .i64 1))), none⟩,
  ⟨some 10, .p (.mov (T 67)), none⟩]
def zOV : List XO := zOW
theorem xq18_24e : E3 zOV zOW := E3.rfl
def zHi : XC :=
  .seq (.seq (.ops zOG) (.cond (T 65) (.skip) (.exit 6))) (.seq (.block 7 (.seq (.seq (.ops zOI) (.cond (T 69) (.seq (.ops zOK) (.seq (.draw zON []) (.exit 7))) (.skip))) (.seq (.draw zOP [(8, (4, [])), (14, (4, [])), (14, (9, []))]) (.seq (.draw zOR [(8, (4, [])), (14, (4, [])), (14, (9, []))]) (.draw zOT []))))) (.ops zOV))
def zHh : XC := zHi
theorem xq18_25k {pr : Prog} {k : List KI} {Q : XE → Fr → Heap → Prop} {t : Fr} {h : Heap} (hw : wpk pr zHi k Q t h) : wpk pr zHh k Q t h := hw
abbrev zOY : List XO := [
  ⟨some 154, .r (.loadN 8 (T 4)), none⟩,
  ⟨some 14, .a (.alloc (List.replicate 8 (.int .u32 0))), none⟩,
  ⟨none, .e (.store 8 (T 14) (T 154)), none⟩]
def zOX : List XO := zOY
theorem xq18_26e : E3 zOX zOY := E3.rfl
abbrev zOa : List XO := [
  ⟨some 15, .p (.mov (C (.int .i64 0))), none⟩]
def zOZ : List XO := zOa
theorem xq18_27e : E3 zOZ zOa := E3.rfl
abbrev zOc : List XO := [
  ⟨some 155, .p (.mov (T 15)), none⟩,
  ⟨some 156, .p (.bin .lss (T 155) (C (.int .i64 64))), none⟩]
def zOb : List XO := zOc
theorem xq18_28e : E3 zOb zOc := E3.rfl
abbrev zOe : List XO := [
  ⟨some 159, .p (.iaddrA 8 1 (T 14) (C (.int .i64 4))), none⟩,
  ⟨some 160, .r (.load1 (T 159)), none⟩,
  ⟨some 161, .call (.func 62) [(T 160), (C (.int .u64 6))], none⟩,
  ⟨some 162, .p (.iaddrA 8 1 (T 14) (C (.int .i64 4))), none⟩,
  ⟨some 163, .r (.load1 (T 162)), none⟩,
  ⟨some 164, .call (.func 62) [(T 163), (C (.int .u64 11))], none⟩,
  ⟨some 165, .p (.bin .xor (T 161) (T 164)), none⟩,
  ⟨some 166, .p (.iaddrA 8 1 (T 14) (C (.int .i64 4))), none⟩,
  ⟨some 167, .r (.load1 (T 166)), none⟩,
  ⟨some 168, .call (.func 62) [(T 167), (C (.int .u64 25))], none⟩,
  ⟨some 169, .p (.bin .xor (T 165) (T 168)), none⟩,
  ⟨some 16, .p (.mov (T 169)), none⟩]
def zOd : List XO := zOe
theorem xq18_29e : E3 zOd zOe := E3.rfl
abbrev zOh : List XO := [
  ⟨some 170, .p (.iaddrA 8 1 (T 14) (C (.int .i64 7))), none⟩,
  ⟨some 171, .r (.load1 (T 170)), none⟩,
  ⟨some 172, .p (.mov (T 16)), none⟩,
  ⟨some 173, .p (.bin .add (T 171) (T 172)), none⟩,
  ⟨some 174, .p (.iaddrA 8 1 (T 14) (C (.int .i64 4))), none⟩,
  ⟨some 175, .r (.load1 (T 174)), none⟩,
  ⟨some 176, .p (.iaddrA 8 1 (T 14) (C (.int .i64 5))), none⟩,
  ⟨some 177, .r (.load1 (T 176)), none⟩,
  ⟨some 178, .p (.bin .and (T 175) (T 177)), none⟩,
  ⟨some 179, .p (.iaddrA 8 1 (T 14) (C (.int .i64 4))), none⟩,
  ⟨some 180, .r (.load1 (T 179)), none⟩,
  ⟨some 181, .p (.bin .sub (C (.int .u32 4294967295)) (T 180)), none⟩,
  ⟨some 182, .p (.iaddrA 8 1 (T 14) (C (.int .i64 6))), none⟩,
  ⟨some 183, .r (.load1 (T 182)), none⟩,
  ⟨some 184, .p (.bin .and (T 181) (T 183)), none⟩,
  ⟨some 185, .p (.bin .xor (T 178) (T 184)), none⟩,
  ⟨some 186, .p (.bin .add (T 173) (T 185)), none⟩,
  ⟨some 187, .p (.mov (T 15)), none⟩,
  ⟨some 188, .p (.iaddrA 64 1 (T 3) (T 187)), none⟩,
  ⟨some 189, .r (.load1 (T 188)), none⟩,
  ⟨some 190, .p (.bin .add (T 186) (T 189)), none⟩,
  ⟨some 191, .p (.mov (T 15)), none⟩,
  ⟨some 192, .p (.iaddrA 64 1 (T 9) (T 191)), none⟩,
  ⟨some 193, .r (.load1 (T 192)), none⟩,
  ⟨some 194, .p (.bin .add (T 190) (T 193)), none⟩,
  ⟨some 17, .p (.mov (T 194)), none⟩]
def zOg : List XO := zOh
theorem xq18_30e : E3 zOg zOh := E3.rfl
abbrev zOj : List XO := [
  ⟨some 195, .p (.iaddrA 8 1 (T 14) (C (.int .i64 0))), none⟩,
  ⟨some 196, .r (.load1 (T 195)), none⟩,
  ⟨some 197, .call (.func 62) [(T 196), (C (.int .u64 2))], none⟩,
  ⟨some 198, .p (.iaddrA 8 1 (T 14) (C (.int .i64 0))), none⟩,
  ⟨some 199, .r (.load1 (T 198)), none⟩,
  ⟨some 200, .call (.func 62) [(T 199), (C (.int .u64 13))], none⟩,
  ⟨some 201, .p (.bin .xor (T 197) (T 200)), none⟩,
  ⟨some 202, .p (.iaddrA 8 1 (T 14) (C (.int .i64 0))), none⟩,
  ⟨some 203, .r (.load1 (T 202)), none⟩,
  ⟨some 204, .call (.func 62) [(T 203), (C (.int .u64 22))], none⟩,
  ⟨some 205, .p (.bin .xor (T 201) (T 204)), none⟩,
  ⟨some 18, .p (.mov (T 205)), none⟩]
def zOi : List XO := zOj
theorem xq18_31e : E3 zOi zOj := E3.rfl
abbrev zOl : List XO := [
  ⟨some 206, .p (.mov (T 18)), none⟩,
  ⟨some 207, .p (.iaddrA 8 1 (T 14) (C (.int .i64 0))), none⟩,
  ⟨some 208, .r (.load1 (T 207)), none⟩,
  ⟨some 209, .p (.iaddrA 8 1 (T 14) (C (.int .i64 1))), none⟩,
  ⟨some 210, .r (.load1 (T 209)), none⟩,
  ⟨some 211, .p (.bin .and (T 208) (T 210)), none⟩,
  ⟨some 212, .p (.iaddrA 8 1 (T 14) (C (.int .i64 0))), none⟩,
  ⟨some 213, .r (.load1 (T 212)), none⟩,
  ⟨some 214, .p (.iaddrA 8 1 (T 14) (C (.int .i64 2))), none⟩,
  ⟨some 215, .r (.load1 (T 214)), none⟩,
  ⟨some 216, .p (.bin .and (T 213) (T 215)), none⟩,
  ⟨some 217, .p (.bin .xor (T 211) (T 216)), none⟩,
  ⟨some 218, .p (.iaddrA 8 1 (T 14) (C (.int .i64 1))), none⟩,
  ⟨some 219, .r (.load1 (T 218)), none⟩,
  ⟨some 220, .p (.iaddrA 8 1 (T 14) (C (.int .i64 2))), none⟩,
  ⟨some 221, .r (.load1 (T 220)), none⟩,
  ⟨some 222, .p (.bin .and (T 219) (T 221)), none⟩,
  ⟨some 223, .p (.bin .xor (T 217) (T 222)), none⟩,
  ⟨some 224, .p (.bin .add (T 206) (T 223)), none⟩,
  ⟨some 19, .p (.mov (T 224)), none⟩]
def zOk : List XO := zOl
theorem xq18_32e : E3 zOk zOl := E3.rfl
abbrev zOn : List XO := [
  ⟨some 20, .p (.mov (C (.int .i64 7))), none⟩]
def zOm : List XO := zOn
theorem xq18_33e : E3 zOm zOn := E3.rfl
abbrev zOp : List XO := [
  ⟨some 225, .p (.mov (T 20)), none⟩,
  ⟨some 226, .p (.bin .gtr (T 225) (C (.int .i64 0))), none⟩]
def zOo : List XO := zOp
theorem xq18_34e : E3 zOo zOp := E3.rfl
abbrev zOr : List XO := [
  ⟨some 229, .p (.mov (T 20)), none⟩,
  ⟨some 230, .p (.mov (T 20)), none⟩,
  ⟨some 231, .p (.bin .sub (T 230) (C (.int .i64 1))), none⟩,
  ⟨some 232, .p (.iaddrA 8 1 (T 14) (T 231)), none⟩,
  ⟨some 233, .r (.load1 (T 232)), none⟩,
  ⟨some 234, .p (.iaddrA 8 1 (T 14) (T 229)), none⟩,
  ⟨none, .e (.store 1 (T 234) (T 233)), none⟩]
def zOq : List XO := zOr
theorem xq18_35e : E3 zOq zOr := E3.rfl
abbrev zOt : List XO := [
  ⟨some 227, .p (.mov (T 20)), none⟩,
  ⟨some 228, .p (.bin .sub (T 227) (C (.int .i64 1))), none⟩,
  ⟨some 20, .p (.mov (T 228)), none⟩]
def zOs : List XO := zOt
theorem xq18_36e : E3 zOs zOt := E3.rfl
def zHk : XC :=
  .seq (.seq (.ops zOo) (.cond (T 226) (.skip) (.exit 10))) (.seq (.block 11 (.ops zOq)) (.ops zOs))
def zHj : XC := zHk
theorem xq18_37k {pr : Prog} {k : List KI} {Q : XE → Fr → Heap → Prop} {t : Fr} {h : Heap} (hw : wpk pr zHk k Q t h) : wpk pr zHj k Q t h := hw
abbrev zOv : List XO := [
  ⟨some 235, .p (.iaddrA 8 1 (T 14) (C (.int .i64 4))), none⟩,
  ⟨some 236, .r (.load1 (T 235)), none⟩,
  ⟨some 237, .p (.mov (T 17)), none⟩,
  ⟨some 238, .p (.bin .add (T 236) (T 237)), none⟩,
  ⟨some 239, .p (.iaddrA 8 1 (T 14) (C (.int .i64 4))), none⟩,
  ⟨none, .e (.store 1 (T 239) (T 238)), none⟩]
def zOu : List XO := zOv
theorem xq18_38e : E3 zOu zOv := E3.rfl
abbrev zOx : List XO := [
  ⟨some 240, .p (.mov (T 17)), none⟩,
  ⟨some 241, .p (.mov (T 19)), none⟩,
  ⟨some 242, .p (.bin .add (T 240) (T 241)), none⟩,
  ⟨some 243, .p (.iaddrA 8 1 (T 14) (C (.int .i64 0))), none⟩,
  ⟨none, .e (.store 1 (T 243) (T 242)), none⟩]
def zOw : List XO := zOx
theorem xq18_39e : E3 zOw zOx := E3.rfl
abbrev zO0 : List XO := [
  ⟨some 157, .p (.mov (T 15)), none⟩,
  ⟨some 158, .p (.bin .add (T 157) (C (.int .i64 1))), none⟩,
  ⟨some 15, .p (.mov (T 158)), none⟩]
def zOz : List XO := zO0
theorem xq18_40e : E3 zOz zO0 := E3.rfl
def zHm : XC :=
  .seq (.seq (.ops zOb) (.cond (T 156) (.skip) (.exit 8))) (.seq (.block 9 (.seq (.draw zOd [(4, (2, [])), (8, (2, [])), (8, (5, []))]) (.seq (.draw zOg []) (.seq (.draw zOi [(4, (2, [])), (8, (2, [])), (8, (5, []))]) (.seq (.ops zOk) (.seq (.seq (.ops zOm) (.block 10 (.loop zHj))) (.seq (.ops zOu) (.ops zOw)))))))) (.ops zOz))
def zHl : XC := zHm
theorem xq18_41k {pr : Prog} {k : List KI} {Q : XE → Fr → Heap → Prop} {t : Fr} {h : Heap} (hw : wpk pr zHm k Q t h) : wpk pr zHl k Q t h := hw
abbrev zO2 : List XO := [
  ⟨some 21, .p (.mov (C (.int .i64 0))), none⟩]
def zO1 : List XO := zO2
theorem xq18_42e : E3 zO1 zO2 := E3.rfl
abbrev zO4 : List XO := [
  ⟨some 244, .p (.mov (T 21)), none⟩,
  ⟨some 245, .p (.bin .lss (T 244) (C (.int .i64 8))), none⟩]
def zO3 : List XO := zO4
theorem xq18_43e : E3 zO3 zO4 := E3.rfl
abbrev zO6 : List XO := [
  ⟨some 248, .p (.mov (T 21)), none⟩,
  ⟨some 249, .p (.iaddrA 8 1 (T 4) (T 248)), none⟩,
  ⟨some 250, .r (.load1 (T 249)), none⟩,
  ⟨some 251, .p (.mov (T 21)), none⟩,
  ⟨some 252, .p (.iaddrA 8 1 (T 14) (T 251)), none⟩,
  ⟨some 253, .r (.load1 (T 252)), none⟩,
  ⟨some 254, .p (.bin .add (T 250) (T 253)), none⟩,
  ⟨some 255, .p (.iaddrA 8 1 (T 4) (T 248)), none⟩,
  ⟨none, .e (.store 1 (T 255) (T 254)), none⟩]
def zO5 : List XO := zO6
theorem xq18_44e : E3 zO5 zO6 := E3.rfl
abbrev zO8 : List XO := [
  ⟨some 246, .p (.mov (T 21)), none⟩,
  ⟨some 247, .p (.bin .add (T 246) (C (.int .i64 1))), none⟩,
  ⟨some 21, .p (.mov (T 247)), none⟩]
def zO7 : List XO := zO8
theorem xq18_45e : E3 zO7 zO8 := E3.rfl
def zHo : XC :=
  .seq (.seq (.ops zO3) (.cond (T 245) (.skip) (.exit 12))) (.seq (.block 13 (.draw zO5 [])) (.ops zO7))
def zHn : XC := zHo
theorem xq18_46k {pr : Prog} {k : List KI} {Q : XE → Fr → Heap → Prop} {t : Fr} {h : Heap} (hw : wpk pr zHo k Q t h) : wpk pr zHn k Q t h := hw
abbrev zPA : List XO := [
  ⟨some 61, .p (.mov (T 8)), none⟩,
  ⟨some 62, .p (.bin .add (T 61) (C (.int .i64 64))), none⟩,
  ⟨some 8, .p (.mov (T 62)), none⟩]
def zO9 : List XO := zPA
theorem xq18_47e : E3 zO9 zPA := E3.rfl
def zHq : XC :=
  .seq (.seq (.ops zOA) (.cond (T 60) (.skip) (.exit 4))) (.seq (.block 5 (.seq (.ops zOC) (.seq (.seq (.ops zOE) (.block 6 (.loop zHh))) (.seq (.ops zOX) (.seq (.seq (.ops zOZ) (.block 8 (.loop zHl))) (.seq (.ops zO1) (.block 12 (.loop zHn)))))))) (.ops zO9))
def zHp : XC := zHq
theorem xq18_48k {pr : Prog} {k : List KI} {Q : XE → Fr → Heap → Prop} {t : Fr} {h : Heap} (hw : wpk pr zHq k Q t h) : wpk pr zHp k Q t h := hw
abbrev zPC : List XO := [
  ⟨some 256, .a (.bslice [] 0 []), none⟩,
  ⟨some 22, .p (.mov (T 256)), none⟩]
def zPB : List XO := zPC
theorem xq18_49e : E3 zPB zPC := E3.rfl
abbrev zPF : List XO := [
  ⟨some 23, .p (.mov (C (.int .i64 0))), none⟩]
def zPE : List XO := zPF
theorem xq18_50e : E3 zPE zPF := E3.rfl
abbrev zPH : List XO := [
  ⟨some 257, .p (.mov (T 23)), none⟩,
  ⟨some 258, .p (.bin .lss (T 257) (C (.int .i64 8))), none⟩]
def zPG : List XO := zPH
theorem xq18_51e : E3 zPG zPH := E3.rfl
abbrev zPJ : List XO := [
  ⟨some 261, .p (.mov (T 22)), none⟩,
  ⟨some 262, .p (.mov (T 23)), none⟩,
  ⟨some 263, .p (.iaddrA 8 1 (T 4) (T 262)), none⟩,
  ⟨some 264, .r (.load1 (T 263)), none⟩,
  ⟨some 265, .p (.bin .shr (T 264) (C (.int .u64 24))), none⟩,
  ⟨some 266, .p (.cint .u8 (T 265)), none⟩,
  ⟨some 267, .p (.mov (T 23)), none⟩,
  ⟨some 268, .p (.iaddrA 8 1 (T 4) (T 267)), none⟩,
  ⟨some 269, .r (.load1 (T 268)), none⟩,
  ⟨some 270, .p (.bin .shr (T 269) (C (.int .u64 16))), none⟩,
  ⟨some 271, .p (.cint .u8 (T 270)), none⟩,
  ⟨some 272, .p (.mov (T 23)), none⟩,
  ⟨some 273, .p (.iaddrA 8 1 (T 4) (T 272)), none⟩,
  ⟨some 274, .r (.load1 (T 273)), none⟩,
  ⟨some 275, .p (.bin .shr (T 274) (C (.int .u64 8))), none⟩,
  ⟨some 276, .p (.cint .u8 (T 275)), none⟩,
  ⟨some 277, .p (.mov (T 23)), none⟩,
  ⟨some 278, .p (.iaddrA 8 1 (T 4) (T 277)), none⟩,
  ⟨some 279, .r (.load1 (T 278)), none⟩,
  ⟨some 280, .p (.cint .u8 (T 279)), none⟩,
  ⟨some 281, .a (.bslice (List.replicate 4 (.int .u8 0)) 4 [(0, 1, (T 266)), (1, 1, (T 271)), (2, 1, (T 276)), (3, 1, (T 280))]), none⟩,
  ⟨some 282, .e (.append 1 1 (T 261) (T 281)), none⟩,
  ⟨some 22, .p (.mov (T 282)), none⟩]
def zPI : List XO := zPJ
theorem xq18_52e : E3 zPI zPJ := E3.rfl
abbrev zPL : List XO := [
  ⟨some 259, .p (.mov (T 23)), none⟩,
  ⟨some 260, .p (.bin .add (T 259) (C (.int .i64 1))), none⟩,
  ⟨some 23, .p (.mov (T 260)), none⟩]
def zPK : List XO := zPL
theorem xq18_53e : E3 zPK zPL := E3.rfl
def zHs : XC :=
  .seq (.seq (.ops zPG) (.cond (T 258) (.skip) (.exit 14))) (.seq (.block 15 (.draw zPI [(3, (21, [])), (8, (21, [])), (13, (21, [])), (18, (21, []))])) (.ops zPK))
def zHr : XC := zHs
theorem xq18_54k {pr : Prog} {k : List KI} {Q : XE → Fr → Heap → Prop} {t : Fr} {h : Heap} (hw : wpk pr zHs k Q t h) : wpk pr zHr k Q t h := hw
abbrev zPN : List XO := [
  ⟨some 283, .p (.mov (T 22)), none⟩,
  ⟨some 284, .r (.cb2s (T 283)), none⟩,
  ⟨some 2, .p (.mov (T 284)), none⟩]
def zPM : List XO := zPN
theorem xq18_55e : E3 zPM zPN := E3.rfl
def xq18 : XF := ⟨1, [.tmp 2],
  .seq (.ops xq18_0) (.seq (.ops xq18_1) (.seq (.ops xq18_2) (.seq (.ops xq18_3) (.seq (.block 0 (.loop zHt)) (.seq (.ops xq18_7) (.seq (.seq (.ops xq18_8) (.block 2 (.loop zHf))) (.seq (.seq (.ops zN8) (.block 4 (.loop zHp))) (.seq (.ops zPB) (.seq (.seq (.ops zPE) (.block 14 (.loop zHr))) (.seq (.ops zPM) (.ret)))))))))))⟩
def yq18 := PLift.up (And.intro (And.intro (And.intro (And.intro (And.intro (@xq18_0e) (And.intro (@xq18_1e) (@xq18_2e))) (And.intro (@xq18_3e) (And.intro (@xq18_4e) (@xq18_5e)))) (And.intro (And.intro (@xq18_7e) (And.intro (@xq18_8e) (@xq18_9e))) (And.intro (@xq18_10e) (And.intro (@xq18_11e) (@xq18_13e))))) (And.intro (And.intro (And.intro (@xq18_14e) (And.intro (@xq18_15e) (@xq18_16e))) (And.intro (@xq18_17e) (And.intro (@xq18_18e) (@xq18_19e)))) (And.intro (And.intro (@xq18_20e) (And.intro (@xq18_21e) (@xq18_22e))) (And.intro (@xq18_23e) (And.intro (@xq18_24e) (@xq18_26e)))))) (And.intro (And.intro (And.intro (And.intro (@xq18_27e) (And.intro (@xq18_28e) (@xq18_29e))) (And.intro (@xq18_30e) (And.intro (@xq18_31e) (@xq18_32e)))) (And.intro (And.intro (@xq18_33e) (And.intro (@xq18_34e) (@xq18_35e))) (And.intro (@xq18_36e) (And.intro (@xq18_38e) (@xq18_39e))))) (And.intro (And.intro (And.intro (@xq18_40e) (And.intro (@xq18_42e) (@xq18_43e))) (And.intro (@xq18_44e) (And.intro (@xq18_45e) (@xq18_47e)))) (And.intro (And.intro (@xq18_49e) (And.intro (@xq18_50e) (@xq18_51e))) (And.intro (@xq18_52e) (And.intro (@xq18_53e) (@xq18_55e)))))))
theorem cq18 : zb Try.prog Try.f18 = some xq18 := by kernel_rfl
abbrev zRf : List XO := [
  ⟨some 4, .p (.mov (C (.string (zB [])))), none⟩]
def xq60_0 : List XO := zRf
theorem xq60_0e : E3 xq60_0 zRf := E3.rfl
abbrev zRh : List XO := [
  ⟨some 7, .p (.mov (T 0)), none⟩,
  ⟨some 8, .p (.lenS (T 7)), none⟩,
  ⟨some 9, .p (.bin .gtr (T 8) (C (.int .i64 64))), none⟩]
def xq60_1 : List XO := zRh
theorem xq60_1e : E3 xq60_1 zRh := E3.rfl
abbrev zRi : List XO := [
  ⟨some 10, .p (.mov (T 0)), none⟩,
  ⟨some 11, .call (.func 59) [(T 10)], none⟩,
  ⟨some 0, .p (.mov (T 11)), none⟩]
def xq60_2 : List XO := zRi
theorem xq60_2e : E3 xq60_2 zRi := E3.rfl
abbrev zRj : List XO := [
  ⟨some 12, .p (.mov (T 0)), none⟩,
  ⟨some 13, .p (.mov (T 0)), none⟩,
  ⟨some 14, .p (.lenS (T 13)), none⟩,
  ⟨some 15, .p (.bin .sub (C (.int .i64 64)) (T 14)), none⟩,
  ⟨some 16, .call (.func 88) [(C (.string (zB [0]))), (T 15)], none⟩,
  ⟨some 17, .p (.bin .add (T 12) (T 16)), none⟩,
  ⟨some 18, .a (.cs2b (T 17)), none⟩,
  ⟨some 5, .p (.mov (T 18)), none⟩]
def zH6 : List XO := zRj
theorem xq60_3e : E3 zH6 zRj := E3.rfl
abbrev zRk : List XO := [
  ⟨some 19, .p (.mov (T 5)), none⟩,
  ⟨some 20, .p (.lenV (T 19)), none⟩,
  ⟨some 21, .p (.mov (C (.int .i64 0))), none⟩]
def zH7 : List XO := zRk
theorem xq60_4e : E3 zH7 zRk := E3.rfl
abbrev zRl : List XO := [
  ⟨some 22, .p (.bin .lss (T 21) (T 20)), none⟩]
def xq60_5 : List XO := zRl
theorem xq60_5e : E3 xq60_5 zRl := E3.rfl
abbrev zRm : List XO := [
  ⟨some 23, .p (.mov (T 21)), none⟩,
  ⟨some 6, .p (.mov (T 23)), none⟩]
def xq60_6 : List XO := zRm
theorem xq60_6e : E3 xq60_6 zRm := E3.rfl
abbrev zRn : List XO := [
  ⟨some 24, .p (.mov (T 5)), none⟩,
  ⟨some 25, .p (.mov (T 6)), none⟩,
  ⟨some 26, .p (.iaddrS 1 (T 24) (T 25)), none⟩,
  ⟨some 27, .r (.load1 (T 26)), none⟩,
  ⟨some 28, .p (.mov (T 1)), none⟩,
  ⟨some 29, .p (.bin .xor (T 27) (T 28)), none⟩,
  ⟨some 30, .p (.iaddrS 1 (T 24) (T 25)), none⟩,
  ⟨none, .e (.store 1 (T 30) (T 29)), none⟩]
def xq60_7 : List XO := zRn
theorem xq60_7e : E3 xq60_7 zRn := E3.rfl
abbrev zRo : List XO := [
  ⟨some 31, .p (.bin .add (T 21) (C (.int .i64 1))), none⟩,
  ⟨some 21, .p (.mov (T 31)), none⟩]
def xq60_8 : List XO := zRo
theorem xq60_8e : E3 xq60_8 zRo := E3.rfl
def zH9 : XC :=
  .seq (.ops xq60_5) (.seq (.cond (T 22) (.skip) (.exit 0)) (.seq (.block 1 (.seq (.ops xq60_6) (.ops xq60_7))) (.ops xq60_8)))
def zH8 : XC := zH9
theorem xq60_9k {pr : Prog} {k : List KI} {Q : XE → Fr → Heap → Prop} {t : Fr} {h : Heap} (hw : wpk pr zH9 k Q t h) : wpk pr zH8 k Q t h := hw
abbrev zRg : List XO := [
  ⟨some 32, .p (.mov (T 5)), none⟩,
  ⟨some 33, .r (.cb2s (T 32)), none⟩,
  ⟨some 4, .p (.mov (T 33)), none⟩]
def zH5 : List XO := zRg
theorem xq60_10e : E3 zH5 zRg := E3.rfl
def xq60 : XF := ⟨2, [.tmp 4],
  .seq (.ops xq60_0) (.seq (.seq (.ops xq60_1) (.cond (T 9) (.ops xq60_2) (.skip))) (.seq (.ops zH6) (.seq (.seq (.ops zH7) (.block 0 (.loop zH8))) (.seq (.ops zH5) (.ret)))))⟩
def yq60 := PLift.up (And.intro (And.intro (And.intro (@xq60_0e) (@xq60_1e)) (And.intro (@xq60_2e) (And.intro (@xq60_3e) (@xq60_4e)))) (And.intro (And.intro (@xq60_5e) (@xq60_6e)) (And.intro (@xq60_7e) (And.intro (@xq60_8e) (@xq60_10e)))))
theorem cq60 : zb Try.prog Try.f60 = some xq60 := by kernel_rfl
abbrev zN1 : List XO := [
  ⟨some 4, .p (.mov (C (.string (zB [])))), none⟩]
def xq17_0 : List XO := zN1
theorem xq17_0e : E3 xq17_0 zN1 := E3.rfl
abbrev zN2 : List XO := [
  ⟨some 5, .p (.mov (T 0)), none⟩,
  ⟨some 6, .call (.func 60) [(T 5), (C (.int .u8 92))], none⟩,
  ⟨some 7, .p (.mov (T 0)), none⟩,
  ⟨some 8, .call (.func 60) [(T 7), (C (.int .u8 54))], none⟩,
  ⟨some 9, .p (.mov (T 1)), none⟩,
  ⟨some 10, .p (.bin .add (T 8) (T 9)), none⟩,
  ⟨some 11, .call (.func 59) [(T 10)], none⟩,
  ⟨some 12, .p (.bin .add (T 6) (T 11)), none⟩,
  ⟨some 13, .call (.func 59) [(T 12)], none⟩,
  ⟨some 4, .p (.mov (T 13)), none⟩]
def xq17_1 : List XO := zN2
theorem xq17_1e : E3 xq17_1 zN2 := E3.rfl
def xq17 : XF := ⟨2, [.tmp 4],
  .seq (.ops xq17_0) (.seq (.ops xq17_1) (.ret))⟩
def yq17 := PLift.up (And.intro (@xq17_0e) (@xq17_1e))
theorem cq17 : zb Try.prog Try.f17 = some xq17 := by kernel_rfl
abbrev zPS : List XO := [
  ⟨some 4, .p (.mov (C (.string (zB [])))), none⟩]
def xq19_0 : List XO := zPS
theorem xq19_0e : E3 xq19_0 zPS := E3.rfl
abbrev zPV : List XO := [
  ⟨some 9, .p (.mov (T 0)), none⟩,
  ⟨some 10, .p (.lenS (T 9)), none⟩,
  ⟨some 11, .p (.bin .gtr (T 10) (C (.int .i64 64))), none⟩]
def xq19_1 : List XO := zPV
theorem xq19_1e : E3 xq19_1 zPV := E3.rfl
abbrev zPW : List XO := [
  ⟨some 12, .p (.mov (T 0)), none⟩,
  ⟨some 13, .call (.func 18) [(T 12)], none⟩,
  ⟨some 0, .p (.mov (T 13)), none⟩]
def xq19_2 : List XO := zPW
theorem xq19_2e : E3 xq19_2 zPW := E3.rfl
abbrev zPX : List XO := [
  ⟨some 14, .a (.bslice [] 0 []), none⟩,
  ⟨some 15, .a (.bslice [] 0 []), none⟩,
  ⟨some 5, .p (.mov (T 14)), none⟩,
  ⟨some 6, .p (.mov (T 15)), none⟩]
def zHx : List XO := zPX
theorem xq19_3e : E3 zHx zPX := E3.rfl
abbrev zPY : List XO := [
  ⟨some 7, .p (.mov (C (.int .i64 0))), none⟩]
def zHy : List XO := zPY
theorem xq19_4e : E3 zHy zPY := E3.rfl
abbrev zPZ : List XO := [
  ⟨some 16, .p (.mov (T 7)), none⟩,
  ⟨some 17, .p (.bin .lss (T 16) (C (.int .i64 64))), none⟩]
def xq19_5 : List XO := zPZ
theorem xq19_5e : E3 xq19_5 zPZ := E3.rfl
abbrev zPa : List XO := [
  ⟨some 8, .p (.mov (C (.int .u8 0))), none⟩]
def xq19_6 : List XO := zPa
theorem xq19_6e : E3 xq19_6 zPa := E3.rfl
abbrev zPb : List XO := [
  ⟨some 20, .p (.mov (T 7)), none⟩,
  ⟨some 21, .p (.mov (T 0)), none⟩,
  ⟨some 22, .p (.lenS (T 21)), none⟩,
  ⟨some 23, .p (.bin .lss (T 20) (T 22)), none⟩]
def xq19_7 : List XO := zPb
theorem xq19_7e : E3 xq19_7 zPb := E3.rfl
abbrev zPc : List XO := [
  ⟨some 24, .p (.mov (T 0)), none⟩,
  ⟨some 25, .p (.mov (T 7)), none⟩,
  ⟨some 26, .p (.idxS (T 24) (T 25)), none⟩,
  ⟨some 8, .p (.mov (T 26)), none⟩]
def xq19_8 : List XO := zPc
theorem xq19_8e : E3 xq19_8 zPc := E3.rfl
abbrev zPd : List XO := [
  ⟨some 27, .p (.mov (T 5)), none⟩,
  ⟨some 28, .p (.mov (T 8)), none⟩,
  ⟨some 29, .p (.bin .xor (T 28) (C (.int .u8 54))), none⟩,
  ⟨some 30, .a (.bslice [(.int .u8 0)] 1 [(0, 1, (T 29))]), none⟩,
  ⟨some 31, .e (.append 1 1 (T 27) (T 30)), none⟩,
  ⟨some 32, .p (.mov (T 6)), none⟩,
  ⟨some 33, .p (.mov (T 8)), none⟩,
  ⟨some 34, .p (.bin .xor (T 33) (C (.int .u8 92))), none⟩,
  ⟨some 35, .a (.bslice [(.int .u8 0)] 1 [(0, 1, (T 34))]), none⟩,
  ⟨some 36, .e (.append 1 1 (T 32) (T 35)), none⟩,
  ⟨some 5, .p (.mov (T 31)), none⟩,
  ⟨some 6, .p (.mov (T 36)), none⟩]
def zHz : List XO := zPd
theorem xq19_9e : E3 zHz zPd := E3.rfl
abbrev zPT : List XO := [
  ⟨some 18, .p (.mov (T 7)), none⟩,
  ⟨some 19, .p (.bin .add (T 18) (C (.int .i64 1))), none⟩,
  ⟨some 7, .p (.mov (T 19)), none⟩]
def zHv : List XO := zPT
theorem xq19_10e : E3 zHv zPT := E3.rfl
def zHw : XC :=
  .seq (.seq (.ops xq19_5) (.cond (T 17) (.skip) (.exit 0))) (.seq (.block 1 (.seq (.ops xq19_6) (.seq (.seq (.ops xq19_7) (.cond (T 23) (.ops xq19_8) (.skip))) (.ops zHz)))) (.ops zHv))
def zFa : XC := zHw
theorem xq19_11k {pr : Prog} {k : List KI} {Q : XE → Fr → Heap → Prop} {t : Fr} {h : Heap} (hw : wpk pr zHw k Q t h) : wpk pr zFa k Q t h := hw
abbrev zPU : List XO := [
  ⟨some 37, .p (.mov (T 6)), none⟩,
  ⟨some 38, .r (.cb2s (T 37)), none⟩,
  ⟨some 39, .p (.mov (T 5)), none⟩,
  ⟨some 40, .r (.cb2s (T 39)), none⟩,
  ⟨some 41, .p (.mov (T 1)), none⟩,
  ⟨some 42, .p (.bin .add (T 40) (T 41)), none⟩,
  ⟨some 43, .call (.func 18) [(T 42)], none⟩,
  ⟨some 44, .p (.bin .add (T 38) (T 43)), none⟩,
  ⟨some 45, .call (.func 18) [(T 44)], none⟩,
  ⟨some 4, .p (.mov (T 45)), none⟩]
def zFb : List XO := zPU
theorem xq19_12e : E3 zFb zPU := E3.rfl
def xq19 : XF := ⟨2, [.tmp 4],
  .seq (.ops xq19_0) (.seq (.seq (.ops xq19_1) (.cond (T 11) (.ops xq19_2) (.skip))) (.seq (.ops zHx) (.seq (.seq (.ops zHy) (.block 0 (.loop zFa))) (.seq (.draw zFb [(1, (8, []))]) (.ret)))))⟩
def yq19 := PLift.up (And.intro (And.intro (And.intro (@xq19_0e) (And.intro (@xq19_1e) (@xq19_2e))) (And.intro (@xq19_3e) (And.intro (@xq19_4e) (@xq19_5e)))) (And.intro (And.intro (@xq19_6e) (And.intro (@xq19_7e) (@xq19_8e))) (And.intro (@xq19_9e) (And.intro (@xq19_10e) (@xq19_12e)))))
theorem cq19 : zb Try.prog Try.f19 = some xq19 := by kernel_rfl
abbrev zPe : List XO := [
  ⟨some 6, .p (.mov (C (.bool false))), none⟩]
def xq20_0 : List XO := zPe
theorem xq20_0e : E3 xq20_0 zPe := E3.rfl
abbrev zPf : List XO := [
  ⟨some 7, .p (.mov (T 0)), none⟩,
  ⟨some 8, .p (.mov (T 1)), none⟩,
  ⟨some 9, .call (.func 17) [(T 7), (T 8)], none⟩,
  ⟨some 10, .p (.mov (T 2)), none⟩,
  ⟨some 11, .call (.func 63) [(T 9), (T 10)], none⟩,
  ⟨some 6, .p (.mov (T 11)), none⟩]
def xq20_1 : List XO := zPf
theorem xq20_1e : E3 xq20_1 zPf := E3.rfl
def xq20 : XF := ⟨3, [.tmp 6],
  .seq (.ops xq20_0) (.seq (.ops xq20_1) (.ret))⟩
def yq20 := PLift.up (And.intro (@xq20_0e) (@xq20_1e))
theorem cq20 : zb Try.prog Try.f20 = some xq20 := by kernel_rfl
abbrev zRt : List XO := [
  ⟨some 4, .p (.mov (C (.bool false))), none⟩]
def xq63_0 : List XO := zRt
theorem xq63_0e : E3 xq63_0 zRt := E3.rfl
abbrev zRw : List XO := [
  ⟨some 7, .p (.mov (T 0)), none⟩,
  ⟨some 8, .p (.lenS (T 7)), none⟩,
  ⟨some 9, .p (.mov (T 1)), none⟩,
  ⟨some 10, .p (.lenS (T 9)), none⟩,
  ⟨some 11, .p (.eql true .int (T 8) (T 10)), none⟩]
def xq63_1 : List XO := zRw
theorem xq63_1e : E3 xq63_1 zRw := E3.rfl
abbrev zRx : List XO := [
  ⟨some 4, .p (.mov (C (.bool false))), none⟩]
def xq63_2 : List XO := zRx
theorem xq63_2e : E3 xq63_2 zRx := E3.rfl
abbrev zRy : List XO := [
  ⟨some 5, .p (.mov (C (.int .u8 0))), none⟩]
def xq63_3 : List XO := zRy
theorem xq63_3e : E3 xq63_3 zRy := E3.rfl
abbrev zRz : List XO := [
  ⟨some 12, .p (.mov (T 0)), none⟩,
  ⟨some 13, .p (.lenS (T 12)), none⟩,
  ⟨some 14, .p (.mov (C (.int .i64 0))), none⟩]
def xq63_4 : List XO := zRz
theorem xq63_4e : E3 xq63_4 zRz := E3.rfl
abbrev zR0 : List XO := [
  ⟨some 15, .p (.bin .lss (T 14) (T 13)), none⟩]
def xq63_5 : List XO := zR0
theorem xq63_5e : E3 xq63_5 zR0 := E3.rfl
abbrev zR1 : List XO := [
  ⟨some 16, .p (.mov (T 14)), none⟩,
  ⟨some 6, .p (.mov (T 16)), none⟩]
def xq63_6 : List XO := zR1
theorem xq63_6e : E3 xq63_6 zR1 := E3.rfl
abbrev zR2 : List XO := [
  ⟨some 17, .p (.mov (T 5)), none⟩,
  ⟨some 18, .p (.mov (T 0)), none⟩,
  ⟨some 19, .p (.mov (T 6)), none⟩,
  ⟨some 20, .p (.idxS (T 18) (T 19)), none⟩,
  ⟨some 21, .p (.mov (T 1)), none⟩,
  ⟨some 22, .p (.mov (T 6)), none⟩,
  ⟨some 23, .p (.idxS (T 21) (T 22)), none⟩,
  ⟨some 24, .p (.bin .xor (T 20) (T 23)), none⟩,
  ⟨some 25, .p (.bin .or (T 17) (T 24)), none⟩,
  ⟨some 5, .p (.mov (T 25)), none⟩]
def xq63_7 : List XO := zR2
theorem xq63_7e : E3 xq63_7 zR2 := E3.rfl
abbrev zR3 : List XO := [
  ⟨some 26, .p (.bin .add (T 14) (C (.int .i64 1))), none⟩,
  ⟨some 14, .p (.mov (T 26)), none⟩]
def xq63_8 : List XO := zR3
theorem xq63_8e : E3 xq63_8 zR3 := E3.rfl
def zIA : XC :=
  .seq (.ops xq63_5) (.seq (.cond (T 15) (.skip) (.exit 0)) (.seq (.block 1 (.seq (.ops xq63_6) (.draw xq63_7 []))) (.ops xq63_8)))
def xq63_9 : XC := zIA
theorem xq63_9k {pr : Prog} {k : List KI} {Q : XE → Fr → Heap → Prop} {t : Fr} {h : Heap} (hw : wpk pr zIA k Q t h) : wpk pr xq63_9 k Q t h := hw
abbrev zRv : List XO := [
  ⟨some 27, .p (.mov (T 5)), none⟩,
  ⟨some 28, .p (.eql false .int (T 27) (C (.int .u8 0))), none⟩,
  ⟨some 4, .p (.mov (T 28)), none⟩]
def zRu : List XO := zRv
theorem xq63_10e : E3 zRu zRv := E3.rfl
def xq63 : XF := ⟨2, [.tmp 4],
  .seq (.ops xq63_0) (.seq (.seq (.ops xq63_1) (.cond (T 11) (.seq (.ops xq63_2) (.ret)) (.skip))) (.seq (.ops xq63_3) (.seq (.seq (.ops xq63_4) (.block 0 (.loop xq63_9))) (.seq (.ops zRu) (.ret)))))⟩
def yq63 := PLift.up (And.intro (And.intro (And.intro (@xq63_0e) (@xq63_1e)) (And.intro (@xq63_2e) (And.intro (@xq63_3e) (@xq63_4e)))) (And.intro (And.intro (@xq63_5e) (@xq63_6e)) (And.intro (@xq63_7e) (And.intro (@xq63_8e) (@xq63_10e)))))
theorem cq63 : zb Try.prog Try.f63 = some xq63 := by kernel_rfl
end Go.X
end
section
namespace Go.X
open Go.Proofs
abbrev zPg : List XO := [
  ⟨some 4, .p (.mov (C (.string (zB [])))), none⟩,
  ⟨some 5, .p (.mov (C (.bool false))), none⟩]
def xq23_0 : List XO := zPg
theorem xq23_0e : E3 xq23_0 zPg := E3.rfl
abbrev zPh : List XO := [
  ⟨some 6, .p (.mov (T 0)), none⟩,
  ⟨some 7, .p (.eql false .nptr (T 6) (C (.pointer none))), none⟩,
  ⟨some 8, .p (.mov (T 7)), none⟩,
  ⟨some 9, .p (.mov (T 1)), some (8, false)⟩,
  ⟨some 10, .p (.bin .lss (T 9) (C (.int .i64 0))), some (8, false)⟩,
  ⟨some 11, .p (.pick (T 8) (C (.bool true)) (T 10)), none⟩,
  ⟨some 12, .p (.mov (T 11)), none⟩,
  ⟨some 13, .p (.mov (T 1)), some (12, false)⟩,
  ⟨some 14, .p (.mov (T 0)), some (12, false)⟩,
  ⟨some 15, .p (.nilc (T 14)), some (12, false)⟩,
  ⟨some 16, .p (.faddr 0 (T 15)), some (12, false)⟩,
  ⟨some 17, .r (.load1 (T 16)), some (12, false)⟩,
  ⟨some 18, .p (.lenV (T 17)), some (12, false)⟩,
  ⟨some 19, .p (.bin .geq (T 13) (T 18)), some (12, false)⟩,
  ⟨some 20, .p (.pick (T 12) (C (.bool true)) (T 19)), none⟩]
def xq23_1 : List XO := zPh
theorem xq23_1e : E3 xq23_1 zPh := E3.rfl
abbrev zPi : List XO := [
  ⟨some 4, .p (.mov (C (.string (zB [])))), none⟩,
  ⟨some 5, .p (.mov (C (.bool false))), none⟩]
def xq23_2 : List XO := zPi
theorem xq23_2e : E3 xq23_2 zPi := E3.rfl
abbrev zPj : List XO := [
  ⟨some 21, .p (.mov (T 0)), none⟩,
  ⟨some 22, .p (.nilc (T 21)), none⟩,
  ⟨some 23, .p (.faddr 0 (T 22)), none⟩,
  ⟨some 24, .r (.load1 (T 23)), none⟩,
  ⟨some 25, .p (.mov (T 1)), none⟩,
  ⟨some 26, .p (.iaddrS 1 (T 24) (T 25)), none⟩,
  ⟨some 27, .r (.load1 (T 26)), none⟩,
  ⟨some 4, .p (.mov (T 27)), none⟩,
  ⟨some 5, .p (.mov (C (.bool true))), none⟩]
def xq23_3 : List XO := zPj
theorem xq23_3e : E3 xq23_3 zPj := E3.rfl
def xq23 : XF := ⟨2, [.tmp 4, .tmp 5],
  .seq (.ops xq23_0) (.seq (.seq (.ops xq23_1) (.cond (T 20) (.seq (.ops xq23_2) (.ret)) (.skip))) (.seq (.ops xq23_3) (.ret)))⟩
def yq23 := PLift.up (And.intro (And.intro (@xq23_0e) (@xq23_1e)) (And.intro (@xq23_2e) (@xq23_3e)))
theorem cq23 : zb Try.prog Try.f23 = some xq23 := by kernel_rfl
abbrev zPk : List XO := [
  ⟨some 6, .p (.mov (C (.string (zB [])))), none⟩,
  ⟨some 7, .p (.mov (C (.int .i64 0))), none⟩]
def xq24_0 : List XO := zPk
theorem xq24_0e : E3 xq24_0 zPk := E3.rfl
abbrev zPl : List XO := [
  ⟨some 11, .p (.mov (T 0)), none⟩,
  ⟨some 12, .p (.mov (T 1)), none⟩,
  ⟨some 13, .call (.func 23) [(T 11), (T 12)], none⟩,
  ⟨some 10, .p (.mov (T 13)), none⟩,
  ⟨some 14, .p (.ext (T 10) 0), none⟩,
  ⟨some 15, .p (.ext (T 10) 1), none⟩,
  ⟨some 8, .p (.mov (T 14)), none⟩,
  ⟨some 9, .p (.mov (T 15)), none⟩]
def xq24_1 : List XO := zPl
theorem xq24_1e : E3 xq24_1 zPl := E3.rfl
abbrev zPm : List XO := [
  ⟨some 16, .p (.mov (T 9)), none⟩,
  ⟨some 17, .p (.un .not (T 16)), none⟩]
def xq24_2 : List XO := zPm
theorem xq24_2e : E3 xq24_2 zPm := E3.rfl
abbrev zPn : List XO := [
  ⟨some 6, .p (.mov (C (.string (zB [])))), none⟩,
  ⟨some 7, .p (.mov (C (.int .i64 2))), none⟩]
def xq24_3 : List XO := zPn
theorem xq24_3e : E3 xq24_3 zPn := E3.rfl
abbrev zPo : List XO := [
  ⟨some 18, .p (.mov (T 8)), none⟩,
  ⟨some 19, .p (.mov (T 2)), none⟩,
  ⟨some 20, .call (.func 17) [(T 18), (T 19)], none⟩,
  ⟨some 6, .p (.mov (T 20)), none⟩,
  ⟨some 7, .p (.mov (C (.int .i64 0))), none⟩]
def xq24_4 : List XO := zPo
theorem xq24_4e : E3 xq24_4 zPo := E3.rfl
def xq24 : XF := ⟨3, [.tmp 6, .tmp 7],
  .seq (.ops xq24_0) (.seq (.ops xq24_1) (.seq (.seq (.ops xq24_2) (.cond (T 17) (.seq (.ops xq24_3) (.ret)) (.skip))) (.seq (.ops xq24_4) (.ret))))⟩
def yq24 := PLift.up (And.intro (And.intro (@xq24_0e) (@xq24_1e)) (And.intro (@xq24_2e) (And.intro (@xq24_3e) (@xq24_4e))))
theorem cq24 : zb Try.prog Try.f24 = some xq24 := by kernel_rfl
abbrev zPp : List XO := [
  ⟨some 2, .p (.mov (C (.int .i64 0))), none⟩]
def xq25_0 : List XO := zPp
theorem xq25_0e : E3 xq25_0 zPp := E3.rfl
abbrev zPq : List XO := [
  ⟨some 3, .p (.mov (T 0)), none⟩,
  ⟨some 4, .p (.eql false .nptr (T 3) (C (.pointer none))), none⟩]
def xq25_1 : List XO := zPq
theorem xq25_1e : E3 xq25_1 zPq := E3.rfl
abbrev zPr : List XO := [
  ⟨some 2, .p (.mov (C (.int .i64 0))), none⟩]
def xq25_2 : List XO := zPr
theorem xq25_2e : E3 xq25_2 zPr := E3.rfl
abbrev zPs : List XO := [
  ⟨some 5, .p (.mov (T 0)), none⟩,
  ⟨some 6, .p (.nilc (T 5)), none⟩,
  ⟨some 7, .p (.faddr 0 (T 6)), none⟩,
  ⟨some 8, .r (.load1 (T 7)), none⟩,
  ⟨some 9, .p (.lenV (T 8)), none⟩,
  ⟨some 2, .p (.mov (T 9)), none⟩]
def xq25_3 : List XO := zPs
theorem xq25_3e : E3 xq25_3 zPs := E3.rfl
def xq25 : XF := ⟨1, [.tmp 2],
  .seq (.ops xq25_0) (.seq (.seq (.ops xq25_1) (.cond (T 4) (.seq (.ops xq25_2) (.ret)) (.skip))) (.seq (.ops xq25_3) (.ret)))⟩
def yq25 := PLift.up (And.intro (And.intro (@xq25_0e) (@xq25_1e)) (And.intro (@xq25_2e) (@xq25_3e)))
theorem cq25 : zb Try.prog Try.f25 = some xq25 := by kernel_rfl
abbrev zPt : List XO := [
  ⟨some 8, .p (.mov (C (.bool false))), none⟩]
def xq26_0 : List XO := zPt
theorem xq26_0e : E3 xq26_0 zPt := E3.rfl
abbrev zPu : List XO := [
  ⟨some 12, .p (.mov (T 0)), none⟩,
  ⟨some 13, .p (.mov (T 1)), none⟩,
  ⟨some 14, .call (.func 23) [(T 12), (T 13)], none⟩,
  ⟨some 11, .p (.mov (T 14)), none⟩,
  ⟨some 15, .p (.ext (T 11) 0), none⟩,
  ⟨some 16, .p (.ext (T 11) 1), none⟩,
  ⟨some 9, .p (.mov (T 15)), none⟩,
  ⟨some 10, .p (.mov (T 16)), none⟩]
def xq26_1 : List XO := zPu
theorem xq26_1e : E3 xq26_1 zPu := E3.rfl
abbrev zPv : List XO := [
  ⟨some 17, .p (.mov (T 10)), none⟩,
  ⟨some 18, .p (.mov (T 17)), none⟩,
  ⟨some 19, .p (.mov (T 9)), some (18, true)⟩,
  ⟨some 20, .p (.mov (T 2)), some (18, true)⟩,
  ⟨some 21, .p (.mov (T 3)), some (18, true)⟩,
  ⟨some 22, .call (.func 20) [(T 19), (T 20), (T 21)], some (18, true)⟩,
  ⟨some 23, .p (.pick (T 18) (T 22) (C (.bool false))), none⟩,
  ⟨some 8, .p (.mov (T 23)), none⟩]
def xq26_2 : List XO := zPv
theorem xq26_2e : E3 xq26_2 zPv := E3.rfl
def xq26 : XF := ⟨4, [.tmp 8],
  .seq (.ops xq26_0) (.seq (.ops xq26_1) (.seq (.ops xq26_2) (.ret)))⟩
def yq26 := PLift.up (And.intro (@xq26_0e) (And.intro (@xq26_1e) (@xq26_2e)))
theorem cq26 : zb Try.prog Try.f26 = some xq26 := by kernel_rfl
end Go.X
end
section
namespace Go.X
open Go.Proofs
abbrev zTf : List XO := [
  ⟨some 2, .p (.mov (C (.string (zB [])))), none⟩]
def xq89_0 : List XO := zTf
theorem xq89_0e : E3 xq89_0 zTf := E3.rfl
abbrev zTg : List XO := [
  ⟨some 3, .p (.mov (T 0)), none⟩,
  ⟨some 4, .p (.bin .shr (T 3) (C (.int .u64 24))), none⟩,
  ⟨some 5, .p (.cint .u8 (T 4)), none⟩,
  ⟨some 6, .p (.mov (T 0)), none⟩,
  ⟨some 7, .p (.bin .shr (T 6) (C (.int .u64 16))), none⟩,
  ⟨some 8, .p (.cint .u8 (T 7)), none⟩,
  ⟨some 9, .p (.mov (T 0)), none⟩,
  ⟨some 10, .p (.bin .shr (T 9) (C (.int .u64 8))), none⟩,
  ⟨some 11, .p (.cint .u8 (T 10)), none⟩,
  ⟨some 12, .p (.mov (T 0)), none⟩,
  ⟨some 13, .p (.cint .u8 (T 12)), none⟩,
  ⟨some 14, .a (.bslice (List.replicate 4 (.int .u8 0)) 4 [(0, 1, (T 5)), (1, 1, (T 8)), (2, 1, (T 11)), (3, 1, (T 13))]), none⟩,
  ⟨some 15, .r (.cb2s (T 14)), none⟩,
  ⟨some 2, .p (.mov (T 15)), none⟩]
def xq89_1 : List XO := zTg
theorem xq89_1e : E3 xq89_1 zTg := E3.rfl
def xq89 : XF := ⟨1, [.tmp 2],
  .seq (.ops xq89_0) (.seq (.ops xq89_1) (.ret))⟩
def yq89 := PLift.up (And.intro (@xq89_0e) (@xq89_1e))
theorem cq89 : zb Try.prog Try.f89 = some xq89 := by kernel_rfl
abbrev zR4 : List XO := [
  ⟨some 4, .p (.mov (C (.string (zB [])))), none⟩]
def xq64_0 : List XO := zR4
theorem xq64_0e : E3 xq64_0 zR4 := E3.rfl
abbrev zR7 : List XO := [
  ⟨some 8, .call (.func 85) [], none⟩,
  ⟨some 5, .p (.mov (T 8)), none⟩]
def xq64_1 : List XO := zR7
theorem xq64_1e : E3 xq64_1 zR7 := E3.rfl
abbrev zR8 : List XO := [
  ⟨some 9, .p (.mov (T 5)), none⟩,
  ⟨some 10, .p (.mov (T 0)), none⟩,
  ⟨some 11, .a (.bslice [(.int .u8 0)] 1 [(0, 1, (T 10))]), none⟩,
  ⟨some 12, .r (.cb2s (T 11)), none⟩,
  ⟨some 13, .call (.func 86) [(T 9), (T 12)], none⟩]
def xq64_2 : List XO := zR8
theorem xq64_2e : E3 xq64_2 zR8 := E3.rfl
abbrev zR9 : List XO := [
  ⟨some 14, .p (.mov (T 1)), none⟩,
  ⟨some 15, .p (.lenV (T 14)), none⟩,
  ⟨some 16, .p (.mov (C (.int .i64 0))), none⟩]
def xq64_3 : List XO := zR9
theorem xq64_3e : E3 xq64_3 zR9 := E3.rfl
abbrev zSA : List XO := [
  ⟨some 17, .p (.bin .lss (T 16) (T 15)), none⟩]
def xq64_4 : List XO := zSA
theorem xq64_4e : E3 xq64_4 zSA := E3.rfl
abbrev zSB : List XO := [
  ⟨some 18, .p (.iaddrS 1 (T 14) (T 16)), none⟩,
  ⟨some 19, .r (.load1 (T 18)), none⟩,
  ⟨some 7, .p (.mov (T 19)), none⟩]
def xq64_5 : List XO := zSB
theorem xq64_5e : E3 xq64_5 zSB := E3.rfl
abbrev zSC : List XO := [
  ⟨some 20, .p (.mov (T 5)), none⟩,
  ⟨some 21, .p (.mov (T 7)), none⟩,
  ⟨some 22, .p (.lenS (T 21)), none⟩,
  ⟨some 23, .call (.func 89) [(T 22)], none⟩,
  ⟨some 24, .call (.func 86) [(T 20), (T 23)], none⟩]
def xq64_6 : List XO := zSC
theorem xq64_6e : E3 xq64_6 zSC := E3.rfl
abbrev zSD : List XO := [
  ⟨some 25, .p (.mov (T 5)), none⟩,
  ⟨some 26, .p (.mov (T 7)), none⟩,
  ⟨some 27, .call (.func 86) [(T 25), (T 26)], none⟩]
def xq64_7 : List XO := zSD
theorem xq64_7e : E3 xq64_7 zSD := E3.rfl
abbrev zSE : List XO := [
  ⟨some 28, .p (.bin .add (T 16) (C (.int .i64 1))), none⟩,
  ⟨some 16, .p (.mov (T 28)), none⟩]
def xq64_8 : List XO := zSE
theorem xq64_8e : E3 xq64_8 zSE := E3.rfl
def zIB : XC :=
  .seq (.ops xq64_4) (.seq (.cond (T 17) (.skip) (.exit 0)) (.seq (.block 1 (.seq (.ops xq64_5) (.seq (.ops xq64_6) (.ops xq64_7)))) (.ops xq64_8)))
def xq64_9 : XC := zIB
theorem xq64_9k {pr : Prog} {k : List KI} {Q : XE → Fr → Heap → Prop} {t : Fr} {h : Heap} (hw : wpk pr zIB k Q t h) : wpk pr xq64_9 k Q t h := hw
abbrev zR6 : List XO := [
  ⟨some 29, .p (.mov (T 5)), none⟩,
  ⟨some 30, .call (.func 87) [(T 29)], none⟩,
  ⟨some 4, .p (.mov (T 30)), none⟩]
def zR5 : List XO := zR6
theorem xq64_10e : E3 zR5 zR6 := E3.rfl
def xq64 : XF := ⟨2, [.tmp 4],
  .seq (.ops xq64_0) (.seq (.ops xq64_1) (.seq (.ops xq64_2) (.seq (.seq (.ops xq64_3) (.block 0 (.loop xq64_9))) (.seq (.ops zR5) (.ret)))))⟩
def yq64 := PLift.up (And.intro (And.intro (And.intro (@xq64_0e) (@xq64_1e)) (And.intro (@xq64_2e) (And.intro (@xq64_3e) (@xq64_4e)))) (And.intro (And.intro (@xq64_5e) (@xq64_6e)) (And.intro (@xq64_7e) (And.intro (@xq64_8e) (@xq64_10e)))))
theorem cq64 : zb Try.prog Try.f64 = some xq64 := by kernel_rfl
abbrev zP7 : List XO := [
  ⟨some 4, .p (.mov (C (.string (zB [])))), none⟩]
def xq28_0 : List XO := zP7
theorem xq28_0e : E3 xq28_0 zP7 := E3.rfl
abbrev zP8 : List XO := [
  ⟨some 8, .p (.mov (T 0)), none⟩,
  ⟨some 9, .a (.bslice [(.int .u8 0)] 1 [(0, 1, (T 8))]), none⟩,
  ⟨some 10, .r (.cb2s (T 9)), none⟩,
  ⟨some 5, .p (.mov (T 10)), none⟩]
def xq28_1 : List XO := zP8
theorem xq28_1e : E3 xq28_1 zP8 := E3.rfl
abbrev zP9 : List XO := [
  ⟨some 6, .p (.mov (C (.int .i64 0))), none⟩]
def xq28_2 : List XO := zP9
theorem xq28_2e : E3 xq28_2 zP9 := E3.rfl
abbrev zQA : List XO := [
  ⟨some 11, .p (.mov (T 6)), none⟩,
  ⟨some 12, .p (.mov (T 1)), none⟩,
  ⟨some 13, .p (.lenV (T 12)), none⟩,
  ⟨some 14, .p (.bin .lss (T 11) (T 13)), none⟩]
def xq28_3 : List XO := zQA
theorem xq28_3e : E3 xq28_3 zQA := E3.rfl
abbrev zQB : List XO := [
  ⟨some 17, .p (.mov (T 1)), none⟩,
  ⟨some 18, .p (.mov (T 6)), none⟩,
  ⟨some 19, .p (.iaddrS 1 (T 17) (T 18)), none⟩,
  ⟨some 20, .r (.load1 (T 19)), none⟩,
  ⟨some 21, .p (.lenS (T 20)), none⟩,
  ⟨some 7, .p (.mov (T 21)), none⟩]
def xq28_4 : List XO := zQB
theorem xq28_4e : E3 xq28_4 zQB := E3.rfl
abbrev zQC : List XO := [
  ⟨some 22, .p (.mov (T 5)), none⟩,
  ⟨some 23, .p (.mov (T 7)), none⟩,
  ⟨some 24, .p (.bin .quo (T 23) (C (.int .i64 16777216))), none⟩,
  ⟨some 25, .p (.cint .u8 (T 24)), none⟩,
  ⟨some 26, .p (.mov (T 7)), none⟩,
  ⟨some 27, .p (.bin .quo (T 26) (C (.int .i64 65536))), none⟩,
  ⟨some 28, .p (.cint .u8 (T 27)), none⟩,
  ⟨some 29, .p (.mov (T 7)), none⟩,
  ⟨some 30, .p (.bin .quo (T 29) (C (.int .i64 256))), none⟩,
  ⟨some 31, .p (.cint .u8 (T 30)), none⟩,
  ⟨some 32, .p (.mov (T 7)), none⟩,
  ⟨some 33, .p (.cint .u8 (T 32)), none⟩,
  ⟨some 34, .a (.bslice (List.replicate 4 (.int .u8 0)) 4 [(0, 1, (T 25)), (1, 1, (T 28)), (2, 1, (T 31)), (3, 1, (T 33))]), none⟩,
  ⟨some 35, .r (.cb2s (T 34)), none⟩,
  ⟨some 36, .p (.mov (T 1)), none⟩,
  ⟨some 37, .p (.mov (T 6)), none⟩,
  ⟨some 38, .p (.iaddrS 1 (T 36) (T 37)), none⟩,
  ⟨some 39, .r (.load1 (T 38)), none⟩,
  ⟨some 40, .p (.bin .add (T 35) (T 39)), none⟩,
  ⟨some 41, .p (.bin .add (T 22) (T 40)), none⟩,
  ⟨some 5, .p (.mov (T 41)), none⟩]
def xq28_5 : List XO := zQC
theorem xq28_5e : E3 xq28_5 zQC := E3.rfl
abbrev zQD : List XO := [
  ⟨some 15, .p (.mov (T 6)), none⟩,
  ⟨some 16, .p (.bin .add (T 15) (C (.int .i64 1))), none⟩,
  ⟨some 6, .p (.mov (T 16)), none⟩]
def xq28_6 : List XO := zQD
theorem xq28_6e : E3 xq28_6 zQD := E3.rfl
def zH1 : XC :=
  .seq (.seq (.ops xq28_3) (.cond (T 14) (.skip) (.exit 0))) (.seq (.block 1 (.seq (.ops xq28_4) (.draw xq28_5 []))) (.ops xq28_6))
def xq28_7 : XC := zH1
theorem xq28_7k {pr : Prog} {k : List KI} {Q : XE → Fr → Heap → Prop} {t : Fr} {h : Heap} (hw : wpk pr zH1 k Q t h) : wpk pr xq28_7 k Q t h := hw
abbrev zQE : List XO := [
  ⟨some 42, .p (.mov (T 5)), none⟩,
  ⟨some 43, .call (.func 18) [(T 42)], none⟩,
  ⟨some 4, .p (.mov (T 43)), none⟩]
def xq28_8 : List XO := zQE
theorem xq28_8e : E3 xq28_8 zQE := E3.rfl
def xq28 : XF := ⟨2, [.tmp 4],
  .seq (.ops xq28_0) (.seq (.ops xq28_1) (.seq (.seq (.ops xq28_2) (.block 0 (.loop xq28_7))) (.seq (.ops xq28_8) (.ret))))⟩
def yq28 := PLift.up (And.intro (And.intro (And.intro (@xq28_0e) (@xq28_1e)) (And.intro (@xq28_2e) (@xq28_3e))) (And.intro (And.intro (@xq28_4e) (@xq28_5e)) (And.intro (@xq28_6e) (@xq28_8e))))
theorem cq28 : zb Try.prog Try.f28 = some xq28 := by kernel_rfl
abbrev zPw : List XO := [
  ⟨some 4, .p (.mov (C (.pointer none))), none⟩,
  ⟨some 5, .p (.mov (C (.int .i64 0))), none⟩]
def xq27_0 : List XO := zPw
theorem xq27_0e : E3 xq27_0 zPw := E3.rfl
abbrev zPz : List XO := [
  ⟨some 8, .p (.mov (T 1)), none⟩,
  ⟨some 9, .p (.bin .lss (T 8) (C (.int .i64 0))), none⟩,
  ⟨some 10, .p (.mov (T 9)), none⟩,
  ⟨some 11, .p (.mov (T 1)), some (10, false)⟩,
  ⟨some 12, .p (.bin .gtr (T 11) (C (.int .i64 16))), some (10, false)⟩,
  ⟨some 13, .p (.pick (T 10) (C (.bool true)) (T 12)), none⟩]
def xq27_1 : List XO := zPz
theorem xq27_1e : E3 xq27_1 zPz := E3.rfl
abbrev zP0 : List XO := [
  ⟨some 4, .p (.mov (C (.pointer none))), none⟩,
  ⟨some 5, .p (.mov (C (.int .i64 1))), none⟩]
def xq27_2 : List XO := zP0
theorem xq27_2e : E3 xq27_2 zP0 := E3.rfl
abbrev zP1 : List XO := [
  ⟨some 14, .p (.build [(.slice none 0 0)] []), none⟩,
  ⟨some 15, .a (.box (T 14)), none⟩,
  ⟨some 6, .p (.mov (T 15)), none⟩]
def xq27_3 : List XO := zP1
theorem xq27_3e : E3 xq27_3 zP1 := E3.rfl
abbrev zP2 : List XO := [
  ⟨some 16, .p (.mov (T 1)), none⟩,
  ⟨some 17, .p (.mov (C (.int .i64 0))), none⟩]
def xq27_4 : List XO := zP2
theorem xq27_4e : E3 xq27_4 zP2 := E3.rfl
abbrev zP3 : List XO := [
  ⟨some 18, .p (.bin .lss (T 17) (T 16)), none⟩]
def xq27_5 : List XO := zP3
theorem xq27_5e : E3 xq27_5 zP3 := E3.rfl
abbrev zP4 : List XO := [
  ⟨some 19, .p (.mov (T 17)), none⟩,
  ⟨some 7, .p (.mov (T 19)), none⟩]
def xq27_6 : List XO := zP4
theorem xq27_6e : E3 xq27_6 zP4 := E3.rfl
abbrev zP5 : List XO := [
  ⟨some 20, .p (.mov (T 6)), none⟩,
  ⟨some 21, .p (.mov (T 6)), none⟩,
  ⟨some 22, .p (.nilc (T 21)), none⟩,
  ⟨some 23, .p (.faddr 0 (T 22)), none⟩,
  ⟨some 24, .r (.load1 (T 23)), none⟩,
  ⟨some 25, .p (.mov (T 0)), none⟩,
  ⟨some 26, .p (.mov (T 7)), none⟩,
  ⟨some 27, .p (.cint .u8 (T 26)), none⟩,
  ⟨some 28, .a (.bslice [(.int .u8 0)] 1 [(0, 1, (T 27))]), none⟩,
  ⟨some 29, .r (.cb2s (T 28)), none⟩,
  ⟨some 30, .a (.bslice [(.string (zB [])), (.string (zB []))] 2 [(0, 1, (T 25)), (1, 1, (T 29))]), none⟩,
  ⟨some 31, .call (.func 64) [(C (.int .u8 75)), (T 30)], none⟩,
  ⟨some 32, .a (.bslice [(.string (zB []))] 1 [(0, 1, (T 31))]), none⟩,
  ⟨some 33, .e (.append 1 16 (T 24) (T 32)), none⟩,
  ⟨some 34, .p (.nilc (T 20)), none⟩,
  ⟨some 35, .p (.faddr 0 (T 34)), none⟩,
  ⟨none, .e (.store 1 (T 35) (T 33)), none⟩]
def xq27_7 : List XO := zP5
theorem xq27_7e : E3 xq27_7 zP5 := E3.rfl
abbrev zP6 : List XO := [
  ⟨some 36, .p (.bin .add (T 17) (C (.int .i64 1))), none⟩,
  ⟨some 17, .p (.mov (T 36)), none⟩]
def xq27_8 : List XO := zP6
theorem xq27_8e : E3 xq27_8 zP6 := E3.rfl
def zH0 : XC :=
  .seq (.ops xq27_5) (.seq (.cond (T 18) (.skip) (.exit 0)) (.seq (.block 1 (.seq (.ops xq27_6) (.draw xq27_7 [(4, (11, [])), (4, (13, [])), (9, (11, []))]))) (.ops xq27_8)))
def xq27_9 : XC := zH0
theorem xq27_9k {pr : Prog} {k : List KI} {Q : XE → Fr → Heap → Prop} {t : Fr} {h : Heap} (hw : wpk pr zH0 k Q t h) : wpk pr xq27_9 k Q t h := hw
abbrev zPy : List XO := [
  ⟨some 37, .p (.mov (T 6)), none⟩,
  ⟨some 4, .p (.mov (T 37)), none⟩,
  ⟨some 5, .p (.mov (C (.int .i64 0))), none⟩]
def zPx : List XO := zPy
theorem xq27_10e : E3 zPx zPy := E3.rfl
def xq27 : XF := ⟨2, [.tmp 4, .tmp 5],
  .seq (.ops xq27_0) (.seq (.seq (.ops xq27_1) (.cond (T 13) (.seq (.ops xq27_2) (.ret)) (.skip))) (.seq (.ops xq27_3) (.seq (.seq (.ops xq27_4) (.block 0 (.loop xq27_9))) (.seq (.ops zPx) (.ret)))))⟩
def yq27 := PLift.up (And.intro (And.intro (And.intro (@xq27_0e) (@xq27_1e)) (And.intro (@xq27_2e) (And.intro (@xq27_3e) (@xq27_4e)))) (And.intro (And.intro (@xq27_5e) (@xq27_6e)) (And.intro (@xq27_7e) (And.intro (@xq27_8e) (@xq27_10e)))))
theorem cq27 : zb Try.prog Try.f27 = some xq27 := by kernel_rfl
end Go.X
end
