/- The digest in plain words; the functions of the seat as the interpreter has them, each held against the loaded program. -/
import Derived.Test.YtmhkcnibbodjnaaProg
import Derived.KernelRfl
import Derived.Test.YtmhkcnibbodjnaaXC
set_option linter.unusedSimpArgs false
set_option linter.unusedVariables false
set_option maxHeartbeats 2000000
section
/- SHA-256 over lists of numbers, plain. -/
namespace Go.X.Sha
def rotr (x n : Nat) : Nat := Nat.lor ((x % 4294967296) >>> n) ((x <<< (32 - n)) % 4294967296)
def s0 (x : Nat) : Nat := Nat.xor (Nat.xor (rotr x 7) (rotr x 18)) ((x % 4294967296) >>> 3)
def s1 (x : Nat) : Nat := Nat.xor (Nat.xor (rotr x 17) (rotr x 19)) ((x % 4294967296) >>> 10)
def e0 (x : Nat) : Nat := Nat.xor (Nat.xor (rotr x 2) (rotr x 13)) (rotr x 22)
def e1 (x : Nat) : Nat := Nat.xor (Nat.xor (rotr x 6) (rotr x 11)) (rotr x 25)
def ch (e f g : Nat) : Nat := Nat.xor (Nat.land e f) (Nat.land (4294967295 - e % 4294967296) g)
def maj (a b c : Nat) : Nat := Nat.xor (Nat.xor (Nat.land a b) (Nat.land a c)) (Nat.land b c)
def K : List Nat := [
0x428a2f98, 0x71374491, 0xb5c0fbcf, 0xe9b5dba5, 0x3956c25b, 0x59f111f1, 0x923f82a4, 0xab1c5ed5,
  0xd807aa98, 0x12835b01, 0x243185be, 0x550c7dc3, 0x72be5d74, 0x80deb1fe, 0x9bdc06a7, 0xc19bf174,
  0xe49b69c1, 0xefbe4786, 0x0fc19dc6, 0x240ca1cc, 0x2de92c6f, 0x4a7484aa, 0x5cb0a9dc, 0x76f988da,
  0x983e5152, 0xa831c66d, 0xb00327c8, 0xbf597fc7, 0xc6e00bf3, 0xd5a79147, 0x06ca6351, 0x14292967,
  0x27b70a85, 0x2e1b2138, 0x4d2c6dfc, 0x53380d13, 0x650a7354, 0x766a0abb, 0x81c2c92e, 0x92722c85,
  0xa2bfe8a1, 0xa81a664b, 0xc24b8b70, 0xc76c51a3, 0xd192e819, 0xd6990624, 0xf40e3585, 0x106aa070,
  0x19a4c116, 0x1e376c08, 0x2748774c, 0x34b0bcb5, 0x391c0cb3, 0x4ed8aa4a, 0x5b9cca4f, 0x682e6ff3,
  0x748f82ee, 0x78a5636f, 0x84c87814, 0x8cc70208, 0x90befffa, 0xa4506ceb, 0xbef9a3f7, 0xc67178f2]
def H0 : List Nat := [0x6a09e667, 0xbb67ae85, 0x3c6ef372, 0xa54ff53a, 0x510e527f, 0x9b05688c, 0x1f83d9ab, 0x5be0cd19]
/-- one round's new state -/
def round (k w : Nat) : List Nat → List Nat
  | [a, b, c, d, e, f, g, h] =>
    let t := (h + e1 e + ch e f g + k + w) % 4294967296
    [(t + e0 a + maj a b c) % 4294967296, a, b, c, (d + t) % 4294967296, e, f, g]
  | l => l
/-- the words of a block from the sixteen of the window on, so many -/
def sched : Nat → List Nat → List Nat
  | 0, _ => []
  | n + 1, w => (w.getD 0 0) :: sched n (w.drop 1 ++ [(w.getD 0 0 + s0 (w.getD 1 0) + w.getD 9 0 + s1 (w.getD 14 0)) % 4294967296])
def rounds : List Nat → List Nat → List Nat → List Nat
  | k :: ks, w :: ws, v => rounds ks ws (round k w v)
  | _, _, v => v
def addAll : List Nat → List Nat → List Nat
  | a :: u, b :: bs => ((a + b) % 4294967296) :: addAll u bs
  | _, _ => []
def block (h w : List Nat) : List Nat := addAll h (rounds K (sched 64 w) h)
/-- bytes to words, four a word -/
def words : List Nat → List Nat
  | a :: b :: c :: d :: r => (((a * 256 + b) * 256 + c) * 256 + d) :: words r
  | _ => []
def blocks : Nat → List Nat → List Nat → List Nat
  | 0, h, _ => h
  | n + 1, h, w => blocks n (block h (w.take 16)) (w.drop 16)
def lenBytes (n : Nat) : List Nat := [n / 72057594037927936 % 256, n / 281474976710656 % 256, n / 1099511627776 % 256, n / 4294967296 % 256, n / 16777216 % 256, n / 65536 % 256, n / 256 % 256, n % 256]
def pad (b : List Nat) : List Nat := b ++ 128 :: List.replicate ((119 - b.length % 64) % 64) 0 ++ lenBytes (b.length * 8 % 18446744073709551616)
def toBytes : List Nat → List Nat
  | [] => []
  | x :: r => (x / 16777216 % 256) :: (x / 65536 % 256) :: (x / 256 % 256) :: (x % 256) :: toBytes r
def shaN (b : List Nat) : List Nat := toBytes (blocks ((pad b).length / 64) H0 (words (pad b)))
def sha (b : List UInt8) : List UInt8 := (shaN (b.map (·.toNat))).map UInt8.ofNat
end Go.X.Sha
end

section
/-
  SHA-256: the words of a block, as an array fills.
-/
namespace Go.X.Sha
/-- the word behind those -/
def nxt (l : List Nat) : Nat := (l.getD (l.length - 16) 0 + s0 (l.getD (l.length - 15) 0) + l.getD (l.length - 7) 0 + s1 (l.getD (l.length - 2) 0)) % 4294967296
def ext : List Nat → Nat → List Nat
  | l, 0 => l
  | l, n + 1 => ext (l ++ [nxt l]) n
theorem ext_succ : ∀ (n : Nat) (l : List Nat), ext l (n + 1) = ext l n ++ [nxt (ext l n)]
  | 0, l => rfl
  | n + 1, l => by
    show ext (l ++ [nxt l]) (n + 1) = ext (l ++ [nxt l]) n ++ [nxt (ext (l ++ [nxt l]) n)]
    exact ext_succ n _
theorem ext_len : ∀ (n : Nat) (l : List Nat), (ext l n).length = l.length + n
  | 0, l => rfl
  | n + 1, l => by rw [ext_succ, List.length_append, ext_len n l]; rfl
theorem nxt_cons (a : Nat) (l : List Nat) (h : 16 ≤ l.length) : nxt (a :: l) = nxt l := by
  have e : ∀ j, j ≤ 16 → 1 ≤ j → (a :: l).getD ((a :: l).length - j) 0 = l.getD (l.length - j) 0 := fun j h1 h2 => by
    rw [show (a :: l).length - j = (l.length - j) + 1 by simp; omega]; rfl
  unfold nxt
  rw [e 16 (by omega) (by omega), e 15 (by omega) (by omega), e 7 (by omega) (by omega), e 2 (by omega) (by omega)]
theorem ext_cons : ∀ (n a : Nat) (l : List Nat), 16 ≤ l.length → ext (a :: l) n = a :: ext l n
  | 0, a, l, h => rfl
  | n + 1, a, l, h => by
    show ext (a :: l ++ [nxt (a :: l)]) n = a :: ext (l ++ [nxt l]) n
    rw [nxt_cons a l h, List.cons_append]
    exact ext_cons n a _ (by simp; omega)
theorem nxt_win (w : List Nat) (h : w.length = 16) : nxt w = (w.getD 0 0 + s0 (w.getD 1 0) + w.getD 9 0 + s1 (w.getD 14 0)) % 4294967296 := by
  unfold nxt; rw [h]
theorem sched_short : ∀ (n : Nat) (w : List Nat), w.length = 16 → n ≤ 16 → sched n w = w.take n := by
  have key : ∀ (n : Nat) (w : List Nat) (x : List Nat), w.length + x.length = 16 → n ≤ w.length → sched n (w ++ x) = w.take n := by
    intro n
    induction n with
    | zero => intro w x _ _; rfl
    | succ n ih =>
      intro w x h hn
      cases w with
      | nil => simp at hn
      | cons a w =>
        simp only [sched, List.cons_append, List.drop_succ_cons, List.drop_zero, List.take_succ_cons]
        rw [List.append_assoc, ih w _ (by simp at h ⊢; omega) (by simp at hn; omega)]
        rfl
  intro n w h hn
  have := key n w [] (by simpa using h) (by omega)
  simpa using this
theorem sched_ext : ∀ (m : Nat) (w : List Nat), w.length = 16 → sched (16 + m) w = ext w m
  | 0, w, h => by rw [sched_short 16 w h (Nat.le_refl _)]; simp [ext, ← h]
  | m + 1, w, h => by
    cases w with
    | nil => simp at h
    | cons a w =>
      show sched ((16 + m) + 1) (a :: w) = ext (a :: w ++ [nxt (a :: w)]) m
      rw [List.cons_append, ext_cons m a _ (by simp at h ⊢; omega), nxt_win _ h]
      simp only [sched]
      rw [sched_ext m _ (by simp at h ⊢; omega)]
      rfl
end Go.X.Sha
end

section
/-
  SHA-256 over bytes, block by block.
-/
namespace Go.X
/-- the word at i of those bytes -/
def wordAt (b : Nat → Nat) (i : Nat) : Nat := ((b (4 * i) * 256 + b (4 * i + 1)) * 256 + b (4 * i + 2)) * 256 + b (4 * i + 3)
def winOf (b : Nat → Nat) : List Nat := (List.range 16).map (wordAt b)
theorem winOf_len (b : Nat → Nat) : (winOf b).length = 16 := by simp [winOf]
def winB (l : List UInt8) : List Nat := winOf fun j => (l.getD j 0).toNat
theorem winB_take {l : List UInt8} {n : Nat} (hn : 64 ≤ n) : winB (l.take n) = winB l := by
  unfold winB winOf
  refine List.map_congr_left fun i hi => ?_
  have hi' : i < 16 := List.mem_range.1 hi
  have e : ∀ j, j < 64 → (l.take n).getD j 0 = l.getD j 0 := fun j hj => by
    simp only [List.getD_eq_getElem?_getD]
    rw [List.getElem?_take, if_pos (by omega)]
  unfold wordAt
  dsimp only
  rw [e _ (by omega), e _ (by omega), e _ (by omega), e _ (by omega)]
def absorb : Nat → List Nat → List UInt8 → List Nat
  | 0, h, _ => h
  | n + 1, h, b => absorb n (Sha.block h (winB b)) (b.drop 64)
theorem absorb_succ : ∀ (i : Nat) (h : List Nat) (b : List UInt8), absorb (i + 1) h b = Sha.block (absorb i h b) (winB (b.drop (64 * i)))
  | 0, h, b => by simp [absorb]
  | i + 1, h, b => by
    rw [absorb, absorb_succ i]
    simp only [absorb, List.drop_drop]
    rw [show 64 + 64 * i = 64 * (i + 1) by omega]
theorem absorb_add : ∀ (i j : Nat) (h : List Nat) (b : List UInt8), absorb (i + j) h b = absorb j (absorb i h b) (b.drop (64 * i))
  | 0, j, h, b => by simp [absorb]
  | i + 1, j, h, b => by
    rw [show i + 1 + j = (i + j) + 1 by omega]
    simp only [absorb]
    rw [absorb_add i j, List.drop_drop, show 64 + 64 * i = 64 * (i + 1) by omega]
theorem winB_append {a b : List UInt8} (h : 64 ≤ a.length) : winB (a ++ b) = winB a := by
  rw [← winB_take (l := a ++ b) h]
  simp
theorem absorb_append : ∀ (i : Nat) (h : List Nat) (a b : List UInt8), 64 * i ≤ a.length → absorb i h (a ++ b) = absorb i h a
  | 0, h, a, b, _ => rfl
  | i + 1, h, a, b, hl => by
    simp only [absorb]
    rw [winB_append (by omega), List.drop_append_of_le_length (by omega)]
    exact absorb_append i _ _ b (by simp; omega)
theorem addAll_len : ∀ (a b : List Nat), a.length = b.length → (Sha.addAll a b).length = a.length
  | [], [], _ => rfl
  | x :: a, y :: b, h => by simp [Sha.addAll, addAll_len a b (by simpa using h)]
  | [], _ :: _, h => by simp at h
  | _ :: _, [], h => by simp at h
def lenB (n : Nat) : List UInt8 := (List.range 8).map fun i => UInt8.ofNat ((n % 18446744073709551616) >>> (8 * (7 - i)))
theorem lenB_len (n : Nat) : (lenB n).length = 8 := by simp [lenB]
def zeros (n : Nat) : Nat := (119 - n % 64) % 64
/-- what is left, and the padding of so many bytes -/
def padB (r : List UInt8) (n : Nat) : List UInt8 := r ++ [128] ++ List.replicate (zeros r.length) 0 ++ lenB (n * 8)
theorem padB_len (r : List UInt8) (n : Nat) : (padB r n).length = 64 * ((padB r n).length / 64) := by
  have : (padB r n).length = r.length + 1 + zeros r.length + 8 := by simp [padB, lenB_len]; omega
  rw [this]
  unfold zeros
  omega
def outW (x : Nat) : List UInt8 := (List.range 4).map fun k => UInt8.ofNat ((x % 4294967296) >>> (8 * (3 - k)))
def outB (hs : List Nat) : List UInt8 := hs.flatMap outW
def fin (hs : List Nat) (r : List UInt8) (n : Nat) : List UInt8 := outB (absorb ((padB r n).length / 64) hs (padB r n))
/-- the digest of bytes -/
def sha (s : List UInt8) : List UInt8 := fin Sha.H0 s s.length
theorem zeros_drop (a b : Nat) (h : a = b % 64) : zeros a = zeros b := by unfold zeros; omega
theorem sha_parts (s : List UInt8) : fin (absorb (s.length / 64) Sha.H0 s) (s.drop (64 * (s.length / 64))) s.length = sha s := by
  unfold sha fin
  have hl : (s.drop (64 * (s.length / 64))).length = s.length % 64 := by rw [List.length_drop]; omega
  have hp : padB s s.length = s.take (64 * (s.length / 64)) ++ padB (s.drop (64 * (s.length / 64))) s.length := by
    unfold padB
    rw [zeros_drop _ s.length hl]
    simp only [← List.append_assoc]
    rw [List.take_append_drop]
  have hq := padB_len (s.drop (64 * (s.length / 64))) s.length
  generalize padB (s.drop (64 * (s.length / 64))) s.length = p at *
  generalize padB s s.length = q at *
  subst hp
  have htl : (s.take (64 * (s.length / 64))).length = 64 * (s.length / 64) := by rw [List.length_take]; omega
  have hn : (s.take (64 * (s.length / 64)) ++ p).length / 64 = s.length / 64 + p.length / 64 := by
    rw [List.length_append, htl]; omega
  rw [hn, absorb_add]
  congr 1
  rw [absorb_append _ _ _ _ (by omega), List.drop_append, htl, List.drop_of_length_le (by omega)]
  simp only [Nat.sub_self, List.drop_zero, List.nil_append]
  congr 1
  have := absorb_append (s.length / 64) Sha.H0 (s.take (64 * (s.length / 64))) (s.drop (64 * (s.length / 64))) (by rw [htl]; exact Nat.le_refl _)
  rw [List.take_append_drop] at this
  exact this
theorem outB_len : ∀ (hs : List Nat), (outB hs).length = 4 * hs.length
  | [] => rfl
  | x :: hs => by
    have := outB_len hs
    simp only [outB, List.flatMap_cons, List.length_append, List.length_cons] at *
    rw [this]
    simp [outW]; omega
end Go.X
end

section
/-
  The functions of the seat as the interpreter has them: made by a program out of the loaded program itself; each is held against it by the kernel.
-/
namespace Go.X
open Go.Proofs
/- muniment/sha.right -/
abbrev x_sha_right_0l : List XO := [
  ⟨some 4, .p (.mov (C (.int .u32 0))), none⟩]
def x_sha_right_0 : List XO := x_sha_right_0l
theorem x_sha_right_0e : E3 x_sha_right_0 x_sha_right_0l := E3.rfl
abbrev x_sha_right_1l : List XO := [
  ⟨some 5, .p (.mov (T 0)), none⟩,
  ⟨some 6, .p (.mov (T 1)), none⟩,
  ⟨some 7, .p (.un .neg (T 6)), none⟩,
  ⟨some 8, .call (.func 126) [(T 5), (T 7)], none⟩,
  ⟨some 4, .p (.mov (T 8)), none⟩]
def x_sha_right_1 : List XO := x_sha_right_1l
theorem x_sha_right_1e : E3 x_sha_right_1 x_sha_right_1l := E3.rfl
def x_sha_right : XF := ⟨2, [.tmp 4],
  .seq (.ops x_sha_right_0) (.seq (.ops x_sha_right_1) (.ret))⟩
def y_sha_right := PLift.up (And.intro (@x_sha_right_0e) (@x_sha_right_1e))
theorem c_sha_right : funcC Try.prog Try.f118 = some x_sha_right := by kernel_rfl
/- math/bits.RotateLeft32 -/
abbrev x_math_bits_RotateLeft32_0l : List XO := [
  ⟨some 4, .p (.mov (C (.int .u32 0))), none⟩]
def x_math_bits_RotateLeft32_0 : List XO := x_math_bits_RotateLeft32_0l
theorem x_math_bits_RotateLeft32_0e : E3 x_math_bits_RotateLeft32_0 x_math_bits_RotateLeft32_0l := E3.rfl
abbrev x_math_bits_RotateLeft32_1l : List XO := [
  ⟨some 6, .p (.mov (T 1)), none⟩,
  ⟨some 7, .p (.cint .u64 (T 6)), none⟩,
  ⟨some 8, .p (.bin .and (T 7) (C (.int .u64 31))), none⟩,
  ⟨some 5, .p (.mov (T 8)), none⟩]
def x_math_bits_RotateLeft32_1 : List XO := x_math_bits_RotateLeft32_1l
theorem x_math_bits_RotateLeft32_1e : E3 x_math_bits_RotateLeft32_1 x_math_bits_RotateLeft32_1l := E3.rfl
abbrev x_math_bits_RotateLeft32_2l : List XO := [
  ⟨some 9, .p (.mov (T 0)), none⟩,
  ⟨some 10, .p (.mov (T 5)), none⟩,
  ⟨some 11, .p (.bin .shl (T 9) (T 10)), none⟩,
  ⟨some 12, .p (.mov (T 0)), none⟩,
  ⟨some 13, .p (.mov (T 5)), none⟩,
  ⟨some 14, .p (.bin .sub (C (.int .u64 32)) (T 13)), none⟩,
  ⟨some 15, .p (.bin .shr (T 12) (T 14)), none⟩,
  ⟨some 16, .p (.bin .or (T 11) (T 15)), none⟩,
  ⟨some 4, .p (.mov (T 16)), none⟩]
def x_math_bits_RotateLeft32_2 : List XO := x_math_bits_RotateLeft32_2l
theorem x_math_bits_RotateLeft32_2e : E3 x_math_bits_RotateLeft32_2 x_math_bits_RotateLeft32_2l := E3.rfl
def x_math_bits_RotateLeft32 : XF := ⟨2, [.tmp 4],
  .seq (.ops x_math_bits_RotateLeft32_0) (.seq (.ops x_math_bits_RotateLeft32_1) (.seq (.ops x_math_bits_RotateLeft32_2) (.ret)))⟩
def y_math_bits_RotateLeft32 := PLift.up (And.intro (@x_math_bits_RotateLeft32_0e) (And.intro (@x_math_bits_RotateLeft32_1e) (@x_math_bits_RotateLeft32_2e)))
theorem c_math_bits_RotateLeft32 : funcC Try.prog Try.f126 = some x_math_bits_RotateLeft32 := by kernel_rfl
/- muniment/sha.constants -/
abbrev x_sha_constants_0l : List XO := [
  ⟨some 0, .a (.alloc (List.replicate 64 (.int .u32 0))), none⟩]
def x_sha_constants_0 : List XO := x_sha_constants_0l
theorem x_sha_constants_0e : E3 x_sha_constants_0 x_sha_constants_0l := E3.rfl
abbrev x_sha_constants_1l : List XO := [
  ⟨some 1, .p (.build (List.replicate 64 (.int .u32 0)) [(0, 1, (C (.int .u32 1116352408))), (1, 1, (C (.int .u32 1899447441))), (2, 1, (C (.int .u32 3049323471))), (3, 1, (C (.int .u32 3921009573))), (4, 1, (C (.int .u32 961987163))), (5, 1, (C (.int .u32 1508970993))), (6, 1, (C (.int .u32 2453635748))), (7, 1, (C (.int .u32 2870763221))), (8, 1, (C (.int .u32 3624381080))), (9, 1, (C (.int .u32 310598401))), (10, 1, (C (.int .u32 607225278))), (11, 1, (C (.int .u32 1426881987))), (12, 1, (C (.int .u32 1925078388))), (13, 1, (C (.int .u32 2162078206))), (14, 1, (C (.int .u32 2614888103))), (15, 1, (C (.int .u32 3248222580))), (16, 1, (C (.int .u32 3835390401))), (17, 1, (C (.int .u32 4022224774))), (18, 1, (C (.int .u32 264347078))), (19, 1, (C (.int .u32 604807628))), (20, 1, (C (.int .u32 770255983))), (21, 1, (C (.int .u32 1249150122))), (22, 1, (C (.int .u32 1555081692))), (23, 1, (C (.int .u32 1996064986))), (24, 1, (C (.int .u32 2554220882))), (25, 1, (C (.int .u32 2821834349))), (26, 1, (C (.int .u32 2952996808))), (27, 1, (C (.int .u32 3210313671))), (28, 1, (C (.int .u32 3336571891))), (29, 1, (C (.int .u32 3584528711))), (30, 1, (C (.int .u32 113926993))), (31, 1, (C (.int .u32 338241895))), (32, 1, (C (.int .u32 666307205))), (33, 1, (C (.int .u32 773529912))), (34, 1, (C (.int .u32 1294757372))), (35, 1, (C (.int .u32 1396182291))), (36, 1, (C (.int .u32 1695183700))), (37, 1, (C (.int .u32 1986661051))), (38, 1, (C (.int .u32 2177026350))), (39, 1, (C (.int .u32 2456956037))), (40, 1, (C (.int .u32 2730485921))), (41, 1, (C (.int .u32 2820302411))), (42, 1, (C (.int .u32 3259730800))), (43, 1, (C (.int .u32 3345764771))), (44, 1, (C (.int .u32 3516065817))), (45, 1, (C (.int .u32 3600352804))), (46, 1, (C (.int .u32 4094571909))), (47, 1, (C (.int .u32 275423344))), (48, 1, (C (.int .u32 430227734))), (49, 1, (C (.int .u32 506948616))), (50, 1, (C (.int .u32 659060556))), (51, 1, (C (.int .u32 883997877))), (52, 1, (C (.int .u32 958139571))), (53, 1, (C (.int .u32 1322822218))), (54, 1, (C (.int .u32 1537002063))), (55, 1, (C (.int .u32 1747873779))), (56, 1, (C (.int .u32 1955562222))), (57, 1, (C (.int .u32 2024104815))), (58, 1, (C (.int .u32 2227730452))), (59, 1, (C (.int .u32 2361852424))), (60, 1, (C (.int .u32 2428436474))), (61, 1, (C (.int .u32 2756734187))), (62, 1, (C (.int .u32 3204031479))), (63, 1, (C (.int .u32 3329325298)))]), none⟩,
  ⟨none, .e (.store 64 (T 0) (T 1)), none⟩]
def x_sha_constants_1 : List XO := x_sha_constants_1l
theorem x_sha_constants_1e : E3 x_sha_constants_1 x_sha_constants_1l := E3.rfl
def x_sha_constants : XF := ⟨0, [.cellN 0 64],
  .seq (.ops x_sha_constants_0) (.seq (.ops x_sha_constants_1) (.ret))⟩
def y_sha_constants := PLift.up (And.intro (@x_sha_constants_0e) (@x_sha_constants_1e))
theorem c_sha_constants : funcC Try.prog Try.f116 = some x_sha_constants := by kernel_rfl
/- muniment/sha.begin -/
abbrev x_sha_begin_0l : List XO := [
  ⟨some 0, .a (.alloc (List.replicate 8 (.int .u32 0))), none⟩]
def x_sha_begin_0 : List XO := x_sha_begin_0l
theorem x_sha_begin_0e : E3 x_sha_begin_0 x_sha_begin_0l := E3.rfl
abbrev x_sha_begin_1l : List XO := [
  ⟨some 1, .p (.build (List.replicate 8 (.int .u32 0)) [(0, 1, (C (.int .u32 1779033703))), (1, 1, (C (.int .u32 3144134277))), (2, 1, (C (.int .u32 1013904242))), (3, 1, (C (.int .u32 2773480762))), (4, 1, (C (.int .u32 1359893119))), (5, 1, (C (.int .u32 2600822924))), (6, 1, (C (.int .u32 528734635))), (7, 1, (C (.int .u32 1541459225)))]), none⟩,
  ⟨none, .e (.store 8 (T 0) (T 1)), none⟩]
def x_sha_begin_1 : List XO := x_sha_begin_1l
theorem x_sha_begin_1e : E3 x_sha_begin_1 x_sha_begin_1l := E3.rfl
def x_sha_begin : XF := ⟨0, [.cellN 0 8],
  .seq (.ops x_sha_begin_0) (.seq (.ops x_sha_begin_1) (.ret))⟩
def y_sha_begin := PLift.up (And.intro (@x_sha_begin_0e) (@x_sha_begin_1e))
theorem c_sha_begin : funcC Try.prog Try.f103 = some x_sha_begin := by kernel_rfl
/- muniment/sha.words -/
abbrev x_sha_words_0l : List XO := [
  ⟨some 2, .a (.alloc (List.replicate 64 (.int .u32 0))), none⟩]
def x_sha_words_0 : List XO := x_sha_words_0l
theorem x_sha_words_0e : E3 x_sha_words_0 x_sha_words_0l := E3.rfl
abbrev x_sha_words_1l : List XO := [
  ⟨some 3, .a (.alloc (List.replicate 64 (.int .u32 0))), none⟩]
def x_sha_words_1 : List XO := x_sha_words_1l
theorem x_sha_words_1e : E3 x_sha_words_1 x_sha_words_1l := E3.rfl
abbrev x_sha_words_2l : List XO := [
  ⟨some 11, .p (.mov (C (.int .i64 0))), none⟩]
def x_sha_words_2 : List XO := x_sha_words_2l
theorem x_sha_words_2e : E3 x_sha_words_2 x_sha_words_2l := E3.rfl
abbrev x_sha_words_3l : List XO := [
  ⟨some 12, .p (.bin .lss (T 11) (C (.int .i64 16))), none⟩]
def x_sha_words_3 : List XO := x_sha_words_3l
theorem x_sha_words_3e : E3 x_sha_words_3 x_sha_words_3l := E3.rfl
abbrev x_sha_words_4l : List XO := [
  ⟨some 13, .p (.mov (T 11)), none⟩,
  ⟨some 4, .p (.mov (T 13)), none⟩]
def x_sha_words_4 : List XO := x_sha_words_4l
theorem x_sha_words_4e : E3 x_sha_words_4 x_sha_words_4l := E3.rfl
abbrev x_sha_words_5l : List XO := [
  ⟨some 14, .p (.mov (C (.int .i64 0))), none⟩]
def x_sha_words_5 : List XO := x_sha_words_5l
theorem x_sha_words_5e : E3 x_sha_words_5 x_sha_words_5l := E3.rfl
abbrev x_sha_words_6l : List XO := [
  ⟨some 15, .p (.bin .lss (T 14) (C (.int .i64 4))), none⟩]
def x_sha_words_6 : List XO := x_sha_words_6l
theorem x_sha_words_6e : E3 x_sha_words_6 x_sha_words_6l := E3.rfl
abbrev x_sha_words_7l : List XO := [
  ⟨some 16, .p (.mov (T 14)), none⟩,
  ⟨some 5, .p (.mov (T 16)), none⟩]
def x_sha_words_7 : List XO := x_sha_words_7l
theorem x_sha_words_7e : E3 x_sha_words_7 x_sha_words_7l := E3.rfl
abbrev x_sha_words_8l : List XO := [
  ⟨some 17, .p (.mov (T 4)), none⟩,
  ⟨some 18, .p (.mov (T 4)), none⟩,
  ⟨some 19, .p (.iaddrA 64 1 (T 3) (T 18)), none⟩,
  ⟨some 20, .r (.load1 (T 19)), none⟩,
  ⟨some 21, .p (.bin .shl (T 20) (C (.int .u64 8))), none⟩,
  ⟨some 22, .p (.mov (T 0)), none⟩,
  ⟨some 23, .p (.mov (T 4)), none⟩,
  ⟨some 24, .p (.bin .mul (C (.int .i64 4)) (T 23)), none⟩,
  ⟨some 25, .p (.mov (T 5)), none⟩,
  ⟨some 26, .p (.bin .add (T 24) (T 25)), none⟩,
  ⟨some 27, .p (.iaddrS 1 (T 22) (T 26)), none⟩,
  ⟨some 28, .r (.load1 (T 27)), none⟩,
  ⟨some 29, .p (.cint .u32 (T 28)), none⟩,
  ⟨some 30, .p (.bin .or (T 21) (T 29)), none⟩,
  ⟨some 31, .p (.iaddrA 64 1 (T 3) (T 17)), none⟩,
  ⟨none, .e (.store 1 (T 31) (T 30)), none⟩]
def x_sha_words_8 : List XO := x_sha_words_8l
theorem x_sha_words_8e : E3 x_sha_words_8 x_sha_words_8l := E3.rfl
abbrev x_sha_words_9l : List XO := [
  ⟨some 32, .p (.bin .add (T 14) (C (.int .i64 1))), none⟩,
  ⟨some 14, .p (.mov (T 32)), none⟩]
def x_sha_words_9 : List XO := x_sha_words_9l
theorem x_sha_words_9e : E3 x_sha_words_9 x_sha_words_9l := E3.rfl
def x_sha_words_10b : XC :=
  .seq (.ops x_sha_words_6) (.seq (.cond (T 15) (.skip) (.exit 2)) (.seq (.block 3 (.seq (.ops x_sha_words_7) (.draw x_sha_words_8 []))) (.ops x_sha_words_9)))
def x_sha_words_10 : XC := x_sha_words_10b
theorem x_sha_words_10k {pr : Prog} {k : List KI} {Q : XE → Fr → Heap → Prop} {t : Fr} {h : Heap} (hw : wpk pr x_sha_words_10b k Q t h) : wpk pr x_sha_words_10 k Q t h := hw
abbrev x_sha_words_11l : List XO := [
  ⟨some 33, .p (.bin .add (T 11) (C (.int .i64 1))), none⟩,
  ⟨some 11, .p (.mov (T 33)), none⟩]
def x_sha_words_11 : List XO := x_sha_words_11l
theorem x_sha_words_11e : E3 x_sha_words_11 x_sha_words_11l := E3.rfl
def x_sha_words_12b : XC :=
  .seq (.ops x_sha_words_3) (.seq (.cond (T 12) (.skip) (.exit 0)) (.seq (.block 1 (.seq (.ops x_sha_words_4) (.seq (.ops x_sha_words_5) (.block 2 (.loop x_sha_words_10))))) (.ops x_sha_words_11)))
def x_sha_words_12 : XC := x_sha_words_12b
theorem x_sha_words_12k {pr : Prog} {k : List KI} {Q : XE → Fr → Heap → Prop} {t : Fr} {h : Heap} (hw : wpk pr x_sha_words_12b k Q t h) : wpk pr x_sha_words_12 k Q t h := hw
abbrev x_sha_words_13l : List XO := [
  ⟨some 6, .p (.mov (C (.int .i64 16))), none⟩]
def x_sha_words_13 : List XO := x_sha_words_13l
theorem x_sha_words_13e : E3 x_sha_words_13 x_sha_words_13l := E3.rfl
abbrev x_sha_words_14l : List XO := [
  ⟨some 34, .p (.mov (T 6)), none⟩,
  ⟨some 35, .p (.bin .lss (T 34) (C (.int .i64 64))), none⟩]
def x_sha_words_14 : List XO := x_sha_words_14l
theorem x_sha_words_14e : E3 x_sha_words_14 x_sha_words_14l := E3.rfl
abbrev x_sha_words_15l : List XO := [
  ⟨some 38, .p (.mov (T 6)), none⟩,
  ⟨some 39, .p (.bin .sub (T 38) (C (.int .i64 15))), none⟩,
  ⟨some 40, .p (.iaddrA 64 1 (T 3) (T 39)), none⟩,
  ⟨some 41, .r (.load1 (T 40)), none⟩,
  ⟨some 42, .p (.mov (T 6)), none⟩,
  ⟨some 43, .p (.bin .sub (T 42) (C (.int .i64 2))), none⟩,
  ⟨some 44, .p (.iaddrA 64 1 (T 3) (T 43)), none⟩,
  ⟨some 45, .r (.load1 (T 44)), none⟩,
  ⟨some 7, .p (.mov (T 41)), none⟩,
  ⟨some 8, .p (.mov (T 45)), none⟩]
def x_sha_words_15 : List XO := x_sha_words_15l
theorem x_sha_words_15e : E3 x_sha_words_15 x_sha_words_15l := E3.rfl
abbrev x_sha_words_16l : List XO := [
  ⟨some 46, .p (.mov (T 7)), none⟩,
  ⟨some 47, .call (.func 118) [(T 46), (C (.int .i64 7))], none⟩,
  ⟨some 48, .p (.mov (T 7)), none⟩,
  ⟨some 49, .call (.func 118) [(T 48), (C (.int .i64 18))], none⟩,
  ⟨some 50, .p (.bin .xor (T 47) (T 49)), none⟩,
  ⟨some 51, .p (.mov (T 7)), none⟩,
  ⟨some 52, .p (.bin .shr (T 51) (C (.int .u64 3))), none⟩,
  ⟨some 53, .p (.bin .xor (T 50) (T 52)), none⟩,
  ⟨some 9, .p (.mov (T 53)), none⟩]
def x_sha_words_16 : List XO := x_sha_words_16l
theorem x_sha_words_16e : E3 x_sha_words_16 x_sha_words_16l := E3.rfl
abbrev x_sha_words_17l : List XO := [
  ⟨some 54, .p (.mov (T 8)), none⟩,
  ⟨some 55, .call (.func 118) [(T 54), (C (.int .i64 17))], none⟩,
  ⟨some 56, .p (.mov (T 8)), none⟩,
  ⟨some 57, .call (.func 118) [(T 56), (C (.int .i64 19))], none⟩,
  ⟨some 58, .p (.bin .xor (T 55) (T 57)), none⟩,
  ⟨some 59, .p (.mov (T 8)), none⟩,
  ⟨some 60, .p (.bin .shr (T 59) (C (.int .u64 10))), none⟩,
  ⟨some 61, .p (.bin .xor (T 58) (T 60)), none⟩,
  ⟨some 10, .p (.mov (T 61)), none⟩]
def x_sha_words_17 : List XO := x_sha_words_17l
theorem x_sha_words_17e : E3 x_sha_words_17 x_sha_words_17l := E3.rfl
abbrev x_sha_words_18l : List XO := [
  ⟨some 62, .p (.mov (T 6)), none⟩,
  ⟨some 63, .p (.mov (T 6)), none⟩,
  ⟨some 64, .p (.bin .sub (T 63) (C (.int .i64 16))), none⟩,
  ⟨some 65, .p (.iaddrA 64 1 (T 3) (T 64)), none⟩,
  ⟨some 66, .r (.load1 (T 65)), none⟩,
  ⟨some 67, .p (.mov (T 9)), none⟩,
  ⟨some 68, .p (.bin .add (T 66) (T 67)), none⟩,
  ⟨some 69, .p (.mov (T 6)), none⟩,
  ⟨some 70, .p (.bin .sub (T 69) (C (.int .i64 7))), none⟩,
  ⟨some 71, .p (.iaddrA 64 1 (T 3) (T 70)), none⟩,
  ⟨some 72, .r (.load1 (T 71)), none⟩,
  ⟨some 73, .p (.bin .add (T 68) (T 72)), none⟩,
  ⟨some 74, .p (.mov (T 10)), none⟩,
  ⟨some 75, .p (.bin .add (T 73) (T 74)), none⟩,
  ⟨some 76, .p (.iaddrA 64 1 (T 3) (T 62)), none⟩,
  ⟨none, .e (.store 1 (T 76) (T 75)), none⟩]
def x_sha_words_18 : List XO := x_sha_words_18l
theorem x_sha_words_18e : E3 x_sha_words_18 x_sha_words_18l := E3.rfl
abbrev x_sha_words_19l : List XO := [
  ⟨some 36, .p (.mov (T 6)), none⟩,
  ⟨some 37, .p (.bin .add (T 36) (C (.int .i64 1))), none⟩,
  ⟨some 6, .p (.mov (T 37)), none⟩]
def x_sha_words_19 : List XO := x_sha_words_19l
theorem x_sha_words_19e : E3 x_sha_words_19 x_sha_words_19l := E3.rfl
def x_sha_words_20b : XC :=
  .seq (.seq (.ops x_sha_words_14) (.cond (T 35) (.skip) (.exit 4))) (.seq (.block 5 (.seq (.draw x_sha_words_15 []) (.seq (.ops x_sha_words_16) (.seq (.ops x_sha_words_17) (.draw x_sha_words_18 []))))) (.ops x_sha_words_19))
def x_sha_words_20 : XC := x_sha_words_20b
theorem x_sha_words_20k {pr : Prog} {k : List KI} {Q : XE → Fr → Heap → Prop} {t : Fr} {h : Heap} (hw : wpk pr x_sha_words_20b k Q t h) : wpk pr x_sha_words_20 k Q t h := hw
abbrev x_sha_words_21l : List XO := [
  ⟨some 77, .r (.loadN 64 (T 3)), none⟩,
  ⟨none, .e (.store 64 (T 2) (T 77)), none⟩]
def x_sha_words_21 : List XO := x_sha_words_21l
theorem x_sha_words_21e : E3 x_sha_words_21 x_sha_words_21l := E3.rfl
def x_sha_words : XF := ⟨1, [.cellN 2 64],
  .seq (.ops x_sha_words_0) (.seq (.ops x_sha_words_1) (.seq (.seq (.ops x_sha_words_2) (.block 0 (.loop x_sha_words_12))) (.seq (.seq (.ops x_sha_words_13) (.block 4 (.loop x_sha_words_20))) (.seq (.ops x_sha_words_21) (.ret)))))⟩
def y_sha_words := PLift.up (And.intro (And.intro (And.intro (And.intro (@x_sha_words_0e) (@x_sha_words_1e)) (And.intro (@x_sha_words_2e) (@x_sha_words_3e))) (And.intro (And.intro (@x_sha_words_4e) (@x_sha_words_5e)) (And.intro (@x_sha_words_6e) (And.intro (@x_sha_words_7e) (@x_sha_words_8e))))) (And.intro (And.intro (And.intro (@x_sha_words_9e) (@x_sha_words_11e)) (And.intro (@x_sha_words_13e) (And.intro (@x_sha_words_14e) (@x_sha_words_15e)))) (And.intro (And.intro (@x_sha_words_16e) (@x_sha_words_17e)) (And.intro (@x_sha_words_18e) (And.intro (@x_sha_words_19e) (@x_sha_words_21e))))))
theorem c_sha_words : funcC Try.prog Try.f117 = some x_sha_words := by kernel_rfl
/- (*muniment/sha.Digest).block -/
abbrev x_sha_Digest_block_0l : List XO := [
  ⟨some 14, .call (.func 116) [], none⟩,
  ⟨some 15, .p (.mov (T 1)), none⟩,
  ⟨some 16, .call (.func 117) [(T 15)], none⟩,
  ⟨some 4, .a (.alloc (List.replicate 64 (.int .u32 0))), none⟩,
  ⟨some 5, .a (.alloc (List.replicate 64 (.int .u32 0))), none⟩,
  ⟨none, .e (.store 64 (T 4) (T 14)), none⟩,
  ⟨none, .e (.store 64 (T 5) (T 16)), none⟩]
def x_sha_Digest_block_0 : List XO := x_sha_Digest_block_0l
theorem x_sha_Digest_block_0e : E3 x_sha_Digest_block_0 x_sha_Digest_block_0l := E3.rfl
abbrev x_sha_Digest_block_1l : List XO := [
  ⟨some 17, .p (.mov (T 0)), none⟩,
  ⟨some 18, .p (.nilc (T 17)), none⟩,
  ⟨some 19, .p (.faddr 0 (T 18)), none⟩,
  ⟨some 20, .r (.loadN 8 (T 19)), none⟩,
  ⟨some 6, .a (.alloc (List.replicate 8 (.int .u32 0))), none⟩,
  ⟨none, .e (.store 8 (T 6) (T 20)), none⟩]
def x_sha_Digest_block_1 : List XO := x_sha_Digest_block_1l
theorem x_sha_Digest_block_1e : E3 x_sha_Digest_block_1 x_sha_Digest_block_1l := E3.rfl
abbrev x_sha_Digest_block_2l : List XO := [
  ⟨some 21, .p (.mov (C (.int .i64 0))), none⟩]
def x_sha_Digest_block_2 : List XO := x_sha_Digest_block_2l
theorem x_sha_Digest_block_2e : E3 x_sha_Digest_block_2 x_sha_Digest_block_2l := E3.rfl
abbrev x_sha_Digest_block_3l : List XO := [
  ⟨some 22, .p (.bin .lss (T 21) (C (.int .i64 64))), none⟩]
def x_sha_Digest_block_3 : List XO := x_sha_Digest_block_3l
theorem x_sha_Digest_block_3e : E3 x_sha_Digest_block_3 x_sha_Digest_block_3l := E3.rfl
abbrev x_sha_Digest_block_4l : List XO := [
  ⟨some 23, .p (.mov (T 21)), none⟩,
  ⟨some 7, .p (.mov (T 23)), none⟩]
def x_sha_Digest_block_4 : List XO := x_sha_Digest_block_4l
theorem x_sha_Digest_block_4e : E3 x_sha_Digest_block_4 x_sha_Digest_block_4l := E3.rfl
abbrev x_sha_Digest_block_5l : List XO := [
  ⟨some 24, .p (.iaddrA 8 1 (T 6) (C (.int .i64 4))), none⟩,
  ⟨some 25, .r (.load1 (T 24)), none⟩,
  ⟨some 26, .call (.func 118) [(T 25), (C (.int .i64 6))], none⟩,
  ⟨some 27, .p (.iaddrA 8 1 (T 6) (C (.int .i64 4))), none⟩,
  ⟨some 28, .r (.load1 (T 27)), none⟩,
  ⟨some 29, .call (.func 118) [(T 28), (C (.int .i64 11))], none⟩,
  ⟨some 30, .p (.bin .xor (T 26) (T 29)), none⟩,
  ⟨some 31, .p (.iaddrA 8 1 (T 6) (C (.int .i64 4))), none⟩,
  ⟨some 32, .r (.load1 (T 31)), none⟩,
  ⟨some 33, .call (.func 118) [(T 32), (C (.int .i64 25))], none⟩,
  ⟨some 34, .p (.bin .xor (T 30) (T 33)), none⟩,
  ⟨some 8, .p (.mov (T 34)), none⟩]
def x_sha_Digest_block_5 : List XO := x_sha_Digest_block_5l
theorem x_sha_Digest_block_5e : E3 x_sha_Digest_block_5 x_sha_Digest_block_5l := E3.rfl
abbrev x_sha_Digest_block_6l : List XO := [
  ⟨some 35, .p (.iaddrA 8 1 (T 6) (C (.int .i64 4))), none⟩,
  ⟨some 36, .r (.load1 (T 35)), none⟩,
  ⟨some 37, .p (.iaddrA 8 1 (T 6) (C (.int .i64 5))), none⟩,
  ⟨some 38, .r (.load1 (T 37)), none⟩,
  ⟨some 39, .p (.bin .and (T 36) (T 38)), none⟩,
  ⟨some 40, .p (.iaddrA 8 1 (T 6) (C (.int .i64 4))), none⟩,
  ⟨some 41, .r (.load1 (T 40)), none⟩,
  ⟨some 42, .p (.un .xor (T 41)), none⟩,
  ⟨some 43, .p (.iaddrA 8 1 (T 6) (C (.int .i64 6))), none⟩,
  ⟨some 44, .r (.load1 (T 43)), none⟩,
  ⟨some 45, .p (.bin .and (T 42) (T 44)), none⟩,
  ⟨some 46, .p (.bin .xor (T 39) (T 45)), none⟩,
  ⟨some 9, .p (.mov (T 46)), none⟩]
def x_sha_Digest_block_6 : List XO := x_sha_Digest_block_6l
theorem x_sha_Digest_block_6e : E3 x_sha_Digest_block_6 x_sha_Digest_block_6l := E3.rfl
abbrev x_sha_Digest_block_7l : List XO := [
  ⟨some 47, .p (.iaddrA 8 1 (T 6) (C (.int .i64 7))), none⟩,
  ⟨some 48, .r (.load1 (T 47)), none⟩,
  ⟨some 49, .p (.mov (T 8)), none⟩,
  ⟨some 50, .p (.bin .add (T 48) (T 49)), none⟩,
  ⟨some 51, .p (.mov (T 9)), none⟩,
  ⟨some 52, .p (.bin .add (T 50) (T 51)), none⟩,
  ⟨some 53, .p (.mov (T 7)), none⟩,
  ⟨some 54, .p (.iaddrA 64 1 (T 4) (T 53)), none⟩,
  ⟨some 55, .r (.load1 (T 54)), none⟩,
  ⟨some 56, .p (.bin .add (T 52) (T 55)), none⟩,
  ⟨some 57, .p (.mov (T 7)), none⟩,
  ⟨some 58, .p (.iaddrA 64 1 (T 5) (T 57)), none⟩,
  ⟨some 59, .r (.load1 (T 58)), none⟩,
  ⟨some 60, .p (.bin .add (T 56) (T 59)), none⟩,
  ⟨some 10, .p (.mov (T 60)), none⟩]
def x_sha_Digest_block_7 : List XO := x_sha_Digest_block_7l
theorem x_sha_Digest_block_7e : E3 x_sha_Digest_block_7 x_sha_Digest_block_7l := E3.rfl
abbrev x_sha_Digest_block_8l : List XO := [
  ⟨some 61, .p (.iaddrA 8 1 (T 6) (C (.int .i64 0))), none⟩,
  ⟨some 62, .r (.load1 (T 61)), none⟩,
  ⟨some 63, .call (.func 118) [(T 62), (C (.int .i64 2))], none⟩,
  ⟨some 64, .p (.iaddrA 8 1 (T 6) (C (.int .i64 0))), none⟩,
  ⟨some 65, .r (.load1 (T 64)), none⟩,
  ⟨some 66, .call (.func 118) [(T 65), (C (.int .i64 13))], none⟩,
  ⟨some 67, .p (.bin .xor (T 63) (T 66)), none⟩,
  ⟨some 68, .p (.iaddrA 8 1 (T 6) (C (.int .i64 0))), none⟩,
  ⟨some 69, .r (.load1 (T 68)), none⟩,
  ⟨some 70, .call (.func 118) [(T 69), (C (.int .i64 22))], none⟩,
  ⟨some 71, .p (.bin .xor (T 67) (T 70)), none⟩,
  ⟨some 11, .p (.mov (T 71)), none⟩]
def x_sha_Digest_block_8 : List XO := x_sha_Digest_block_8l
theorem x_sha_Digest_block_8e : E3 x_sha_Digest_block_8 x_sha_Digest_block_8l := E3.rfl
abbrev x_sha_Digest_block_9l : List XO := [
  ⟨some 72, .p (.iaddrA 8 1 (T 6) (C (.int .i64 0))), none⟩,
  ⟨some 73, .r (.load1 (T 72)), none⟩,
  ⟨some 74, .p (.iaddrA 8 1 (T 6) (C (.int .i64 1))), none⟩,
  ⟨some 75, .r (.load1 (T 74)), none⟩,
  ⟨some 76, .p (.bin .and (T 73) (T 75)), none⟩,
  ⟨some 77, .p (.iaddrA 8 1 (T 6) (C (.int .i64 0))), none⟩,
  ⟨some 78, .r (.load1 (T 77)), none⟩,
  ⟨some 79, .p (.iaddrA 8 1 (T 6) (C (.int .i64 2))), none⟩,
  ⟨some 80, .r (.load1 (T 79)), none⟩,
  ⟨some 81, .p (.bin .and (T 78) (T 80)), none⟩,
  ⟨some 82, .p (.bin .xor (T 76) (T 81)), none⟩,
  ⟨some 83, .p (.iaddrA 8 1 (T 6) (C (.int .i64 1))), none⟩,
  ⟨some 84, .r (.load1 (T 83)), none⟩,
  ⟨some 85, .p (.iaddrA 8 1 (T 6) (C (.int .i64 2))), none⟩,
  ⟨some 86, .r (.load1 (T 85)), none⟩,
  ⟨some 87, .p (.bin .and (T 84) (T 86)), none⟩,
  ⟨some 88, .p (.bin .xor (T 82) (T 87)), none⟩,
  ⟨some 12, .p (.mov (T 88)), none⟩]
def x_sha_Digest_block_9 : List XO := x_sha_Digest_block_9l
theorem x_sha_Digest_block_9e : E3 x_sha_Digest_block_9 x_sha_Digest_block_9l := E3.rfl
abbrev x_sha_Digest_block_10l : List XO := [
  ⟨some 89, .p (.mov (T 10)), none⟩,
  ⟨some 90, .p (.mov (T 11)), none⟩,
  ⟨some 91, .p (.bin .add (T 89) (T 90)), none⟩,
  ⟨some 92, .p (.mov (T 12)), none⟩,
  ⟨some 93, .p (.bin .add (T 91) (T 92)), none⟩,
  ⟨some 94, .p (.iaddrA 8 1 (T 6) (C (.int .i64 0))), none⟩,
  ⟨some 95, .r (.load1 (T 94)), none⟩,
  ⟨some 96, .p (.iaddrA 8 1 (T 6) (C (.int .i64 1))), none⟩,
  ⟨some 97, .r (.load1 (T 96)), none⟩,
  ⟨some 98, .p (.iaddrA 8 1 (T 6) (C (.int .i64 2))), none⟩,
  ⟨some 99, .r (.load1 (T 98)), none⟩,
  ⟨some 100, .p (.iaddrA 8 1 (T 6) (C (.int .i64 3))), none⟩,
  ⟨some 101, .r (.load1 (T 100)), none⟩,
  ⟨some 102, .p (.mov (T 10)), none⟩,
  ⟨some 103, .p (.bin .add (T 101) (T 102)), none⟩,
  ⟨some 104, .p (.iaddrA 8 1 (T 6) (C (.int .i64 4))), none⟩,
  ⟨some 105, .r (.load1 (T 104)), none⟩,
  ⟨some 106, .p (.iaddrA 8 1 (T 6) (C (.int .i64 5))), none⟩,
  ⟨some 107, .r (.load1 (T 106)), none⟩,
  ⟨some 108, .p (.iaddrA 8 1 (T 6) (C (.int .i64 6))), none⟩,
  ⟨some 109, .r (.load1 (T 108)), none⟩,
  ⟨some 110, .p (.build (List.replicate 8 (.int .u32 0)) [(0, 1, (T 93)), (1, 1, (T 95)), (2, 1, (T 97)), (3, 1, (T 99)), (4, 1, (T 103)), (5, 1, (T 105)), (6, 1, (T 107)), (7, 1, (T 109))]), none⟩,
  ⟨none, .e (.store 8 (T 6) (T 110)), none⟩]
def x_sha_Digest_block_10 : List XO := x_sha_Digest_block_10l
theorem x_sha_Digest_block_10e : E3 x_sha_Digest_block_10 x_sha_Digest_block_10l := E3.rfl
abbrev x_sha_Digest_block_11l : List XO := [
  ⟨some 111, .p (.bin .add (T 21) (C (.int .i64 1))), none⟩,
  ⟨some 21, .p (.mov (T 111)), none⟩]
def x_sha_Digest_block_11 : List XO := x_sha_Digest_block_11l
theorem x_sha_Digest_block_11e : E3 x_sha_Digest_block_11 x_sha_Digest_block_11l := E3.rfl
def x_sha_Digest_block_12b : XC :=
  .seq (.ops x_sha_Digest_block_3) (.seq (.cond (T 22) (.skip) (.exit 0)) (.seq (.block 1 (.seq (.ops x_sha_Digest_block_4) (.seq (.draw x_sha_Digest_block_5 [(4, (2, [])), (8, (2, [])), (8, (5, []))]) (.seq (.ops x_sha_Digest_block_6) (.seq (.draw x_sha_Digest_block_7 []) (.seq (.draw x_sha_Digest_block_8 [(4, (2, [])), (8, (2, [])), (8, (5, []))]) (.seq (.ops x_sha_Digest_block_9) (.ops x_sha_Digest_block_10)))))))) (.ops x_sha_Digest_block_11)))
def x_sha_Digest_block_12 : XC := x_sha_Digest_block_12b
theorem x_sha_Digest_block_12k {pr : Prog} {k : List KI} {Q : XE → Fr → Heap → Prop} {t : Fr} {h : Heap} (hw : wpk pr x_sha_Digest_block_12b k Q t h) : wpk pr x_sha_Digest_block_12 k Q t h := hw
abbrev x_sha_Digest_block_13l : List XO := [
  ⟨some 112, .p (.mov (C (.int .i64 0))), none⟩]
def x_sha_Digest_block_13 : List XO := x_sha_Digest_block_13l
theorem x_sha_Digest_block_13e : E3 x_sha_Digest_block_13 x_sha_Digest_block_13l := E3.rfl
abbrev x_sha_Digest_block_14l : List XO := [
  ⟨some 113, .p (.bin .lss (T 112) (C (.int .i64 8))), none⟩]
def x_sha_Digest_block_14 : List XO := x_sha_Digest_block_14l
theorem x_sha_Digest_block_14e : E3 x_sha_Digest_block_14 x_sha_Digest_block_14l := E3.rfl
abbrev x_sha_Digest_block_15l : List XO := [
  ⟨some 114, .p (.mov (T 112)), none⟩,
  ⟨some 13, .p (.mov (T 114)), none⟩]
def x_sha_Digest_block_15 : List XO := x_sha_Digest_block_15l
theorem x_sha_Digest_block_15e : E3 x_sha_Digest_block_15 x_sha_Digest_block_15l := E3.rfl
abbrev x_sha_Digest_block_16l : List XO := [
  ⟨some 115, .p (.mov (T 0)), none⟩,
  ⟨some 116, .p (.mov (T 13)), none⟩,
  ⟨some 117, .p (.nilc (T 115)), none⟩,
  ⟨some 118, .p (.faddr 0 (T 117)), none⟩,
  ⟨some 119, .p (.iaddrA 8 1 (T 118) (T 116)), none⟩,
  ⟨some 120, .r (.load1 (T 119)), none⟩,
  ⟨some 121, .p (.mov (T 13)), none⟩,
  ⟨some 122, .p (.iaddrA 8 1 (T 6) (T 121)), none⟩,
  ⟨some 123, .r (.load1 (T 122)), none⟩,
  ⟨some 124, .p (.bin .add (T 120) (T 123)), none⟩,
  ⟨some 125, .p (.nilc (T 115)), none⟩,
  ⟨some 126, .p (.faddr 0 (T 125)), none⟩,
  ⟨some 127, .p (.iaddrA 8 1 (T 126) (T 116)), none⟩,
  ⟨none, .e (.store 1 (T 127) (T 124)), none⟩]
def x_sha_Digest_block_16 : List XO := x_sha_Digest_block_16l
theorem x_sha_Digest_block_16e : E3 x_sha_Digest_block_16 x_sha_Digest_block_16l := E3.rfl
abbrev x_sha_Digest_block_17l : List XO := [
  ⟨some 128, .p (.bin .add (T 112) (C (.int .i64 1))), none⟩,
  ⟨some 112, .p (.mov (T 128)), none⟩]
def x_sha_Digest_block_17 : List XO := x_sha_Digest_block_17l
theorem x_sha_Digest_block_17e : E3 x_sha_Digest_block_17 x_sha_Digest_block_17l := E3.rfl
def x_sha_Digest_block_18b : XC :=
  .seq (.ops x_sha_Digest_block_14) (.seq (.cond (T 113) (.skip) (.exit 2)) (.seq (.block 3 (.seq (.ops x_sha_Digest_block_15) (.draw x_sha_Digest_block_16 []))) (.ops x_sha_Digest_block_17)))
def x_sha_Digest_block_18 : XC := x_sha_Digest_block_18b
theorem x_sha_Digest_block_18k {pr : Prog} {k : List KI} {Q : XE → Fr → Heap → Prop} {t : Fr} {h : Heap} (hw : wpk pr x_sha_Digest_block_18b k Q t h) : wpk pr x_sha_Digest_block_18 k Q t h := hw
def x_sha_Digest_block : XF := ⟨2, [],
  .seq (.ops x_sha_Digest_block_0) (.seq (.ops x_sha_Digest_block_1) (.seq (.seq (.ops x_sha_Digest_block_2) (.block 0 (.loop x_sha_Digest_block_12))) (.seq (.ops x_sha_Digest_block_13) (.block 2 (.loop x_sha_Digest_block_18)))))⟩
def y_sha_Digest_block := PLift.up (And.intro (And.intro (And.intro (And.intro (@x_sha_Digest_block_0e) (@x_sha_Digest_block_1e)) (And.intro (@x_sha_Digest_block_2e) (@x_sha_Digest_block_3e))) (And.intro (And.intro (@x_sha_Digest_block_4e) (@x_sha_Digest_block_5e)) (And.intro (@x_sha_Digest_block_6e) (@x_sha_Digest_block_7e)))) (And.intro (And.intro (And.intro (@x_sha_Digest_block_8e) (@x_sha_Digest_block_9e)) (And.intro (@x_sha_Digest_block_10e) (@x_sha_Digest_block_11e))) (And.intro (And.intro (@x_sha_Digest_block_13e) (@x_sha_Digest_block_14e)) (And.intro (@x_sha_Digest_block_15e) (And.intro (@x_sha_Digest_block_16e) (@x_sha_Digest_block_17e))))))
theorem c_sha_Digest_block : funcC Try.prog Try.f104 = some x_sha_Digest_block := by kernel_rfl
/- muniment/sha.New -/
abbrev x_sha_New_0l : List XO := [
  ⟨some 0, .p (.mov (C (.pointer none))), none⟩]
def x_sha_New_0 : List XO := x_sha_New_0l
theorem x_sha_New_0e : E3 x_sha_New_0 x_sha_New_0l := E3.rfl
abbrev x_sha_New_1l : List XO := [
  ⟨some 1, .call (.func 103) [], none⟩,
  ⟨some 2, .p (.build [(.int .u32 0), (.int .u32 0), (.int .u32 0), (.int .u32 0), (.int .u32 0), (.int .u32 0), (.int .u32 0), (.int .u32 0), (.slice none 0 0), (.int .u64 0)] [(0, 8, (T 1))]), none⟩,
  ⟨some 3, .a (.box (T 2)), none⟩,
  ⟨some 0, .p (.mov (T 3)), none⟩]
def x_sha_New_1 : List XO := x_sha_New_1l
theorem x_sha_New_1e : E3 x_sha_New_1 x_sha_New_1l := E3.rfl
def x_sha_New : XF := ⟨0, [.tmp 0],
  .seq (.ops x_sha_New_0) (.seq (.ops x_sha_New_1) (.ret))⟩
def y_sha_New := PLift.up (And.intro (@x_sha_New_0e) (@x_sha_New_1e))
theorem c_sha_New : funcC Try.prog Try.f85 = some x_sha_New := by kernel_rfl
/- (*muniment/sha.Digest).Write -/
abbrev x_sha_Digest_Write_0l : List XO := [
  ⟨some 4, .p (.mov (T 0)), none⟩,
  ⟨some 5, .p (.eql false .nptr (T 4) (C (.pointer none))), none⟩]
def x_sha_Digest_Write_0 : List XO := x_sha_Digest_Write_0l
theorem x_sha_Digest_Write_0e : E3 x_sha_Digest_Write_0 x_sha_Digest_Write_0l := E3.rfl
abbrev x_sha_Digest_Write_1l : List XO := [
  ⟨some 6, .p (.mov (T 0)), none⟩,
  ⟨some 7, .p (.nilc (T 6)), none⟩,
  ⟨some 8, .p (.faddr 9 (T 7)), none⟩,
  ⟨some 9, .r (.load1 (T 8)), none⟩,
  ⟨some 10, .p (.mov (T 1)), none⟩,
  ⟨some 11, .p (.lenS (T 10)), none⟩,
  ⟨some 12, .p (.cint .u64 (T 11)), none⟩,
  ⟨some 13, .p (.bin .add (T 9) (T 12)), none⟩,
  ⟨some 14, .p (.nilc (T 6)), none⟩,
  ⟨some 15, .p (.faddr 9 (T 14)), none⟩,
  ⟨none, .e (.store 1 (T 15) (T 13)), none⟩]
def x_sha_Digest_Write_1 : List XO := x_sha_Digest_Write_1l
theorem x_sha_Digest_Write_1e : E3 x_sha_Digest_Write_1 x_sha_Digest_Write_1l := E3.rfl
abbrev x_sha_Digest_Write_2l : List XO := [
  ⟨some 16, .p (.mov (T 0)), none⟩,
  ⟨some 17, .p (.mov (T 0)), none⟩,
  ⟨some 18, .p (.nilc (T 17)), none⟩,
  ⟨some 19, .p (.faddr 8 (T 18)), none⟩,
  ⟨some 20, .r (.load1 (T 19)), none⟩,
  ⟨some 21, .p (.mov (T 1)), none⟩,
  ⟨some 22, .e (.append 1 1 (T 20) (T 21)), none⟩,
  ⟨some 23, .p (.nilc (T 16)), none⟩,
  ⟨some 24, .p (.faddr 8 (T 23)), none⟩,
  ⟨none, .e (.store 1 (T 24) (T 22)), none⟩]
def x_sha_Digest_Write_2 : List XO := x_sha_Digest_Write_2l
theorem x_sha_Digest_Write_2e : E3 x_sha_Digest_Write_2 x_sha_Digest_Write_2l := E3.rfl
abbrev x_sha_Digest_Write_3l : List XO := [
  ⟨some 25, .p (.mov (T 0)), none⟩,
  ⟨some 26, .p (.nilc (T 25)), none⟩,
  ⟨some 27, .p (.faddr 8 (T 26)), none⟩,
  ⟨some 28, .r (.load1 (T 27)), none⟩,
  ⟨some 29, .p (.lenV (T 28)), none⟩,
  ⟨some 30, .p (.bin .geq (T 29) (C (.int .i64 64))), none⟩]
def x_sha_Digest_Write_3 : List XO := x_sha_Digest_Write_3l
theorem x_sha_Digest_Write_3e : E3 x_sha_Digest_Write_3 x_sha_Digest_Write_3l := E3.rfl
abbrev x_sha_Digest_Write_4l : List XO := [
  ⟨some 31, .p (.mov (T 0)), none⟩,
  ⟨some 32, .p (.mov (T 0)), none⟩,
  ⟨some 33, .p (.nilc (T 32)), none⟩,
  ⟨some 34, .p (.faddr 8 (T 33)), none⟩,
  ⟨some 35, .r (.load1 (T 34)), none⟩,
  ⟨some 36, .p (.slc 1 (T 35) none (some (C (.int .i64 64))) none), none⟩,
  ⟨some 37, .call (.func 104) [(T 31), (T 36)], none⟩]
def x_sha_Digest_Write_4 : List XO := x_sha_Digest_Write_4l
theorem x_sha_Digest_Write_4e : E3 x_sha_Digest_Write_4 x_sha_Digest_Write_4l := E3.rfl
abbrev x_sha_Digest_Write_5l : List XO := [
  ⟨some 38, .p (.mov (T 0)), none⟩,
  ⟨some 39, .p (.mov (T 0)), none⟩,
  ⟨some 40, .p (.nilc (T 39)), none⟩,
  ⟨some 41, .p (.faddr 8 (T 40)), none⟩,
  ⟨some 42, .r (.load1 (T 41)), none⟩,
  ⟨some 43, .p (.slc 1 (T 42) (some (C (.int .i64 64))) none none), none⟩,
  ⟨some 44, .p (.nilc (T 38)), none⟩,
  ⟨some 45, .p (.faddr 8 (T 44)), none⟩,
  ⟨none, .e (.store 1 (T 45) (T 43)), none⟩]
def x_sha_Digest_Write_5 : List XO := x_sha_Digest_Write_5l
theorem x_sha_Digest_Write_5e : E3 x_sha_Digest_Write_5 x_sha_Digest_Write_5l := E3.rfl
def x_sha_Digest_Write_6b : XC :=
  .seq (.seq (.ops x_sha_Digest_Write_3) (.cond (T 30) (.skip) (.exit 0))) (.block 1 (.seq (.ops x_sha_Digest_Write_4) (.ops x_sha_Digest_Write_5)))
def x_sha_Digest_Write_6 : XC := x_sha_Digest_Write_6b
theorem x_sha_Digest_Write_6k {pr : Prog} {k : List KI} {Q : XE → Fr → Heap → Prop} {t : Fr} {h : Heap} (hw : wpk pr x_sha_Digest_Write_6b k Q t h) : wpk pr x_sha_Digest_Write_6 k Q t h := hw
def x_sha_Digest_Write : XF := ⟨2, [],
  .seq (.seq (.ops x_sha_Digest_Write_0) (.cond (T 5) (.ret) (.skip))) (.seq (.ops x_sha_Digest_Write_1) (.seq (.ops x_sha_Digest_Write_2) (.block 0 (.loop x_sha_Digest_Write_6))))⟩
def y_sha_Digest_Write := PLift.up (And.intro (And.intro (@x_sha_Digest_Write_0e) (And.intro (@x_sha_Digest_Write_1e) (@x_sha_Digest_Write_2e))) (And.intro (@x_sha_Digest_Write_3e) (And.intro (@x_sha_Digest_Write_4e) (@x_sha_Digest_Write_5e))))
theorem c_sha_Digest_Write : funcC Try.prog Try.f86 = some x_sha_Digest_Write := by kernel_rfl
/- (*muniment/sha.Digest).Sum -/
abbrev x_sha_Digest_Sum_0l : List XO := [
  ⟨some 2, .p (.mov (C (.string (strOf [])))), none⟩]
def x_sha_Digest_Sum_0 : List XO := x_sha_Digest_Sum_0l
theorem x_sha_Digest_Sum_0e : E3 x_sha_Digest_Sum_0 x_sha_Digest_Sum_0l := E3.rfl
abbrev x_sha_Digest_Sum_1l : List XO := [
  ⟨some 9, .p (.mov (T 0)), none⟩,
  ⟨some 10, .p (.eql false .nptr (T 9) (C (.pointer none))), none⟩]
def x_sha_Digest_Sum_1 : List XO := x_sha_Digest_Sum_1l
theorem x_sha_Digest_Sum_1e : E3 x_sha_Digest_Sum_1 x_sha_Digest_Sum_1l := E3.rfl
abbrev x_sha_Digest_Sum_2l : List XO := [
  ⟨some 2, .p (.mov (C (.string (strOf [])))), none⟩]
def x_sha_Digest_Sum_2 : List XO := x_sha_Digest_Sum_2l
theorem x_sha_Digest_Sum_2e : E3 x_sha_Digest_Sum_2 x_sha_Digest_Sum_2l := E3.rfl
abbrev x_sha_Digest_Sum_3l : List XO := [
  ⟨some 11, .p (.mov (T 0)), none⟩,
  ⟨some 12, .p (.nilc (T 11)), none⟩,
  ⟨some 13, .p (.faddr 0 (T 12)), none⟩,
  ⟨some 14, .r (.loadN 8 (T 13)), none⟩,
  ⟨some 15, .p (.mov (T 0)), none⟩,
  ⟨some 16, .p (.nilc (T 15)), none⟩,
  ⟨some 17, .p (.faddr 9 (T 16)), none⟩,
  ⟨some 18, .r (.load1 (T 17)), none⟩,
  ⟨some 19, .p (.build [(.int .u32 0), (.int .u32 0), (.int .u32 0), (.int .u32 0), (.int .u32 0), (.int .u32 0), (.int .u32 0), (.int .u32 0), (.slice none 0 0), (.int .u64 0)] [(0, 8, (T 14)), (9, 1, (T 18))]), none⟩,
  ⟨some 20, .a (.box (T 19)), none⟩,
  ⟨some 3, .p (.mov (T 20)), none⟩]
def x_sha_Digest_Sum_3 : List XO := x_sha_Digest_Sum_3l
theorem x_sha_Digest_Sum_3e : E3 x_sha_Digest_Sum_3 x_sha_Digest_Sum_3l := E3.rfl
abbrev x_sha_Digest_Sum_4l : List XO := [
  ⟨some 21, .p (.mov (T 3)), none⟩,
  ⟨some 22, .p (.mov (T 3)), none⟩,
  ⟨some 23, .p (.nilc (T 22)), none⟩,
  ⟨some 24, .p (.faddr 8 (T 23)), none⟩,
  ⟨some 25, .r (.load1 (T 24)), none⟩,
  ⟨some 26, .p (.mov (T 0)), none⟩,
  ⟨some 27, .p (.nilc (T 26)), none⟩,
  ⟨some 28, .p (.faddr 8 (T 27)), none⟩,
  ⟨some 29, .r (.load1 (T 28)), none⟩,
  ⟨some 30, .e (.append 1 1 (T 25) (T 29)), none⟩,
  ⟨some 31, .a (.bslice [(.int .u8 0)] 1 [(0, 1, (C (.int .u8 128)))]), none⟩,
  ⟨some 32, .e (.append 1 1 (T 30) (T 31)), none⟩,
  ⟨some 33, .p (.nilc (T 21)), none⟩,
  ⟨some 34, .p (.faddr 8 (T 33)), none⟩,
  ⟨none, .e (.store 1 (T 34) (T 32)), none⟩]
def x_sha_Digest_Sum_4 : List XO := x_sha_Digest_Sum_4l
theorem x_sha_Digest_Sum_4e : E3 x_sha_Digest_Sum_4 x_sha_Digest_Sum_4l := E3.rfl
abbrev x_sha_Digest_Sum_5l : List XO := [
  ⟨some 35, .p (.mov (T 3)), none⟩,
  ⟨some 36, .p (.nilc (T 35)), none⟩,
  ⟨some 37, .p (.faddr 8 (T 36)), none⟩,
  ⟨some 38, .r (.load1 (T 37)), none⟩,
  ⟨some 39, .p (.lenV (T 38)), none⟩,
  ⟨some 40, .p (.bin .rem (T 39) (C (.int .i64 64))), none⟩,
  ⟨some 41, .p (.eql true .int (T 40) (C (.int .i64 56))), none⟩]
def x_sha_Digest_Sum_5 : List XO := x_sha_Digest_Sum_5l
theorem x_sha_Digest_Sum_5e : E3 x_sha_Digest_Sum_5 x_sha_Digest_Sum_5l := E3.rfl
abbrev x_sha_Digest_Sum_6l : List XO := [
  ⟨some 42, .p (.mov (T 3)), none⟩,
  ⟨some 43, .p (.mov (T 3)), none⟩,
  ⟨some 44, .p (.nilc (T 43)), none⟩,
  ⟨some 45, .p (.faddr 8 (T 44)), none⟩,
  ⟨some 46, .r (.load1 (T 45)), none⟩,
  ⟨some 47, .a (.bslice [(.int .u8 0)] 1 [(0, 1, (C (.int .u8 0)))]), none⟩,
  ⟨some 48, .e (.append 1 1 (T 46) (T 47)), none⟩,
  ⟨some 49, .p (.nilc (T 42)), none⟩,
  ⟨some 50, .p (.faddr 8 (T 49)), none⟩,
  ⟨none, .e (.store 1 (T 50) (T 48)), none⟩]
def x_sha_Digest_Sum_6 : List XO := x_sha_Digest_Sum_6l
theorem x_sha_Digest_Sum_6e : E3 x_sha_Digest_Sum_6 x_sha_Digest_Sum_6l := E3.rfl
def x_sha_Digest_Sum_7b : XC :=
  .seq (.seq (.ops x_sha_Digest_Sum_5) (.cond (T 41) (.skip) (.exit 0))) (.block 1 (.ops x_sha_Digest_Sum_6))
def x_sha_Digest_Sum_7 : XC := x_sha_Digest_Sum_7b
theorem x_sha_Digest_Sum_7k {pr : Prog} {k : List KI} {Q : XE → Fr → Heap → Prop} {t : Fr} {h : Heap} (hw : wpk pr x_sha_Digest_Sum_7b k Q t h) : wpk pr x_sha_Digest_Sum_7 k Q t h := hw
abbrev x_sha_Digest_Sum_8l : List XO := [
  ⟨some 51, .p (.mov (C (.int .i64 0))), none⟩]
def x_sha_Digest_Sum_8 : List XO := x_sha_Digest_Sum_8l
theorem x_sha_Digest_Sum_8e : E3 x_sha_Digest_Sum_8 x_sha_Digest_Sum_8l := E3.rfl
abbrev x_sha_Digest_Sum_9l : List XO := [
  ⟨some 52, .p (.bin .lss (T 51) (C (.int .i64 8))), none⟩]
def x_sha_Digest_Sum_9 : List XO := x_sha_Digest_Sum_9l
theorem x_sha_Digest_Sum_9e : E3 x_sha_Digest_Sum_9 x_sha_Digest_Sum_9l := E3.rfl
abbrev x_sha_Digest_Sum_10l : List XO := [
  ⟨some 53, .p (.mov (T 51)), none⟩,
  ⟨some 4, .p (.mov (T 53)), none⟩]
def x_sha_Digest_Sum_10 : List XO := x_sha_Digest_Sum_10l
theorem x_sha_Digest_Sum_10e : E3 x_sha_Digest_Sum_10 x_sha_Digest_Sum_10l := E3.rfl
abbrev x_sha_Digest_Sum_11l : List XO := [
  ⟨some 54, .p (.mov (T 3)), none⟩,
  ⟨some 55, .p (.mov (T 3)), none⟩,
  ⟨some 56, .p (.nilc (T 55)), none⟩,
  ⟨some 57, .p (.faddr 8 (T 56)), none⟩,
  ⟨some 58, .r (.load1 (T 57)), none⟩,
  ⟨some 59, .p (.mov (T 3)), none⟩,
  ⟨some 60, .p (.nilc (T 59)), none⟩,
  ⟨some 61, .p (.faddr 9 (T 60)), none⟩,
  ⟨some 62, .r (.load1 (T 61)), none⟩,
  ⟨some 63, .p (.bin .mul (T 62) (C (.int .u64 8))), none⟩,
  ⟨some 64, .p (.mov (T 4)), none⟩,
  ⟨some 65, .p (.bin .sub (C (.int .i64 7)) (T 64)), none⟩,
  ⟨some 66, .p (.bin .mul (C (.int .i64 8)) (T 65)), none⟩,
  ⟨some 67, .p (.bin .shr (T 63) (T 66)), none⟩,
  ⟨some 68, .p (.cint .u8 (T 67)), none⟩,
  ⟨some 69, .a (.bslice [(.int .u8 0)] 1 [(0, 1, (T 68))]), none⟩,
  ⟨some 70, .e (.append 1 1 (T 58) (T 69)), none⟩,
  ⟨some 71, .p (.nilc (T 54)), none⟩,
  ⟨some 72, .p (.faddr 8 (T 71)), none⟩,
  ⟨none, .e (.store 1 (T 72) (T 70)), none⟩]
def x_sha_Digest_Sum_11 : List XO := x_sha_Digest_Sum_11l
theorem x_sha_Digest_Sum_11e : E3 x_sha_Digest_Sum_11 x_sha_Digest_Sum_11l := E3.rfl
abbrev x_sha_Digest_Sum_12l : List XO := [
  ⟨some 73, .p (.bin .add (T 51) (C (.int .i64 1))), none⟩,
  ⟨some 51, .p (.mov (T 73)), none⟩]
def x_sha_Digest_Sum_12 : List XO := x_sha_Digest_Sum_12l
theorem x_sha_Digest_Sum_12e : E3 x_sha_Digest_Sum_12 x_sha_Digest_Sum_12l := E3.rfl
def x_sha_Digest_Sum_13b : XC :=
  .seq (.ops x_sha_Digest_Sum_9) (.seq (.cond (T 52) (.skip) (.exit 2)) (.seq (.block 3 (.seq (.ops x_sha_Digest_Sum_10) (.draw x_sha_Digest_Sum_11 [(4, (16, [])), (8, (16, []))]))) (.ops x_sha_Digest_Sum_12)))
def x_sha_Digest_Sum_13 : XC := x_sha_Digest_Sum_13b
theorem x_sha_Digest_Sum_13k {pr : Prog} {k : List KI} {Q : XE → Fr → Heap → Prop} {t : Fr} {h : Heap} (hw : wpk pr x_sha_Digest_Sum_13b k Q t h) : wpk pr x_sha_Digest_Sum_13 k Q t h := hw
abbrev x_sha_Digest_Sum_14l : List XO := [
  ⟨some 74, .p (.mov (T 3)), none⟩,
  ⟨some 75, .p (.nilc (T 74)), none⟩,
  ⟨some 76, .p (.faddr 8 (T 75)), none⟩,
  ⟨some 77, .r (.load1 (T 76)), none⟩,
  ⟨some 78, .p (.lenV (T 77)), none⟩,
  ⟨some 79, .p (.bin .gtr (T 78) (C (.int .i64 0))), none⟩]
def x_sha_Digest_Sum_14 : List XO := x_sha_Digest_Sum_14l
theorem x_sha_Digest_Sum_14e : E3 x_sha_Digest_Sum_14 x_sha_Digest_Sum_14l := E3.rfl
abbrev x_sha_Digest_Sum_15l : List XO := [
  ⟨some 80, .p (.mov (T 3)), none⟩,
  ⟨some 81, .p (.mov (T 3)), none⟩,
  ⟨some 82, .p (.nilc (T 81)), none⟩,
  ⟨some 83, .p (.faddr 8 (T 82)), none⟩,
  ⟨some 84, .r (.load1 (T 83)), none⟩,
  ⟨some 85, .p (.slc 1 (T 84) none (some (C (.int .i64 64))) none), none⟩,
  ⟨some 86, .call (.func 104) [(T 80), (T 85)], none⟩]
def x_sha_Digest_Sum_15 : List XO := x_sha_Digest_Sum_15l
theorem x_sha_Digest_Sum_15e : E3 x_sha_Digest_Sum_15 x_sha_Digest_Sum_15l := E3.rfl
abbrev x_sha_Digest_Sum_16l : List XO := [
  ⟨some 87, .p (.mov (T 3)), none⟩,
  ⟨some 88, .p (.mov (T 3)), none⟩,
  ⟨some 89, .p (.nilc (T 88)), none⟩,
  ⟨some 90, .p (.faddr 8 (T 89)), none⟩,
  ⟨some 91, .r (.load1 (T 90)), none⟩,
  ⟨some 92, .p (.slc 1 (T 91) (some (C (.int .i64 64))) none none), none⟩,
  ⟨some 93, .p (.nilc (T 87)), none⟩,
  ⟨some 94, .p (.faddr 8 (T 93)), none⟩,
  ⟨none, .e (.store 1 (T 94) (T 92)), none⟩]
def x_sha_Digest_Sum_16 : List XO := x_sha_Digest_Sum_16l
theorem x_sha_Digest_Sum_16e : E3 x_sha_Digest_Sum_16 x_sha_Digest_Sum_16l := E3.rfl
def x_sha_Digest_Sum_17b : XC :=
  .seq (.seq (.ops x_sha_Digest_Sum_14) (.cond (T 79) (.skip) (.exit 4))) (.block 5 (.seq (.ops x_sha_Digest_Sum_15) (.ops x_sha_Digest_Sum_16)))
def x_sha_Digest_Sum_17 : XC := x_sha_Digest_Sum_17b
theorem x_sha_Digest_Sum_17k {pr : Prog} {k : List KI} {Q : XE → Fr → Heap → Prop} {t : Fr} {h : Heap} (hw : wpk pr x_sha_Digest_Sum_17b k Q t h) : wpk pr x_sha_Digest_Sum_17 k Q t h := hw
abbrev x_sha_Digest_Sum_18l : List XO := [
  ⟨some 5, .p (.mov (C (.slice none 0 0))), none⟩]
def x_sha_Digest_Sum_18 : List XO := x_sha_Digest_Sum_18l
theorem x_sha_Digest_Sum_18e : E3 x_sha_Digest_Sum_18 x_sha_Digest_Sum_18l := E3.rfl
abbrev x_sha_Digest_Sum_19l : List XO := [
  ⟨some 95, .p (.mov (T 3)), none⟩,
  ⟨some 96, .p (.nilc (T 95)), none⟩,
  ⟨some 97, .p (.faddr 0 (T 96)), none⟩,
  ⟨some 98, .r (.loadN 8 (T 97)), none⟩,
  ⟨some 99, .p (.mov (C (.int .i64 0))), none⟩]
def x_sha_Digest_Sum_19 : List XO := x_sha_Digest_Sum_19l
theorem x_sha_Digest_Sum_19e : E3 x_sha_Digest_Sum_19 x_sha_Digest_Sum_19l := E3.rfl
abbrev x_sha_Digest_Sum_20l : List XO := [
  ⟨some 100, .p (.bin .lss (T 99) (C (.int .i64 8))), none⟩]
def x_sha_Digest_Sum_20 : List XO := x_sha_Digest_Sum_20l
theorem x_sha_Digest_Sum_20e : E3 x_sha_Digest_Sum_20 x_sha_Digest_Sum_20l := E3.rfl
abbrev x_sha_Digest_Sum_21l : List XO := [
  ⟨some 101, .p (.idxA1 8 (T 98) (T 99)), none⟩,
  ⟨some 7, .p (.mov (T 101)), none⟩]
def x_sha_Digest_Sum_21 : List XO := x_sha_Digest_Sum_21l
theorem x_sha_Digest_Sum_21e : E3 x_sha_Digest_Sum_21 x_sha_Digest_Sum_21l := E3.rfl
abbrev x_sha_Digest_Sum_22l : List XO := [
  ⟨some 102, .p (.mov (C (.int .i64 0))), none⟩]
def x_sha_Digest_Sum_22 : List XO := x_sha_Digest_Sum_22l
theorem x_sha_Digest_Sum_22e : E3 x_sha_Digest_Sum_22 x_sha_Digest_Sum_22l := E3.rfl
abbrev x_sha_Digest_Sum_23l : List XO := [
  ⟨some 103, .p (.bin .lss (T 102) (C (.int .i64 4))), none⟩]
def x_sha_Digest_Sum_23 : List XO := x_sha_Digest_Sum_23l
theorem x_sha_Digest_Sum_23e : E3 x_sha_Digest_Sum_23 x_sha_Digest_Sum_23l := E3.rfl
abbrev x_sha_Digest_Sum_24l : List XO := [
  ⟨some 104, .p (.mov (T 102)), none⟩,
  ⟨some 8, .p (.mov (T 104)), none⟩]
def x_sha_Digest_Sum_24 : List XO := x_sha_Digest_Sum_24l
theorem x_sha_Digest_Sum_24e : E3 x_sha_Digest_Sum_24 x_sha_Digest_Sum_24l := E3.rfl
abbrev x_sha_Digest_Sum_25l : List XO := [
  ⟨some 105, .p (.mov (T 5)), none⟩,
  ⟨some 106, .p (.mov (T 7)), none⟩,
  ⟨some 107, .p (.mov (T 8)), none⟩,
  ⟨some 108, .p (.bin .sub (C (.int .i64 3)) (T 107)), none⟩,
  ⟨some 109, .p (.bin .mul (C (.int .i64 8)) (T 108)), none⟩,
  ⟨some 110, .p (.bin .shr (T 106) (T 109)), none⟩,
  ⟨some 111, .p (.cint .u8 (T 110)), none⟩,
  ⟨some 112, .a (.bslice [(.int .u8 0)] 1 [(0, 1, (T 111))]), none⟩,
  ⟨some 113, .e (.append 1 1 (T 105) (T 112)), none⟩,
  ⟨some 5, .p (.mov (T 113)), none⟩]
def x_sha_Digest_Sum_25 : List XO := x_sha_Digest_Sum_25l
theorem x_sha_Digest_Sum_25e : E3 x_sha_Digest_Sum_25 x_sha_Digest_Sum_25l := E3.rfl
abbrev x_sha_Digest_Sum_26l : List XO := [
  ⟨some 114, .p (.bin .add (T 102) (C (.int .i64 1))), none⟩,
  ⟨some 102, .p (.mov (T 114)), none⟩]
def x_sha_Digest_Sum_26 : List XO := x_sha_Digest_Sum_26l
theorem x_sha_Digest_Sum_26e : E3 x_sha_Digest_Sum_26 x_sha_Digest_Sum_26l := E3.rfl
def x_sha_Digest_Sum_27b : XC :=
  .seq (.ops x_sha_Digest_Sum_23) (.seq (.cond (T 103) (.skip) (.exit 8)) (.seq (.block 9 (.seq (.ops x_sha_Digest_Sum_24) (.ops x_sha_Digest_Sum_25))) (.ops x_sha_Digest_Sum_26)))
def x_sha_Digest_Sum_27 : XC := x_sha_Digest_Sum_27b
theorem x_sha_Digest_Sum_27k {pr : Prog} {k : List KI} {Q : XE → Fr → Heap → Prop} {t : Fr} {h : Heap} (hw : wpk pr x_sha_Digest_Sum_27b k Q t h) : wpk pr x_sha_Digest_Sum_27 k Q t h := hw
abbrev x_sha_Digest_Sum_28l : List XO := [
  ⟨some 115, .p (.bin .add (T 99) (C (.int .i64 1))), none⟩,
  ⟨some 99, .p (.mov (T 115)), none⟩]
def x_sha_Digest_Sum_28 : List XO := x_sha_Digest_Sum_28l
theorem x_sha_Digest_Sum_28e : E3 x_sha_Digest_Sum_28 x_sha_Digest_Sum_28l := E3.rfl
def x_sha_Digest_Sum_29b : XC :=
  .seq (.ops x_sha_Digest_Sum_20) (.seq (.cond (T 100) (.skip) (.exit 6)) (.seq (.block 7 (.seq (.ops x_sha_Digest_Sum_21) (.seq (.ops x_sha_Digest_Sum_22) (.block 8 (.loop x_sha_Digest_Sum_27))))) (.ops x_sha_Digest_Sum_28)))
def x_sha_Digest_Sum_29 : XC := x_sha_Digest_Sum_29b
theorem x_sha_Digest_Sum_29k {pr : Prog} {k : List KI} {Q : XE → Fr → Heap → Prop} {t : Fr} {h : Heap} (hw : wpk pr x_sha_Digest_Sum_29b k Q t h) : wpk pr x_sha_Digest_Sum_29 k Q t h := hw
abbrev x_sha_Digest_Sum_30l : List XO := [
  ⟨some 116, .p (.mov (T 5)), none⟩,
  ⟨some 117, .r (.cb2s (T 116)), none⟩,
  ⟨some 2, .p (.mov (T 117)), none⟩]
def x_sha_Digest_Sum_30 : List XO := x_sha_Digest_Sum_30l
theorem x_sha_Digest_Sum_30e : E3 x_sha_Digest_Sum_30 x_sha_Digest_Sum_30l := E3.rfl
def x_sha_Digest_Sum : XF := ⟨1, [.tmp 2],
  .seq (.ops x_sha_Digest_Sum_0) (.seq (.seq (.ops x_sha_Digest_Sum_1) (.cond (T 10) (.seq (.ops x_sha_Digest_Sum_2) (.ret)) (.skip))) (.seq (.draw x_sha_Digest_Sum_3 [(3, (11, [])), (7, (11, []))]) (.seq (.draw x_sha_Digest_Sum_4 []) (.seq (.block 0 (.loop x_sha_Digest_Sum_7)) (.seq (.seq (.ops x_sha_Digest_Sum_8) (.block 2 (.loop x_sha_Digest_Sum_13))) (.seq (.block 4 (.loop x_sha_Digest_Sum_17)) (.seq (.ops x_sha_Digest_Sum_18) (.seq (.seq (.ops x_sha_Digest_Sum_19) (.block 6 (.loop x_sha_Digest_Sum_29))) (.seq (.ops x_sha_Digest_Sum_30) (.ret))))))))))⟩
def y_sha_Digest_Sum := PLift.up (And.intro (And.intro (And.intro (And.intro (@x_sha_Digest_Sum_0e) (And.intro (@x_sha_Digest_Sum_1e) (@x_sha_Digest_Sum_2e))) (And.intro (@x_sha_Digest_Sum_3e) (And.intro (@x_sha_Digest_Sum_4e) (@x_sha_Digest_Sum_5e)))) (And.intro (And.intro (@x_sha_Digest_Sum_6e) (And.intro (@x_sha_Digest_Sum_8e) (@x_sha_Digest_Sum_9e))) (And.intro (And.intro (@x_sha_Digest_Sum_10e) (@x_sha_Digest_Sum_11e)) (And.intro (@x_sha_Digest_Sum_12e) (@x_sha_Digest_Sum_14e))))) (And.intro (And.intro (And.intro (@x_sha_Digest_Sum_15e) (And.intro (@x_sha_Digest_Sum_16e) (@x_sha_Digest_Sum_18e))) (And.intro (@x_sha_Digest_Sum_19e) (And.intro (@x_sha_Digest_Sum_20e) (@x_sha_Digest_Sum_21e)))) (And.intro (And.intro (@x_sha_Digest_Sum_22e) (And.intro (@x_sha_Digest_Sum_23e) (@x_sha_Digest_Sum_24e))) (And.intro (And.intro (@x_sha_Digest_Sum_25e) (@x_sha_Digest_Sum_26e)) (And.intro (@x_sha_Digest_Sum_28e) (@x_sha_Digest_Sum_30e))))))
theorem c_sha_Digest_Sum : funcC Try.prog Try.f87 = some x_sha_Digest_Sum := by kernel_rfl
/- muniment/sha.Sum -/
abbrev x_sha_Sum_0l : List XO := [
  ⟨some 2, .p (.mov (C (.string (strOf [])))), none⟩]
def x_sha_Sum_0 : List XO := x_sha_Sum_0l
theorem x_sha_Sum_0e : E3 x_sha_Sum_0 x_sha_Sum_0l := E3.rfl
abbrev x_sha_Sum_1l : List XO := [
  ⟨some 4, .call (.func 85) [], none⟩,
  ⟨some 3, .p (.mov (T 4)), none⟩]
def x_sha_Sum_1 : List XO := x_sha_Sum_1l
theorem x_sha_Sum_1e : E3 x_sha_Sum_1 x_sha_Sum_1l := E3.rfl
abbrev x_sha_Sum_2l : List XO := [
  ⟨some 5, .p (.mov (T 3)), none⟩,
  ⟨some 6, .p (.mov (T 0)), none⟩,
  ⟨some 7, .call (.func 86) [(T 5), (T 6)], none⟩]
def x_sha_Sum_2 : List XO := x_sha_Sum_2l
theorem x_sha_Sum_2e : E3 x_sha_Sum_2 x_sha_Sum_2l := E3.rfl
abbrev x_sha_Sum_3l : List XO := [
  ⟨some 8, .p (.mov (T 3)), none⟩,
  ⟨some 9, .call (.func 87) [(T 8)], none⟩,
  ⟨some 2, .p (.mov (T 9)), none⟩]
def x_sha_Sum_3 : List XO := x_sha_Sum_3l
theorem x_sha_Sum_3e : E3 x_sha_Sum_3 x_sha_Sum_3l := E3.rfl
def x_sha_Sum : XF := ⟨1, [.tmp 2],
  .seq (.ops x_sha_Sum_0) (.seq (.ops x_sha_Sum_1) (.seq (.ops x_sha_Sum_2) (.seq (.ops x_sha_Sum_3) (.ret))))⟩
def y_sha_Sum := PLift.up (And.intro (And.intro (@x_sha_Sum_0e) (@x_sha_Sum_1e)) (And.intro (@x_sha_Sum_2e) (@x_sha_Sum_3e)))
theorem c_sha_Sum : funcC Try.prog Try.f59 = some x_sha_Sum := by kernel_rfl
/- muniment/munimentref01.turn -/
abbrev x_ref01_turn_0l : List XO := [
  ⟨some 4, .p (.mov (C (.int .u32 0))), none⟩]
def x_ref01_turn_0 : List XO := x_ref01_turn_0l
theorem x_ref01_turn_0e : E3 x_ref01_turn_0 x_ref01_turn_0l := E3.rfl
abbrev x_ref01_turn_1l : List XO := [
  ⟨some 5, .p (.mov (T 0)), none⟩,
  ⟨some 6, .p (.mov (T 1)), none⟩,
  ⟨some 7, .p (.bin .shr (T 5) (T 6)), none⟩,
  ⟨some 8, .p (.mov (T 0)), none⟩,
  ⟨some 9, .p (.mov (T 1)), none⟩,
  ⟨some 10, .p (.bin .sub (C (.int .u64 32)) (T 9)), none⟩,
  ⟨some 11, .p (.bin .shl (T 8) (T 10)), none⟩,
  ⟨some 12, .p (.bin .or (T 7) (T 11)), none⟩,
  ⟨some 4, .p (.mov (T 12)), none⟩]
def x_ref01_turn_1 : List XO := x_ref01_turn_1l
theorem x_ref01_turn_1e : E3 x_ref01_turn_1 x_ref01_turn_1l := E3.rfl
def x_ref01_turn : XF := ⟨2, [.tmp 4],
  .seq (.ops x_ref01_turn_0) (.seq (.ops x_ref01_turn_1) (.ret))⟩
def y_ref01_turn := PLift.up (And.intro (@x_ref01_turn_0e) (@x_ref01_turn_1e))
theorem c_ref01_turn : funcC Try.prog Try.f62 = some x_ref01_turn := by kernel_rfl
/- muniment/munimentref01.table -/
abbrev x_ref01_table_0l : List XO := [
  ⟨some 0, .a (.alloc (List.replicate 64 (.int .u32 0))), none⟩,
  ⟨some 1, .a (.alloc (List.replicate 8 (.int .u32 0))), none⟩]
def x_ref01_table_0 : List XO := x_ref01_table_0l
theorem x_ref01_table_0e : E3 x_ref01_table_0 x_ref01_table_0l := E3.rfl
abbrev x_ref01_table_1l : List XO := [
  ⟨some 2, .p (.build (List.replicate 64 (.int .u32 0)) [(0, 1, (C (.int .u32 1116352408))), (1, 1, (C (.int .u32 1899447441))), (2, 1, (C (.int .u32 3049323471))), (3, 1, (C (.int .u32 3921009573))), (4, 1, (C (.int .u32 961987163))), (5, 1, (C (.int .u32 1508970993))), (6, 1, (C (.int .u32 2453635748))), (7, 1, (C (.int .u32 2870763221))), (8, 1, (C (.int .u32 3624381080))), (9, 1, (C (.int .u32 310598401))), (10, 1, (C (.int .u32 607225278))), (11, 1, (C (.int .u32 1426881987))), (12, 1, (C (.int .u32 1925078388))), (13, 1, (C (.int .u32 2162078206))), (14, 1, (C (.int .u32 2614888103))), (15, 1, (C (.int .u32 3248222580))), (16, 1, (C (.int .u32 3835390401))), (17, 1, (C (.int .u32 4022224774))), (18, 1, (C (.int .u32 264347078))), (19, 1, (C (.int .u32 604807628))), (20, 1, (C (.int .u32 770255983))), (21, 1, (C (.int .u32 1249150122))), (22, 1, (C (.int .u32 1555081692))), (23, 1, (C (.int .u32 1996064986))), (24, 1, (C (.int .u32 2554220882))), (25, 1, (C (.int .u32 2821834349))), (26, 1, (C (.int .u32 2952996808))), (27, 1, (C (.int .u32 3210313671))), (28, 1, (C (.int .u32 3336571891))), (29, 1, (C (.int .u32 3584528711))), (30, 1, (C (.int .u32 113926993))), (31, 1, (C (.int .u32 338241895))), (32, 1, (C (.int .u32 666307205))), (33, 1, (C (.int .u32 773529912))), (34, 1, (C (.int .u32 1294757372))), (35, 1, (C (.int .u32 1396182291))), (36, 1, (C (.int .u32 1695183700))), (37, 1, (C (.int .u32 1986661051))), (38, 1, (C (.int .u32 2177026350))), (39, 1, (C (.int .u32 2456956037))), (40, 1, (C (.int .u32 2730485921))), (41, 1, (C (.int .u32 2820302411))), (42, 1, (C (.int .u32 3259730800))), (43, 1, (C (.int .u32 3345764771))), (44, 1, (C (.int .u32 3516065817))), (45, 1, (C (.int .u32 3600352804))), (46, 1, (C (.int .u32 4094571909))), (47, 1, (C (.int .u32 275423344))), (48, 1, (C (.int .u32 430227734))), (49, 1, (C (.int .u32 506948616))), (50, 1, (C (.int .u32 659060556))), (51, 1, (C (.int .u32 883997877))), (52, 1, (C (.int .u32 958139571))), (53, 1, (C (.int .u32 1322822218))), (54, 1, (C (.int .u32 1537002063))), (55, 1, (C (.int .u32 1747873779))), (56, 1, (C (.int .u32 1955562222))), (57, 1, (C (.int .u32 2024104815))), (58, 1, (C (.int .u32 2227730452))), (59, 1, (C (.int .u32 2361852424))), (60, 1, (C (.int .u32 2428436474))), (61, 1, (C (.int .u32 2756734187))), (62, 1, (C (.int .u32 3204031479))), (63, 1, (C (.int .u32 3329325298)))]), none⟩,
  ⟨some 3, .p (.build (List.replicate 8 (.int .u32 0)) [(0, 1, (C (.int .u32 1779033703))), (1, 1, (C (.int .u32 3144134277))), (2, 1, (C (.int .u32 1013904242))), (3, 1, (C (.int .u32 2773480762))), (4, 1, (C (.int .u32 1359893119))), (5, 1, (C (.int .u32 2600822924))), (6, 1, (C (.int .u32 528734635))), (7, 1, (C (.int .u32 1541459225)))]), none⟩,
  ⟨none, .e (.store 64 (T 0) (T 2)), none⟩,
  ⟨none, .e (.store 8 (T 1) (T 3)), none⟩]
def x_ref01_table_1 : List XO := x_ref01_table_1l
theorem x_ref01_table_1e : E3 x_ref01_table_1 x_ref01_table_1l := E3.rfl
def x_ref01_table : XF := ⟨0, [.cellN 0 64, .cellN 1 8],
  .seq (.ops x_ref01_table_0) (.seq (.ops x_ref01_table_1) (.ret))⟩
def y_ref01_table := PLift.up (And.intro (@x_ref01_table_0e) (@x_ref01_table_1e))
theorem c_ref01_table : funcC Try.prog Try.f61 = some x_ref01_table := by kernel_rfl
/- muniment/munimentref01.Sum -/
abbrev x_ref01_Sum_0l : List XO := [
  ⟨some 2, .p (.mov (C (.string (strOf [])))), none⟩]
def x_ref01_Sum_0 : List XO := x_ref01_Sum_0l
theorem x_ref01_Sum_0e : E3 x_ref01_Sum_0 x_ref01_Sum_0l := E3.rfl
abbrev x_ref01_Sum_1l : List XO := [
  ⟨some 25, .call (.func 61) [], none⟩,
  ⟨some 24, .p (.mov (T 25)), none⟩,
  ⟨some 26, .p (.ext (T 24) 0), none⟩,
  ⟨some 27, .p (.ext (T 24) 1), none⟩,
  ⟨some 3, .a (.alloc (List.replicate 64 (.int .u32 0))), none⟩,
  ⟨some 4, .a (.alloc (List.replicate 8 (.int .u32 0))), none⟩,
  ⟨none, .e (.store 64 (T 3) (T 26)), none⟩,
  ⟨none, .e (.store 8 (T 4) (T 27)), none⟩]
def x_ref01_Sum_1 : List XO := x_ref01_Sum_1l
theorem x_ref01_Sum_1e : E3 x_ref01_Sum_1 x_ref01_Sum_1l := E3.rfl
abbrev x_ref01_Sum_2l : List XO := [
  ⟨some 28, .p (.mov (T 0)), none⟩,
  ⟨some 29, .a (.cs2b (T 28)), none⟩,
  ⟨some 5, .p (.mov (T 29)), none⟩]
def x_ref01_Sum_2 : List XO := x_ref01_Sum_2l
theorem x_ref01_Sum_2e : E3 x_ref01_Sum_2 x_ref01_Sum_2l := E3.rfl
abbrev x_ref01_Sum_3l : List XO := [
  ⟨some 30, .p (.mov (T 5)), none⟩,
  ⟨some 31, .a (.bslice [(.int .u8 0)] 1 [(0, 1, (C (.int .u8 128)))]), none⟩,
  ⟨some 32, .e (.append 1 1 (T 30) (T 31)), none⟩,
  ⟨some 5, .p (.mov (T 32)), none⟩]
def x_ref01_Sum_3 : List XO := x_ref01_Sum_3l
theorem x_ref01_Sum_3e : E3 x_ref01_Sum_3 x_ref01_Sum_3l := E3.rfl
abbrev x_ref01_Sum_4l : List XO := [
  ⟨some 33, .p (.mov (T 5)), none⟩,
  ⟨some 34, .p (.lenV (T 33)), none⟩,
  ⟨some 35, .p (.bin .rem (T 34) (C (.int .i64 64))), none⟩,
  ⟨some 36, .p (.eql true .int (T 35) (C (.int .i64 56))), none⟩]
def x_ref01_Sum_4 : List XO := x_ref01_Sum_4l
theorem x_ref01_Sum_4e : E3 x_ref01_Sum_4 x_ref01_Sum_4l := E3.rfl
abbrev x_ref01_Sum_5l : List XO := [
  ⟨some 37, .p (.mov (T 5)), none⟩,
  ⟨some 38, .a (.bslice [(.int .u8 0)] 1 [(0, 1, (C (.int .u8 0)))]), none⟩,
  ⟨some 39, .e (.append 1 1 (T 37) (T 38)), none⟩,
  ⟨some 5, .p (.mov (T 39)), none⟩]
def x_ref01_Sum_5 : List XO := x_ref01_Sum_5l
theorem x_ref01_Sum_5e : E3 x_ref01_Sum_5 x_ref01_Sum_5l := E3.rfl
def x_ref01_Sum_6b : XC :=
  .seq (.seq (.ops x_ref01_Sum_4) (.cond (T 36) (.skip) (.exit 0))) (.block 1 (.ops x_ref01_Sum_5))
def x_ref01_Sum_6 : XC := x_ref01_Sum_6b
theorem x_ref01_Sum_6k {pr : Prog} {k : List KI} {Q : XE → Fr → Heap → Prop} {t : Fr} {h : Heap} (hw : wpk pr x_ref01_Sum_6b k Q t h) : wpk pr x_ref01_Sum_6 k Q t h := hw
abbrev x_ref01_Sum_7l : List XO := [
  ⟨some 40, .p (.mov (T 0)), none⟩,
  ⟨some 41, .p (.lenS (T 40)), none⟩,
  ⟨some 42, .p (.cint .u64 (T 41)), none⟩,
  ⟨some 43, .p (.bin .mul (T 42) (C (.int .u64 8))), none⟩,
  ⟨some 6, .p (.mov (T 43)), none⟩]
def x_ref01_Sum_7 : List XO := x_ref01_Sum_7l
theorem x_ref01_Sum_7e : E3 x_ref01_Sum_7 x_ref01_Sum_7l := E3.rfl
abbrev x_ref01_Sum_8l : List XO := [
  ⟨some 7, .p (.mov (C (.int .i64 7))), none⟩]
def x_ref01_Sum_8 : List XO := x_ref01_Sum_8l
theorem x_ref01_Sum_8e : E3 x_ref01_Sum_8 x_ref01_Sum_8l := E3.rfl
abbrev x_ref01_Sum_9l : List XO := [
  ⟨some 44, .p (.mov (T 7)), none⟩,
  ⟨some 45, .p (.bin .geq (T 44) (C (.int .i64 0))), none⟩]
def x_ref01_Sum_9 : List XO := x_ref01_Sum_9l
theorem x_ref01_Sum_9e : E3 x_ref01_Sum_9 x_ref01_Sum_9l := E3.rfl
abbrev x_ref01_Sum_10l : List XO := [
  ⟨some 48, .p (.mov (T 5)), none⟩,
  ⟨some 49, .p (.mov (T 6)), none⟩,
  ⟨some 50, .p (.mov (T 7)), none⟩,
  ⟨some 51, .p (.bin .mul (C (.int .i64 8)) (T 50)), none⟩,
  ⟨some 52, .p (.cint .u64 (T 51)), none⟩,
  ⟨some 53, .p (.bin .shr (T 49) (T 52)), none⟩,
  ⟨some 54, .p (.cint .u8 (T 53)), none⟩,
  ⟨some 55, .a (.bslice [(.int .u8 0)] 1 [(0, 1, (T 54))]), none⟩,
  ⟨some 56, .e (.append 1 1 (T 48) (T 55)), none⟩,
  ⟨some 5, .p (.mov (T 56)), none⟩]
def x_ref01_Sum_10 : List XO := x_ref01_Sum_10l
theorem x_ref01_Sum_10e : E3 x_ref01_Sum_10 x_ref01_Sum_10l := E3.rfl
abbrev x_ref01_Sum_11l : List XO := [
  ⟨some 46, .p (.mov (T 7)), none⟩,
  ⟨some 47, .p (.bin .sub (T 46) (C (.int .i64 1))), none⟩,
  ⟨some 7, .p (.mov (T 47)), none⟩]
def x_ref01_Sum_11 : List XO := x_ref01_Sum_11l
theorem x_ref01_Sum_11e : E3 x_ref01_Sum_11 x_ref01_Sum_11l := E3.rfl
def x_ref01_Sum_12b : XC :=
  .seq (.seq (.ops x_ref01_Sum_9) (.cond (T 45) (.skip) (.exit 2))) (.seq (.block 3 (.ops x_ref01_Sum_10)) (.ops x_ref01_Sum_11))
def x_ref01_Sum_12 : XC := x_ref01_Sum_12b
theorem x_ref01_Sum_12k {pr : Prog} {k : List KI} {Q : XE → Fr → Heap → Prop} {t : Fr} {h : Heap} (hw : wpk pr x_ref01_Sum_12b k Q t h) : wpk pr x_ref01_Sum_12 k Q t h := hw
abbrev x_ref01_Sum_13l : List XO := [
  ⟨some 8, .p (.mov (C (.int .i64 0))), none⟩]
def x_ref01_Sum_13 : List XO := x_ref01_Sum_13l
theorem x_ref01_Sum_13e : E3 x_ref01_Sum_13 x_ref01_Sum_13l := E3.rfl
abbrev x_ref01_Sum_14l : List XO := [
  ⟨some 57, .p (.mov (T 8)), none⟩,
  ⟨some 58, .p (.mov (T 5)), none⟩,
  ⟨some 59, .p (.lenV (T 58)), none⟩,
  ⟨some 60, .p (.bin .lss (T 57) (T 59)), none⟩]
def x_ref01_Sum_14 : List XO := x_ref01_Sum_14l
theorem x_ref01_Sum_14e : E3 x_ref01_Sum_14 x_ref01_Sum_14l := E3.rfl
abbrev x_ref01_Sum_15l : List XO := [
  ⟨some 63, .p (.build (List.replicate 64 (.int .u32 0)) []), none⟩,
  ⟨some 9, .a (.alloc (List.replicate 64 (.int .u32 0))), none⟩,
  ⟨none, .e (.store 64 (T 9) (T 63)), none⟩]
def x_ref01_Sum_15 : List XO := x_ref01_Sum_15l
theorem x_ref01_Sum_15e : E3 x_ref01_Sum_15 x_ref01_Sum_15l := E3.rfl
abbrev x_ref01_Sum_16l : List XO := [
  ⟨some 10, .p (.mov (C (.int .i64 0))), none⟩]
def x_ref01_Sum_16 : List XO := x_ref01_Sum_16l
theorem x_ref01_Sum_16e : E3 x_ref01_Sum_16 x_ref01_Sum_16l := E3.rfl
abbrev x_ref01_Sum_17l : List XO := [
  ⟨some 64, .p (.mov (T 10)), none⟩,
  ⟨some 65, .p (.bin .lss (T 64) (C (.int .i64 64))), none⟩]
def x_ref01_Sum_17 : List XO := x_ref01_Sum_17l
theorem x_ref01_Sum_17e : E3 x_ref01_Sum_17 x_ref01_Sum_17l := E3.rfl
abbrev x_ref01_Sum_18l : List XO := [
  ⟨some 68, .p (.mov (T 10)), none⟩,
  ⟨some 69, .p (.bin .lss (T 68) (C (.int .i64 16))), none⟩]
def x_ref01_Sum_18 : List XO := x_ref01_Sum_18l
theorem x_ref01_Sum_18e : E3 x_ref01_Sum_18 x_ref01_Sum_18l := E3.rfl
abbrev x_ref01_Sum_19l : List XO := [
  ⟨some 70, .p (.mov (T 5)), none⟩,
  ⟨some 71, .p (.mov (T 8)), none⟩,
  ⟨some 72, .p (.mov (T 10)), none⟩,
  ⟨some 73, .p (.bin .mul (C (.int .i64 4)) (T 72)), none⟩,
  ⟨some 74, .p (.bin .add (T 71) (T 73)), none⟩,
  ⟨some 75, .p (.mov (T 8)), none⟩,
  ⟨some 76, .p (.mov (T 10)), none⟩,
  ⟨some 77, .p (.bin .mul (C (.int .i64 4)) (T 76)), none⟩,
  ⟨some 78, .p (.bin .add (T 75) (T 77)), none⟩,
  ⟨some 79, .p (.bin .add (T 78) (C (.int .i64 4))), none⟩,
  ⟨some 80, .p (.slc 1 (T 70) (some (T 74)) (some (T 79)) none), none⟩,
  ⟨some 11, .p (.mov (T 80)), none⟩]
def x_ref01_Sum_19 : List XO := x_ref01_Sum_19l
theorem x_ref01_Sum_19e : E3 x_ref01_Sum_19 x_ref01_Sum_19l := E3.rfl
abbrev x_ref01_Sum_20l : List XO := [
  ⟨some 81, .p (.mov (T 10)), none⟩,
  ⟨some 82, .p (.mov (T 11)), none⟩,
  ⟨some 83, .p (.iaddrS 1 (T 82) (C (.int .i64 0))), none⟩,
  ⟨some 84, .r (.load1 (T 83)), none⟩,
  ⟨some 85, .p (.cint .u32 (T 84)), none⟩,
  ⟨some 86, .p (.bin .shl (T 85) (C (.int .u64 24))), none⟩,
  ⟨some 87, .p (.mov (T 11)), none⟩,
  ⟨some 88, .p (.iaddrS 1 (T 87) (C (.int .i64 1))), none⟩,
  ⟨some 89, .r (.load1 (T 88)), none⟩,
  ⟨some 90, .p (.cint .u32 (T 89)), none⟩,
  ⟨some 91, .p (.bin .shl (T 90) (C (.int .u64 16))), none⟩,
  ⟨some 92, .p (.bin .or (T 86) (T 91)), none⟩,
  ⟨some 93, .p (.mov (T 11)), none⟩,
  ⟨some 94, .p (.iaddrS 1 (T 93) (C (.int .i64 2))), none⟩,
  ⟨some 95, .r (.load1 (T 94)), none⟩,
  ⟨some 96, .p (.cint .u32 (T 95)), none⟩,
  ⟨some 97, .p (.bin .shl (T 96) (C (.int .u64 8))), none⟩,
  ⟨some 98, .p (.bin .or (T 92) (T 97)), none⟩,
  ⟨some 99, .p (.mov (T 11)), none⟩,
  ⟨some 100, .p (.iaddrS 1 (T 99) (C (.int .i64 3))), none⟩,
  ⟨some 101, .r (.load1 (T 100)), none⟩,
  ⟨some 102, .p (.cint .u32 (T 101)), none⟩,
  ⟨some 103, .p (.bin .or (T 98) (T 102)), none⟩,
  ⟨some 104, .p (.iaddrA 64 1 (T 9) (T 81)), none⟩,
  ⟨none, .e (.store 1 (T 104) (T 103)), none⟩]
def x_ref01_Sum_20 : List XO := x_ref01_Sum_20l
theorem x_ref01_Sum_20e : E3 x_ref01_Sum_20 x_ref01_Sum_20l := E3.rfl
abbrev x_ref01_Sum_21l : List XO := [
  ⟨some 105, .p (.mov (T 10)), none⟩,
  ⟨some 106, .p (.bin .sub (T 105) (C (.int .i64 15))), none⟩,
  ⟨some 107, .p (.iaddrA 64 1 (T 9) (T 106)), none⟩,
  ⟨some 108, .r (.load1 (T 107)), none⟩,
  ⟨some 109, .call (.func 62) [(T 108), (C (.int .u64 7))], none⟩,
  ⟨some 110, .p (.mov (T 10)), none⟩,
  ⟨some 111, .p (.bin .sub (T 110) (C (.int .i64 15))), none⟩,
  ⟨some 112, .p (.iaddrA 64 1 (T 9) (T 111)), none⟩,
  ⟨some 113, .r (.load1 (T 112)), none⟩,
  ⟨some 114, .call (.func 62) [(T 113), (C (.int .u64 18))], none⟩,
  ⟨some 115, .p (.bin .xor (T 109) (T 114)), none⟩,
  ⟨some 116, .p (.mov (T 10)), none⟩,
  ⟨some 117, .p (.bin .sub (T 116) (C (.int .i64 15))), none⟩,
  ⟨some 118, .p (.iaddrA 64 1 (T 9) (T 117)), none⟩,
  ⟨some 119, .r (.load1 (T 118)), none⟩,
  ⟨some 120, .p (.bin .shr (T 119) (C (.int .u64 3))), none⟩,
  ⟨some 121, .p (.bin .xor (T 115) (T 120)), none⟩,
  ⟨some 12, .p (.mov (T 121)), none⟩]
def x_ref01_Sum_21 : List XO := x_ref01_Sum_21l
theorem x_ref01_Sum_21e : E3 x_ref01_Sum_21 x_ref01_Sum_21l := E3.rfl
abbrev x_ref01_Sum_22l : List XO := [
  ⟨some 122, .p (.mov (T 10)), none⟩,
  ⟨some 123, .p (.bin .sub (T 122) (C (.int .i64 2))), none⟩,
  ⟨some 124, .p (.iaddrA 64 1 (T 9) (T 123)), none⟩,
  ⟨some 125, .r (.load1 (T 124)), none⟩,
  ⟨some 126, .call (.func 62) [(T 125), (C (.int .u64 17))], none⟩,
  ⟨some 127, .p (.mov (T 10)), none⟩,
  ⟨some 128, .p (.bin .sub (T 127) (C (.int .i64 2))), none⟩,
  ⟨some 129, .p (.iaddrA 64 1 (T 9) (T 128)), none⟩,
  ⟨some 130, .r (.load1 (T 129)), none⟩,
  ⟨some 131, .call (.func 62) [(T 130), (C (.int .u64 19))], none⟩,
  ⟨some 132, .p (.bin .xor (T 126) (T 131)), none⟩,
  ⟨some 133, .p (.mov (T 10)), none⟩,
  ⟨some 134, .p (.bin .sub (T 133) (C (.int .i64 2))), none⟩,
  ⟨some 135, .p (.iaddrA 64 1 (T 9) (T 134)), none⟩,
  ⟨some 136, .r (.load1 (T 135)), none⟩,
  ⟨some 137, .p (.bin .shr (T 136) (C (.int .u64 10))), none⟩,
  ⟨some 138, .p (.bin .xor (T 132) (T 137)), none⟩,
  ⟨some 13, .p (.mov (T 138)), none⟩]
def x_ref01_Sum_22 : List XO := x_ref01_Sum_22l
theorem x_ref01_Sum_22e : E3 x_ref01_Sum_22 x_ref01_Sum_22l := E3.rfl
abbrev x_ref01_Sum_23l : List XO := [
  ⟨some 139, .p (.mov (T 10)), none⟩,
  ⟨some 140, .p (.mov (T 10)), none⟩,
  ⟨some 141, .p (.bin .sub (T 140) (C (.int .i64 16))), none⟩,
  ⟨some 142, .p (.iaddrA 64 1 (T 9) (T 141)), none⟩,
  ⟨some 143, .r (.load1 (T 142)), none⟩,
  ⟨some 144, .p (.mov (T 12)), none⟩,
  ⟨some 145, .p (.bin .add (T 143) (T 144)), none⟩,
  ⟨some 146, .p (.mov (T 10)), none⟩,
  ⟨some 147, .p (.bin .sub (T 146) (C (.int .i64 7))), none⟩,
  ⟨some 148, .p (.iaddrA 64 1 (T 9) (T 147)), none⟩,
  ⟨some 149, .r (.load1 (T 148)), none⟩,
  ⟨some 150, .p (.bin .add (T 145) (T 149)), none⟩,
  ⟨some 151, .p (.mov (T 13)), none⟩,
  ⟨some 152, .p (.bin .add (T 150) (T 151)), none⟩,
  ⟨some 153, .p (.iaddrA 64 1 (T 9) (T 139)), none⟩,
  ⟨none, .e (.store 1 (T 153) (T 152)), none⟩]
def x_ref01_Sum_23 : List XO := x_ref01_Sum_23l
theorem x_ref01_Sum_23e : E3 x_ref01_Sum_23 x_ref01_Sum_23l := E3.rfl
abbrev x_ref01_Sum_24l : List XO := [
  ⟨some 66, .p (.mov (T 10)), none⟩,
  ⟨some 67, .p (.bin .add (T 66) (C (.int .i64 1))), none⟩,
  ⟨some 10, .p (.mov (T 67)), none⟩]
def x_ref01_Sum_24 : List XO := x_ref01_Sum_24l
theorem x_ref01_Sum_24e : E3 x_ref01_Sum_24 x_ref01_Sum_24l := E3.rfl
def x_ref01_Sum_25b : XC :=
  .seq (.seq (.ops x_ref01_Sum_17) (.cond (T 65) (.skip) (.exit 6))) (.seq (.block 7 (.seq (.seq (.ops x_ref01_Sum_18) (.cond (T 69) (.seq (.ops x_ref01_Sum_19) (.seq (.draw x_ref01_Sum_20 []) (.exit 7))) (.skip))) (.seq (.draw x_ref01_Sum_21 [(8, (4, [])), (14, (4, [])), (14, (9, []))]) (.seq (.draw x_ref01_Sum_22 [(8, (4, [])), (14, (4, [])), (14, (9, []))]) (.draw x_ref01_Sum_23 []))))) (.ops x_ref01_Sum_24))
def x_ref01_Sum_25 : XC := x_ref01_Sum_25b
theorem x_ref01_Sum_25k {pr : Prog} {k : List KI} {Q : XE → Fr → Heap → Prop} {t : Fr} {h : Heap} (hw : wpk pr x_ref01_Sum_25b k Q t h) : wpk pr x_ref01_Sum_25 k Q t h := hw
abbrev x_ref01_Sum_26l : List XO := [
  ⟨some 154, .r (.loadN 8 (T 4)), none⟩,
  ⟨some 14, .a (.alloc (List.replicate 8 (.int .u32 0))), none⟩,
  ⟨none, .e (.store 8 (T 14) (T 154)), none⟩]
def x_ref01_Sum_26 : List XO := x_ref01_Sum_26l
theorem x_ref01_Sum_26e : E3 x_ref01_Sum_26 x_ref01_Sum_26l := E3.rfl
abbrev x_ref01_Sum_27l : List XO := [
  ⟨some 15, .p (.mov (C (.int .i64 0))), none⟩]
def x_ref01_Sum_27 : List XO := x_ref01_Sum_27l
theorem x_ref01_Sum_27e : E3 x_ref01_Sum_27 x_ref01_Sum_27l := E3.rfl
abbrev x_ref01_Sum_28l : List XO := [
  ⟨some 155, .p (.mov (T 15)), none⟩,
  ⟨some 156, .p (.bin .lss (T 155) (C (.int .i64 64))), none⟩]
def x_ref01_Sum_28 : List XO := x_ref01_Sum_28l
theorem x_ref01_Sum_28e : E3 x_ref01_Sum_28 x_ref01_Sum_28l := E3.rfl
abbrev x_ref01_Sum_29l : List XO := [
  ⟨some 159, .p (.iaddrA 8 1 (T 14) (C (.int .i64 4))), none⟩,
  ⟨some 160, .r (.load1 (T 159)), none⟩,
  ⟨some 161, .call (.func 62) [(T 160), (C (.int .u64 6))], none⟩,
  ⟨some 162, .p (.iaddrA 8 1 (T 14) (C (.int .i64 4))), none⟩,
  ⟨some 163, .r (.load1 (T 162)), none⟩,
  ⟨some 164, .call (.func 62) [(T 163), (C (.int .u64 11))], none⟩,
  ⟨some 165, .p (.bin .xor (T 161) (T 164)), none⟩,
  ⟨some 166, .p (.iaddrA 8 1 (T 14) (C (.int .i64 4))), none⟩,
  ⟨some 167, .r (.load1 (T 166)), none⟩,
  ⟨some 168, .call (.func 62) [(T 167), (C (.int .u64 25))], none⟩,
  ⟨some 169, .p (.bin .xor (T 165) (T 168)), none⟩,
  ⟨some 16, .p (.mov (T 169)), none⟩]
def x_ref01_Sum_29 : List XO := x_ref01_Sum_29l
theorem x_ref01_Sum_29e : E3 x_ref01_Sum_29 x_ref01_Sum_29l := E3.rfl
abbrev x_ref01_Sum_30l : List XO := [
  ⟨some 170, .p (.iaddrA 8 1 (T 14) (C (.int .i64 7))), none⟩,
  ⟨some 171, .r (.load1 (T 170)), none⟩,
  ⟨some 172, .p (.mov (T 16)), none⟩,
  ⟨some 173, .p (.bin .add (T 171) (T 172)), none⟩,
  ⟨some 174, .p (.iaddrA 8 1 (T 14) (C (.int .i64 4))), none⟩,
  ⟨some 175, .r (.load1 (T 174)), none⟩,
  ⟨some 176, .p (.iaddrA 8 1 (T 14) (C (.int .i64 5))), none⟩,
  ⟨some 177, .r (.load1 (T 176)), none⟩,
  ⟨some 178, .p (.bin .and (T 175) (T 177)), none⟩,
  ⟨some 179, .p (.iaddrA 8 1 (T 14) (C (.int .i64 4))), none⟩,
  ⟨some 180, .r (.load1 (T 179)), none⟩,
  ⟨some 181, .p (.bin .sub (C (.int .u32 4294967295)) (T 180)), none⟩,
  ⟨some 182, .p (.iaddrA 8 1 (T 14) (C (.int .i64 6))), none⟩,
  ⟨some 183, .r (.load1 (T 182)), none⟩,
  ⟨some 184, .p (.bin .and (T 181) (T 183)), none⟩,
  ⟨some 185, .p (.bin .xor (T 178) (T 184)), none⟩,
  ⟨some 186, .p (.bin .add (T 173) (T 185)), none⟩,
  ⟨some 187, .p (.mov (T 15)), none⟩,
  ⟨some 188, .p (.iaddrA 64 1 (T 3) (T 187)), none⟩,
  ⟨some 189, .r (.load1 (T 188)), none⟩,
  ⟨some 190, .p (.bin .add (T 186) (T 189)), none⟩,
  ⟨some 191, .p (.mov (T 15)), none⟩,
  ⟨some 192, .p (.iaddrA 64 1 (T 9) (T 191)), none⟩,
  ⟨some 193, .r (.load1 (T 192)), none⟩,
  ⟨some 194, .p (.bin .add (T 190) (T 193)), none⟩,
  ⟨some 17, .p (.mov (T 194)), none⟩]
def x_ref01_Sum_30 : List XO := x_ref01_Sum_30l
theorem x_ref01_Sum_30e : E3 x_ref01_Sum_30 x_ref01_Sum_30l := E3.rfl
abbrev x_ref01_Sum_31l : List XO := [
  ⟨some 195, .p (.iaddrA 8 1 (T 14) (C (.int .i64 0))), none⟩,
  ⟨some 196, .r (.load1 (T 195)), none⟩,
  ⟨some 197, .call (.func 62) [(T 196), (C (.int .u64 2))], none⟩,
  ⟨some 198, .p (.iaddrA 8 1 (T 14) (C (.int .i64 0))), none⟩,
  ⟨some 199, .r (.load1 (T 198)), none⟩,
  ⟨some 200, .call (.func 62) [(T 199), (C (.int .u64 13))], none⟩,
  ⟨some 201, .p (.bin .xor (T 197) (T 200)), none⟩,
  ⟨some 202, .p (.iaddrA 8 1 (T 14) (C (.int .i64 0))), none⟩,
  ⟨some 203, .r (.load1 (T 202)), none⟩,
  ⟨some 204, .call (.func 62) [(T 203), (C (.int .u64 22))], none⟩,
  ⟨some 205, .p (.bin .xor (T 201) (T 204)), none⟩,
  ⟨some 18, .p (.mov (T 205)), none⟩]
def x_ref01_Sum_31 : List XO := x_ref01_Sum_31l
theorem x_ref01_Sum_31e : E3 x_ref01_Sum_31 x_ref01_Sum_31l := E3.rfl
abbrev x_ref01_Sum_32l : List XO := [
  ⟨some 206, .p (.mov (T 18)), none⟩,
  ⟨some 207, .p (.iaddrA 8 1 (T 14) (C (.int .i64 0))), none⟩,
  ⟨some 208, .r (.load1 (T 207)), none⟩,
  ⟨some 209, .p (.iaddrA 8 1 (T 14) (C (.int .i64 1))), none⟩,
  ⟨some 210, .r (.load1 (T 209)), none⟩,
  ⟨some 211, .p (.bin .and (T 208) (T 210)), none⟩,
  ⟨some 212, .p (.iaddrA 8 1 (T 14) (C (.int .i64 0))), none⟩,
  ⟨some 213, .r (.load1 (T 212)), none⟩,
  ⟨some 214, .p (.iaddrA 8 1 (T 14) (C (.int .i64 2))), none⟩,
  ⟨some 215, .r (.load1 (T 214)), none⟩,
  ⟨some 216, .p (.bin .and (T 213) (T 215)), none⟩,
  ⟨some 217, .p (.bin .xor (T 211) (T 216)), none⟩,
  ⟨some 218, .p (.iaddrA 8 1 (T 14) (C (.int .i64 1))), none⟩,
  ⟨some 219, .r (.load1 (T 218)), none⟩,
  ⟨some 220, .p (.iaddrA 8 1 (T 14) (C (.int .i64 2))), none⟩,
  ⟨some 221, .r (.load1 (T 220)), none⟩,
  ⟨some 222, .p (.bin .and (T 219) (T 221)), none⟩,
  ⟨some 223, .p (.bin .xor (T 217) (T 222)), none⟩,
  ⟨some 224, .p (.bin .add (T 206) (T 223)), none⟩,
  ⟨some 19, .p (.mov (T 224)), none⟩]
def x_ref01_Sum_32 : List XO := x_ref01_Sum_32l
theorem x_ref01_Sum_32e : E3 x_ref01_Sum_32 x_ref01_Sum_32l := E3.rfl
abbrev x_ref01_Sum_33l : List XO := [
  ⟨some 20, .p (.mov (C (.int .i64 7))), none⟩]
def x_ref01_Sum_33 : List XO := x_ref01_Sum_33l
theorem x_ref01_Sum_33e : E3 x_ref01_Sum_33 x_ref01_Sum_33l := E3.rfl
abbrev x_ref01_Sum_34l : List XO := [
  ⟨some 225, .p (.mov (T 20)), none⟩,
  ⟨some 226, .p (.bin .gtr (T 225) (C (.int .i64 0))), none⟩]
def x_ref01_Sum_34 : List XO := x_ref01_Sum_34l
theorem x_ref01_Sum_34e : E3 x_ref01_Sum_34 x_ref01_Sum_34l := E3.rfl
abbrev x_ref01_Sum_35l : List XO := [
  ⟨some 229, .p (.mov (T 20)), none⟩,
  ⟨some 230, .p (.mov (T 20)), none⟩,
  ⟨some 231, .p (.bin .sub (T 230) (C (.int .i64 1))), none⟩,
  ⟨some 232, .p (.iaddrA 8 1 (T 14) (T 231)), none⟩,
  ⟨some 233, .r (.load1 (T 232)), none⟩,
  ⟨some 234, .p (.iaddrA 8 1 (T 14) (T 229)), none⟩,
  ⟨none, .e (.store 1 (T 234) (T 233)), none⟩]
def x_ref01_Sum_35 : List XO := x_ref01_Sum_35l
theorem x_ref01_Sum_35e : E3 x_ref01_Sum_35 x_ref01_Sum_35l := E3.rfl
abbrev x_ref01_Sum_36l : List XO := [
  ⟨some 227, .p (.mov (T 20)), none⟩,
  ⟨some 228, .p (.bin .sub (T 227) (C (.int .i64 1))), none⟩,
  ⟨some 20, .p (.mov (T 228)), none⟩]
def x_ref01_Sum_36 : List XO := x_ref01_Sum_36l
theorem x_ref01_Sum_36e : E3 x_ref01_Sum_36 x_ref01_Sum_36l := E3.rfl
def x_ref01_Sum_37b : XC :=
  .seq (.seq (.ops x_ref01_Sum_34) (.cond (T 226) (.skip) (.exit 10))) (.seq (.block 11 (.ops x_ref01_Sum_35)) (.ops x_ref01_Sum_36))
def x_ref01_Sum_37 : XC := x_ref01_Sum_37b
theorem x_ref01_Sum_37k {pr : Prog} {k : List KI} {Q : XE → Fr → Heap → Prop} {t : Fr} {h : Heap} (hw : wpk pr x_ref01_Sum_37b k Q t h) : wpk pr x_ref01_Sum_37 k Q t h := hw
abbrev x_ref01_Sum_38l : List XO := [
  ⟨some 235, .p (.iaddrA 8 1 (T 14) (C (.int .i64 4))), none⟩,
  ⟨some 236, .r (.load1 (T 235)), none⟩,
  ⟨some 237, .p (.mov (T 17)), none⟩,
  ⟨some 238, .p (.bin .add (T 236) (T 237)), none⟩,
  ⟨some 239, .p (.iaddrA 8 1 (T 14) (C (.int .i64 4))), none⟩,
  ⟨none, .e (.store 1 (T 239) (T 238)), none⟩]
def x_ref01_Sum_38 : List XO := x_ref01_Sum_38l
theorem x_ref01_Sum_38e : E3 x_ref01_Sum_38 x_ref01_Sum_38l := E3.rfl
abbrev x_ref01_Sum_39l : List XO := [
  ⟨some 240, .p (.mov (T 17)), none⟩,
  ⟨some 241, .p (.mov (T 19)), none⟩,
  ⟨some 242, .p (.bin .add (T 240) (T 241)), none⟩,
  ⟨some 243, .p (.iaddrA 8 1 (T 14) (C (.int .i64 0))), none⟩,
  ⟨none, .e (.store 1 (T 243) (T 242)), none⟩]
def x_ref01_Sum_39 : List XO := x_ref01_Sum_39l
theorem x_ref01_Sum_39e : E3 x_ref01_Sum_39 x_ref01_Sum_39l := E3.rfl
abbrev x_ref01_Sum_40l : List XO := [
  ⟨some 157, .p (.mov (T 15)), none⟩,
  ⟨some 158, .p (.bin .add (T 157) (C (.int .i64 1))), none⟩,
  ⟨some 15, .p (.mov (T 158)), none⟩]
def x_ref01_Sum_40 : List XO := x_ref01_Sum_40l
theorem x_ref01_Sum_40e : E3 x_ref01_Sum_40 x_ref01_Sum_40l := E3.rfl
def x_ref01_Sum_41b : XC :=
  .seq (.seq (.ops x_ref01_Sum_28) (.cond (T 156) (.skip) (.exit 8))) (.seq (.block 9 (.seq (.draw x_ref01_Sum_29 [(4, (2, [])), (8, (2, [])), (8, (5, []))]) (.seq (.draw x_ref01_Sum_30 []) (.seq (.draw x_ref01_Sum_31 [(4, (2, [])), (8, (2, [])), (8, (5, []))]) (.seq (.ops x_ref01_Sum_32) (.seq (.seq (.ops x_ref01_Sum_33) (.block 10 (.loop x_ref01_Sum_37))) (.seq (.ops x_ref01_Sum_38) (.ops x_ref01_Sum_39)))))))) (.ops x_ref01_Sum_40))
def x_ref01_Sum_41 : XC := x_ref01_Sum_41b
theorem x_ref01_Sum_41k {pr : Prog} {k : List KI} {Q : XE → Fr → Heap → Prop} {t : Fr} {h : Heap} (hw : wpk pr x_ref01_Sum_41b k Q t h) : wpk pr x_ref01_Sum_41 k Q t h := hw
abbrev x_ref01_Sum_42l : List XO := [
  ⟨some 21, .p (.mov (C (.int .i64 0))), none⟩]
def x_ref01_Sum_42 : List XO := x_ref01_Sum_42l
theorem x_ref01_Sum_42e : E3 x_ref01_Sum_42 x_ref01_Sum_42l := E3.rfl
abbrev x_ref01_Sum_43l : List XO := [
  ⟨some 244, .p (.mov (T 21)), none⟩,
  ⟨some 245, .p (.bin .lss (T 244) (C (.int .i64 8))), none⟩]
def x_ref01_Sum_43 : List XO := x_ref01_Sum_43l
theorem x_ref01_Sum_43e : E3 x_ref01_Sum_43 x_ref01_Sum_43l := E3.rfl
abbrev x_ref01_Sum_44l : List XO := [
  ⟨some 248, .p (.mov (T 21)), none⟩,
  ⟨some 249, .p (.iaddrA 8 1 (T 4) (T 248)), none⟩,
  ⟨some 250, .r (.load1 (T 249)), none⟩,
  ⟨some 251, .p (.mov (T 21)), none⟩,
  ⟨some 252, .p (.iaddrA 8 1 (T 14) (T 251)), none⟩,
  ⟨some 253, .r (.load1 (T 252)), none⟩,
  ⟨some 254, .p (.bin .add (T 250) (T 253)), none⟩,
  ⟨some 255, .p (.iaddrA 8 1 (T 4) (T 248)), none⟩,
  ⟨none, .e (.store 1 (T 255) (T 254)), none⟩]
def x_ref01_Sum_44 : List XO := x_ref01_Sum_44l
theorem x_ref01_Sum_44e : E3 x_ref01_Sum_44 x_ref01_Sum_44l := E3.rfl
abbrev x_ref01_Sum_45l : List XO := [
  ⟨some 246, .p (.mov (T 21)), none⟩,
  ⟨some 247, .p (.bin .add (T 246) (C (.int .i64 1))), none⟩,
  ⟨some 21, .p (.mov (T 247)), none⟩]
def x_ref01_Sum_45 : List XO := x_ref01_Sum_45l
theorem x_ref01_Sum_45e : E3 x_ref01_Sum_45 x_ref01_Sum_45l := E3.rfl
def x_ref01_Sum_46b : XC :=
  .seq (.seq (.ops x_ref01_Sum_43) (.cond (T 245) (.skip) (.exit 12))) (.seq (.block 13 (.draw x_ref01_Sum_44 [])) (.ops x_ref01_Sum_45))
def x_ref01_Sum_46 : XC := x_ref01_Sum_46b
theorem x_ref01_Sum_46k {pr : Prog} {k : List KI} {Q : XE → Fr → Heap → Prop} {t : Fr} {h : Heap} (hw : wpk pr x_ref01_Sum_46b k Q t h) : wpk pr x_ref01_Sum_46 k Q t h := hw
abbrev x_ref01_Sum_47l : List XO := [
  ⟨some 61, .p (.mov (T 8)), none⟩,
  ⟨some 62, .p (.bin .add (T 61) (C (.int .i64 64))), none⟩,
  ⟨some 8, .p (.mov (T 62)), none⟩]
def x_ref01_Sum_47 : List XO := x_ref01_Sum_47l
theorem x_ref01_Sum_47e : E3 x_ref01_Sum_47 x_ref01_Sum_47l := E3.rfl
def x_ref01_Sum_48b : XC :=
  .seq (.seq (.ops x_ref01_Sum_14) (.cond (T 60) (.skip) (.exit 4))) (.seq (.block 5 (.seq (.ops x_ref01_Sum_15) (.seq (.seq (.ops x_ref01_Sum_16) (.block 6 (.loop x_ref01_Sum_25))) (.seq (.ops x_ref01_Sum_26) (.seq (.seq (.ops x_ref01_Sum_27) (.block 8 (.loop x_ref01_Sum_41))) (.seq (.ops x_ref01_Sum_42) (.block 12 (.loop x_ref01_Sum_46)))))))) (.ops x_ref01_Sum_47))
def x_ref01_Sum_48 : XC := x_ref01_Sum_48b
theorem x_ref01_Sum_48k {pr : Prog} {k : List KI} {Q : XE → Fr → Heap → Prop} {t : Fr} {h : Heap} (hw : wpk pr x_ref01_Sum_48b k Q t h) : wpk pr x_ref01_Sum_48 k Q t h := hw
abbrev x_ref01_Sum_49l : List XO := [
  ⟨some 256, .a (.bslice [] 0 []), none⟩,
  ⟨some 22, .p (.mov (T 256)), none⟩]
def x_ref01_Sum_49 : List XO := x_ref01_Sum_49l
theorem x_ref01_Sum_49e : E3 x_ref01_Sum_49 x_ref01_Sum_49l := E3.rfl
abbrev x_ref01_Sum_50l : List XO := [
  ⟨some 23, .p (.mov (C (.int .i64 0))), none⟩]
def x_ref01_Sum_50 : List XO := x_ref01_Sum_50l
theorem x_ref01_Sum_50e : E3 x_ref01_Sum_50 x_ref01_Sum_50l := E3.rfl
abbrev x_ref01_Sum_51l : List XO := [
  ⟨some 257, .p (.mov (T 23)), none⟩,
  ⟨some 258, .p (.bin .lss (T 257) (C (.int .i64 8))), none⟩]
def x_ref01_Sum_51 : List XO := x_ref01_Sum_51l
theorem x_ref01_Sum_51e : E3 x_ref01_Sum_51 x_ref01_Sum_51l := E3.rfl
abbrev x_ref01_Sum_52l : List XO := [
  ⟨some 261, .p (.mov (T 22)), none⟩,
  ⟨some 262, .p (.mov (T 23)), none⟩,
  ⟨some 263, .p (.iaddrA 8 1 (T 4) (T 262)), none⟩,
  ⟨some 264, .r (.load1 (T 263)), none⟩,
  ⟨some 265, .p (.bin .shr (T 264) (C (.int .u64 24))), none⟩,
  ⟨some 266, .p (.cint .u8 (T 265)), none⟩,
  ⟨some 267, .p (.mov (T 23)), none⟩,
  ⟨some 268, .p (.iaddrA 8 1 (T 4) (T 267)), none⟩,
  ⟨some 269, .r (.load1 (T 268)), none⟩,
  ⟨some 270, .p (.bin .shr (T 269) (C (.int .u64 16))), none⟩,
  ⟨some 271, .p (.cint .u8 (T 270)), none⟩,
  ⟨some 272, .p (.mov (T 23)), none⟩,
  ⟨some 273, .p (.iaddrA 8 1 (T 4) (T 272)), none⟩,
  ⟨some 274, .r (.load1 (T 273)), none⟩,
  ⟨some 275, .p (.bin .shr (T 274) (C (.int .u64 8))), none⟩,
  ⟨some 276, .p (.cint .u8 (T 275)), none⟩,
  ⟨some 277, .p (.mov (T 23)), none⟩,
  ⟨some 278, .p (.iaddrA 8 1 (T 4) (T 277)), none⟩,
  ⟨some 279, .r (.load1 (T 278)), none⟩,
  ⟨some 280, .p (.cint .u8 (T 279)), none⟩,
  ⟨some 281, .a (.bslice (List.replicate 4 (.int .u8 0)) 4 [(0, 1, (T 266)), (1, 1, (T 271)), (2, 1, (T 276)), (3, 1, (T 280))]), none⟩,
  ⟨some 282, .e (.append 1 1 (T 261) (T 281)), none⟩,
  ⟨some 22, .p (.mov (T 282)), none⟩]
def x_ref01_Sum_52 : List XO := x_ref01_Sum_52l
theorem x_ref01_Sum_52e : E3 x_ref01_Sum_52 x_ref01_Sum_52l := E3.rfl
abbrev x_ref01_Sum_53l : List XO := [
  ⟨some 259, .p (.mov (T 23)), none⟩,
  ⟨some 260, .p (.bin .add (T 259) (C (.int .i64 1))), none⟩,
  ⟨some 23, .p (.mov (T 260)), none⟩]
def x_ref01_Sum_53 : List XO := x_ref01_Sum_53l
theorem x_ref01_Sum_53e : E3 x_ref01_Sum_53 x_ref01_Sum_53l := E3.rfl
def x_ref01_Sum_54b : XC :=
  .seq (.seq (.ops x_ref01_Sum_51) (.cond (T 258) (.skip) (.exit 14))) (.seq (.block 15 (.draw x_ref01_Sum_52 [(3, (21, [])), (8, (21, [])), (13, (21, [])), (18, (21, []))])) (.ops x_ref01_Sum_53))
def x_ref01_Sum_54 : XC := x_ref01_Sum_54b
theorem x_ref01_Sum_54k {pr : Prog} {k : List KI} {Q : XE → Fr → Heap → Prop} {t : Fr} {h : Heap} (hw : wpk pr x_ref01_Sum_54b k Q t h) : wpk pr x_ref01_Sum_54 k Q t h := hw
abbrev x_ref01_Sum_55l : List XO := [
  ⟨some 283, .p (.mov (T 22)), none⟩,
  ⟨some 284, .r (.cb2s (T 283)), none⟩,
  ⟨some 2, .p (.mov (T 284)), none⟩]
def x_ref01_Sum_55 : List XO := x_ref01_Sum_55l
theorem x_ref01_Sum_55e : E3 x_ref01_Sum_55 x_ref01_Sum_55l := E3.rfl
def x_ref01_Sum : XF := ⟨1, [.tmp 2],
  .seq (.ops x_ref01_Sum_0) (.seq (.ops x_ref01_Sum_1) (.seq (.ops x_ref01_Sum_2) (.seq (.ops x_ref01_Sum_3) (.seq (.block 0 (.loop x_ref01_Sum_6)) (.seq (.ops x_ref01_Sum_7) (.seq (.seq (.ops x_ref01_Sum_8) (.block 2 (.loop x_ref01_Sum_12))) (.seq (.seq (.ops x_ref01_Sum_13) (.block 4 (.loop x_ref01_Sum_48))) (.seq (.ops x_ref01_Sum_49) (.seq (.seq (.ops x_ref01_Sum_50) (.block 14 (.loop x_ref01_Sum_54))) (.seq (.ops x_ref01_Sum_55) (.ret)))))))))))⟩
def y_ref01_Sum := PLift.up (And.intro (And.intro (And.intro (And.intro (And.intro (@x_ref01_Sum_0e) (And.intro (@x_ref01_Sum_1e) (@x_ref01_Sum_2e))) (And.intro (@x_ref01_Sum_3e) (And.intro (@x_ref01_Sum_4e) (@x_ref01_Sum_5e)))) (And.intro (And.intro (@x_ref01_Sum_7e) (And.intro (@x_ref01_Sum_8e) (@x_ref01_Sum_9e))) (And.intro (@x_ref01_Sum_10e) (And.intro (@x_ref01_Sum_11e) (@x_ref01_Sum_13e))))) (And.intro (And.intro (And.intro (@x_ref01_Sum_14e) (And.intro (@x_ref01_Sum_15e) (@x_ref01_Sum_16e))) (And.intro (@x_ref01_Sum_17e) (And.intro (@x_ref01_Sum_18e) (@x_ref01_Sum_19e)))) (And.intro (And.intro (@x_ref01_Sum_20e) (And.intro (@x_ref01_Sum_21e) (@x_ref01_Sum_22e))) (And.intro (@x_ref01_Sum_23e) (And.intro (@x_ref01_Sum_24e) (@x_ref01_Sum_26e)))))) (And.intro (And.intro (And.intro (And.intro (@x_ref01_Sum_27e) (And.intro (@x_ref01_Sum_28e) (@x_ref01_Sum_29e))) (And.intro (@x_ref01_Sum_30e) (And.intro (@x_ref01_Sum_31e) (@x_ref01_Sum_32e)))) (And.intro (And.intro (@x_ref01_Sum_33e) (And.intro (@x_ref01_Sum_34e) (@x_ref01_Sum_35e))) (And.intro (@x_ref01_Sum_36e) (And.intro (@x_ref01_Sum_38e) (@x_ref01_Sum_39e))))) (And.intro (And.intro (And.intro (@x_ref01_Sum_40e) (And.intro (@x_ref01_Sum_42e) (@x_ref01_Sum_43e))) (And.intro (@x_ref01_Sum_44e) (And.intro (@x_ref01_Sum_45e) (@x_ref01_Sum_47e)))) (And.intro (And.intro (@x_ref01_Sum_49e) (And.intro (@x_ref01_Sum_50e) (@x_ref01_Sum_51e))) (And.intro (@x_ref01_Sum_52e) (And.intro (@x_ref01_Sum_53e) (@x_ref01_Sum_55e)))))))
theorem c_ref01_Sum : funcC Try.prog Try.f18 = some x_ref01_Sum := by kernel_rfl
/- muniment/mac.pad -/
abbrev x_mac_pad_0l : List XO := [
  ⟨some 4, .p (.mov (C (.string (strOf [])))), none⟩]
def x_mac_pad_0 : List XO := x_mac_pad_0l
theorem x_mac_pad_0e : E3 x_mac_pad_0 x_mac_pad_0l := E3.rfl
abbrev x_mac_pad_1l : List XO := [
  ⟨some 7, .p (.mov (T 0)), none⟩,
  ⟨some 8, .p (.lenS (T 7)), none⟩,
  ⟨some 9, .p (.bin .gtr (T 8) (C (.int .i64 64))), none⟩]
def x_mac_pad_1 : List XO := x_mac_pad_1l
theorem x_mac_pad_1e : E3 x_mac_pad_1 x_mac_pad_1l := E3.rfl
abbrev x_mac_pad_2l : List XO := [
  ⟨some 10, .p (.mov (T 0)), none⟩,
  ⟨some 11, .call (.func 59) [(T 10)], none⟩,
  ⟨some 0, .p (.mov (T 11)), none⟩]
def x_mac_pad_2 : List XO := x_mac_pad_2l
theorem x_mac_pad_2e : E3 x_mac_pad_2 x_mac_pad_2l := E3.rfl
abbrev x_mac_pad_3l : List XO := [
  ⟨some 12, .p (.mov (T 0)), none⟩,
  ⟨some 13, .p (.mov (T 0)), none⟩,
  ⟨some 14, .p (.lenS (T 13)), none⟩,
  ⟨some 15, .p (.bin .sub (C (.int .i64 64)) (T 14)), none⟩,
  ⟨some 16, .call (.func 88) [(C (.string (strOf [0]))), (T 15)], none⟩,
  ⟨some 17, .p (.bin .add (T 12) (T 16)), none⟩,
  ⟨some 18, .a (.cs2b (T 17)), none⟩,
  ⟨some 5, .p (.mov (T 18)), none⟩]
def x_mac_pad_3 : List XO := x_mac_pad_3l
theorem x_mac_pad_3e : E3 x_mac_pad_3 x_mac_pad_3l := E3.rfl
abbrev x_mac_pad_4l : List XO := [
  ⟨some 19, .p (.mov (T 5)), none⟩,
  ⟨some 20, .p (.lenV (T 19)), none⟩,
  ⟨some 21, .p (.mov (C (.int .i64 0))), none⟩]
def x_mac_pad_4 : List XO := x_mac_pad_4l
theorem x_mac_pad_4e : E3 x_mac_pad_4 x_mac_pad_4l := E3.rfl
abbrev x_mac_pad_5l : List XO := [
  ⟨some 22, .p (.bin .lss (T 21) (T 20)), none⟩]
def x_mac_pad_5 : List XO := x_mac_pad_5l
theorem x_mac_pad_5e : E3 x_mac_pad_5 x_mac_pad_5l := E3.rfl
abbrev x_mac_pad_6l : List XO := [
  ⟨some 23, .p (.mov (T 21)), none⟩,
  ⟨some 6, .p (.mov (T 23)), none⟩]
def x_mac_pad_6 : List XO := x_mac_pad_6l
theorem x_mac_pad_6e : E3 x_mac_pad_6 x_mac_pad_6l := E3.rfl
abbrev x_mac_pad_7l : List XO := [
  ⟨some 24, .p (.mov (T 5)), none⟩,
  ⟨some 25, .p (.mov (T 6)), none⟩,
  ⟨some 26, .p (.iaddrS 1 (T 24) (T 25)), none⟩,
  ⟨some 27, .r (.load1 (T 26)), none⟩,
  ⟨some 28, .p (.mov (T 1)), none⟩,
  ⟨some 29, .p (.bin .xor (T 27) (T 28)), none⟩,
  ⟨some 30, .p (.iaddrS 1 (T 24) (T 25)), none⟩,
  ⟨none, .e (.store 1 (T 30) (T 29)), none⟩]
def x_mac_pad_7 : List XO := x_mac_pad_7l
theorem x_mac_pad_7e : E3 x_mac_pad_7 x_mac_pad_7l := E3.rfl
abbrev x_mac_pad_8l : List XO := [
  ⟨some 31, .p (.bin .add (T 21) (C (.int .i64 1))), none⟩,
  ⟨some 21, .p (.mov (T 31)), none⟩]
def x_mac_pad_8 : List XO := x_mac_pad_8l
theorem x_mac_pad_8e : E3 x_mac_pad_8 x_mac_pad_8l := E3.rfl
def x_mac_pad_9b : XC :=
  .seq (.ops x_mac_pad_5) (.seq (.cond (T 22) (.skip) (.exit 0)) (.seq (.block 1 (.seq (.ops x_mac_pad_6) (.ops x_mac_pad_7))) (.ops x_mac_pad_8)))
def x_mac_pad_9 : XC := x_mac_pad_9b
theorem x_mac_pad_9k {pr : Prog} {k : List KI} {Q : XE → Fr → Heap → Prop} {t : Fr} {h : Heap} (hw : wpk pr x_mac_pad_9b k Q t h) : wpk pr x_mac_pad_9 k Q t h := hw
abbrev x_mac_pad_10l : List XO := [
  ⟨some 32, .p (.mov (T 5)), none⟩,
  ⟨some 33, .r (.cb2s (T 32)), none⟩,
  ⟨some 4, .p (.mov (T 33)), none⟩]
def x_mac_pad_10 : List XO := x_mac_pad_10l
theorem x_mac_pad_10e : E3 x_mac_pad_10 x_mac_pad_10l := E3.rfl
def x_mac_pad : XF := ⟨2, [.tmp 4],
  .seq (.ops x_mac_pad_0) (.seq (.seq (.ops x_mac_pad_1) (.cond (T 9) (.ops x_mac_pad_2) (.skip))) (.seq (.ops x_mac_pad_3) (.seq (.seq (.ops x_mac_pad_4) (.block 0 (.loop x_mac_pad_9))) (.seq (.ops x_mac_pad_10) (.ret)))))⟩
def y_mac_pad := PLift.up (And.intro (And.intro (And.intro (@x_mac_pad_0e) (@x_mac_pad_1e)) (And.intro (@x_mac_pad_2e) (And.intro (@x_mac_pad_3e) (@x_mac_pad_4e)))) (And.intro (And.intro (@x_mac_pad_5e) (@x_mac_pad_6e)) (And.intro (@x_mac_pad_7e) (And.intro (@x_mac_pad_8e) (@x_mac_pad_10e)))))
theorem c_mac_pad : funcC Try.prog Try.f60 = some x_mac_pad := by kernel_rfl
/- muniment/mac.Tag -/
abbrev x_mac_Tag_0l : List XO := [
  ⟨some 4, .p (.mov (C (.string (strOf [])))), none⟩]
def x_mac_Tag_0 : List XO := x_mac_Tag_0l
theorem x_mac_Tag_0e : E3 x_mac_Tag_0 x_mac_Tag_0l := E3.rfl
abbrev x_mac_Tag_1l : List XO := [
  ⟨some 5, .p (.mov (T 0)), none⟩,
  ⟨some 6, .call (.func 60) [(T 5), (C (.int .u8 92))], none⟩,
  ⟨some 7, .p (.mov (T 0)), none⟩,
  ⟨some 8, .call (.func 60) [(T 7), (C (.int .u8 54))], none⟩,
  ⟨some 9, .p (.mov (T 1)), none⟩,
  ⟨some 10, .p (.bin .add (T 8) (T 9)), none⟩,
  ⟨some 11, .call (.func 59) [(T 10)], none⟩,
  ⟨some 12, .p (.bin .add (T 6) (T 11)), none⟩,
  ⟨some 13, .call (.func 59) [(T 12)], none⟩,
  ⟨some 4, .p (.mov (T 13)), none⟩]
def x_mac_Tag_1 : List XO := x_mac_Tag_1l
theorem x_mac_Tag_1e : E3 x_mac_Tag_1 x_mac_Tag_1l := E3.rfl
def x_mac_Tag : XF := ⟨2, [.tmp 4],
  .seq (.ops x_mac_Tag_0) (.seq (.ops x_mac_Tag_1) (.ret))⟩
def y_mac_Tag := PLift.up (And.intro (@x_mac_Tag_0e) (@x_mac_Tag_1e))
theorem c_mac_Tag : funcC Try.prog Try.f17 = some x_mac_Tag := by kernel_rfl
/- muniment/munimentref01.Tag -/
abbrev x_ref01_Tag_0l : List XO := [
  ⟨some 4, .p (.mov (C (.string (strOf [])))), none⟩]
def x_ref01_Tag_0 : List XO := x_ref01_Tag_0l
theorem x_ref01_Tag_0e : E3 x_ref01_Tag_0 x_ref01_Tag_0l := E3.rfl
abbrev x_ref01_Tag_1l : List XO := [
  ⟨some 9, .p (.mov (T 0)), none⟩,
  ⟨some 10, .p (.lenS (T 9)), none⟩,
  ⟨some 11, .p (.bin .gtr (T 10) (C (.int .i64 64))), none⟩]
def x_ref01_Tag_1 : List XO := x_ref01_Tag_1l
theorem x_ref01_Tag_1e : E3 x_ref01_Tag_1 x_ref01_Tag_1l := E3.rfl
abbrev x_ref01_Tag_2l : List XO := [
  ⟨some 12, .p (.mov (T 0)), none⟩,
  ⟨some 13, .call (.func 18) [(T 12)], none⟩,
  ⟨some 0, .p (.mov (T 13)), none⟩]
def x_ref01_Tag_2 : List XO := x_ref01_Tag_2l
theorem x_ref01_Tag_2e : E3 x_ref01_Tag_2 x_ref01_Tag_2l := E3.rfl
abbrev x_ref01_Tag_3l : List XO := [
  ⟨some 14, .a (.bslice [] 0 []), none⟩,
  ⟨some 15, .a (.bslice [] 0 []), none⟩,
  ⟨some 5, .p (.mov (T 14)), none⟩,
  ⟨some 6, .p (.mov (T 15)), none⟩]
def x_ref01_Tag_3 : List XO := x_ref01_Tag_3l
theorem x_ref01_Tag_3e : E3 x_ref01_Tag_3 x_ref01_Tag_3l := E3.rfl
abbrev x_ref01_Tag_4l : List XO := [
  ⟨some 7, .p (.mov (C (.int .i64 0))), none⟩]
def x_ref01_Tag_4 : List XO := x_ref01_Tag_4l
theorem x_ref01_Tag_4e : E3 x_ref01_Tag_4 x_ref01_Tag_4l := E3.rfl
abbrev x_ref01_Tag_5l : List XO := [
  ⟨some 16, .p (.mov (T 7)), none⟩,
  ⟨some 17, .p (.bin .lss (T 16) (C (.int .i64 64))), none⟩]
def x_ref01_Tag_5 : List XO := x_ref01_Tag_5l
theorem x_ref01_Tag_5e : E3 x_ref01_Tag_5 x_ref01_Tag_5l := E3.rfl
abbrev x_ref01_Tag_6l : List XO := [
  ⟨some 8, .p (.mov (C (.int .u8 0))), none⟩]
def x_ref01_Tag_6 : List XO := x_ref01_Tag_6l
theorem x_ref01_Tag_6e : E3 x_ref01_Tag_6 x_ref01_Tag_6l := E3.rfl
abbrev x_ref01_Tag_7l : List XO := [
  ⟨some 20, .p (.mov (T 7)), none⟩,
  ⟨some 21, .p (.mov (T 0)), none⟩,
  ⟨some 22, .p (.lenS (T 21)), none⟩,
  ⟨some 23, .p (.bin .lss (T 20) (T 22)), none⟩]
def x_ref01_Tag_7 : List XO := x_ref01_Tag_7l
theorem x_ref01_Tag_7e : E3 x_ref01_Tag_7 x_ref01_Tag_7l := E3.rfl
abbrev x_ref01_Tag_8l : List XO := [
  ⟨some 24, .p (.mov (T 0)), none⟩,
  ⟨some 25, .p (.mov (T 7)), none⟩,
  ⟨some 26, .p (.idxS (T 24) (T 25)), none⟩,
  ⟨some 8, .p (.mov (T 26)), none⟩]
def x_ref01_Tag_8 : List XO := x_ref01_Tag_8l
theorem x_ref01_Tag_8e : E3 x_ref01_Tag_8 x_ref01_Tag_8l := E3.rfl
abbrev x_ref01_Tag_9l : List XO := [
  ⟨some 27, .p (.mov (T 5)), none⟩,
  ⟨some 28, .p (.mov (T 8)), none⟩,
  ⟨some 29, .p (.bin .xor (T 28) (C (.int .u8 54))), none⟩,
  ⟨some 30, .a (.bslice [(.int .u8 0)] 1 [(0, 1, (T 29))]), none⟩,
  ⟨some 31, .e (.append 1 1 (T 27) (T 30)), none⟩,
  ⟨some 32, .p (.mov (T 6)), none⟩,
  ⟨some 33, .p (.mov (T 8)), none⟩,
  ⟨some 34, .p (.bin .xor (T 33) (C (.int .u8 92))), none⟩,
  ⟨some 35, .a (.bslice [(.int .u8 0)] 1 [(0, 1, (T 34))]), none⟩,
  ⟨some 36, .e (.append 1 1 (T 32) (T 35)), none⟩,
  ⟨some 5, .p (.mov (T 31)), none⟩,
  ⟨some 6, .p (.mov (T 36)), none⟩]
def x_ref01_Tag_9 : List XO := x_ref01_Tag_9l
theorem x_ref01_Tag_9e : E3 x_ref01_Tag_9 x_ref01_Tag_9l := E3.rfl
abbrev x_ref01_Tag_10l : List XO := [
  ⟨some 18, .p (.mov (T 7)), none⟩,
  ⟨some 19, .p (.bin .add (T 18) (C (.int .i64 1))), none⟩,
  ⟨some 7, .p (.mov (T 19)), none⟩]
def x_ref01_Tag_10 : List XO := x_ref01_Tag_10l
theorem x_ref01_Tag_10e : E3 x_ref01_Tag_10 x_ref01_Tag_10l := E3.rfl
def x_ref01_Tag_11b : XC :=
  .seq (.seq (.ops x_ref01_Tag_5) (.cond (T 17) (.skip) (.exit 0))) (.seq (.block 1 (.seq (.ops x_ref01_Tag_6) (.seq (.seq (.ops x_ref01_Tag_7) (.cond (T 23) (.ops x_ref01_Tag_8) (.skip))) (.ops x_ref01_Tag_9)))) (.ops x_ref01_Tag_10))
def x_ref01_Tag_11 : XC := x_ref01_Tag_11b
theorem x_ref01_Tag_11k {pr : Prog} {k : List KI} {Q : XE → Fr → Heap → Prop} {t : Fr} {h : Heap} (hw : wpk pr x_ref01_Tag_11b k Q t h) : wpk pr x_ref01_Tag_11 k Q t h := hw
abbrev x_ref01_Tag_12l : List XO := [
  ⟨some 37, .p (.mov (T 6)), none⟩,
  ⟨some 38, .r (.cb2s (T 37)), none⟩,
  ⟨some 39, .p (.mov (T 5)), none⟩,
  ⟨some 40, .r (.cb2s (T 39)), none⟩,
  ⟨some 41, .p (.mov (T 1)), none⟩,
  ⟨some 42, .p (.bin .add (T 40) (T 41)), none⟩,
  ⟨some 43, .call (.func 18) [(T 42)], none⟩,
  ⟨some 44, .p (.bin .add (T 38) (T 43)), none⟩,
  ⟨some 45, .call (.func 18) [(T 44)], none⟩,
  ⟨some 4, .p (.mov (T 45)), none⟩]
def x_ref01_Tag_12 : List XO := x_ref01_Tag_12l
theorem x_ref01_Tag_12e : E3 x_ref01_Tag_12 x_ref01_Tag_12l := E3.rfl
def x_ref01_Tag : XF := ⟨2, [.tmp 4],
  .seq (.ops x_ref01_Tag_0) (.seq (.seq (.ops x_ref01_Tag_1) (.cond (T 11) (.ops x_ref01_Tag_2) (.skip))) (.seq (.ops x_ref01_Tag_3) (.seq (.seq (.ops x_ref01_Tag_4) (.block 0 (.loop x_ref01_Tag_11))) (.seq (.draw x_ref01_Tag_12 [(1, (8, []))]) (.ret)))))⟩
def y_ref01_Tag := PLift.up (And.intro (And.intro (And.intro (@x_ref01_Tag_0e) (And.intro (@x_ref01_Tag_1e) (@x_ref01_Tag_2e))) (And.intro (@x_ref01_Tag_3e) (And.intro (@x_ref01_Tag_4e) (@x_ref01_Tag_5e)))) (And.intro (And.intro (@x_ref01_Tag_6e) (And.intro (@x_ref01_Tag_7e) (@x_ref01_Tag_8e))) (And.intro (@x_ref01_Tag_9e) (And.intro (@x_ref01_Tag_10e) (@x_ref01_Tag_12e)))))
theorem c_ref01_Tag : funcC Try.prog Try.f19 = some x_ref01_Tag := by kernel_rfl
/- muniment/mac.Check -/
abbrev x_mac_Check_0l : List XO := [
  ⟨some 6, .p (.mov (C (.bool false))), none⟩]
def x_mac_Check_0 : List XO := x_mac_Check_0l
theorem x_mac_Check_0e : E3 x_mac_Check_0 x_mac_Check_0l := E3.rfl
abbrev x_mac_Check_1l : List XO := [
  ⟨some 7, .p (.mov (T 0)), none⟩,
  ⟨some 8, .p (.mov (T 1)), none⟩,
  ⟨some 9, .call (.func 17) [(T 7), (T 8)], none⟩,
  ⟨some 10, .p (.mov (T 2)), none⟩,
  ⟨some 11, .call (.func 63) [(T 9), (T 10)], none⟩,
  ⟨some 6, .p (.mov (T 11)), none⟩]
def x_mac_Check_1 : List XO := x_mac_Check_1l
theorem x_mac_Check_1e : E3 x_mac_Check_1 x_mac_Check_1l := E3.rfl
def x_mac_Check : XF := ⟨3, [.tmp 6],
  .seq (.ops x_mac_Check_0) (.seq (.ops x_mac_Check_1) (.ret))⟩
def y_mac_Check := PLift.up (And.intro (@x_mac_Check_0e) (@x_mac_Check_1e))
theorem c_mac_Check : funcC Try.prog Try.f20 = some x_mac_Check := by kernel_rfl
/- muniment/sha.Same -/
abbrev x_sha_Same_0l : List XO := [
  ⟨some 4, .p (.mov (C (.bool false))), none⟩]
def x_sha_Same_0 : List XO := x_sha_Same_0l
theorem x_sha_Same_0e : E3 x_sha_Same_0 x_sha_Same_0l := E3.rfl
abbrev x_sha_Same_1l : List XO := [
  ⟨some 7, .p (.mov (T 0)), none⟩,
  ⟨some 8, .p (.lenS (T 7)), none⟩,
  ⟨some 9, .p (.mov (T 1)), none⟩,
  ⟨some 10, .p (.lenS (T 9)), none⟩,
  ⟨some 11, .p (.eql true .int (T 8) (T 10)), none⟩]
def x_sha_Same_1 : List XO := x_sha_Same_1l
theorem x_sha_Same_1e : E3 x_sha_Same_1 x_sha_Same_1l := E3.rfl
abbrev x_sha_Same_2l : List XO := [
  ⟨some 4, .p (.mov (C (.bool false))), none⟩]
def x_sha_Same_2 : List XO := x_sha_Same_2l
theorem x_sha_Same_2e : E3 x_sha_Same_2 x_sha_Same_2l := E3.rfl
abbrev x_sha_Same_3l : List XO := [
  ⟨some 5, .p (.mov (C (.int .u8 0))), none⟩]
def x_sha_Same_3 : List XO := x_sha_Same_3l
theorem x_sha_Same_3e : E3 x_sha_Same_3 x_sha_Same_3l := E3.rfl
abbrev x_sha_Same_4l : List XO := [
  ⟨some 12, .p (.mov (T 0)), none⟩,
  ⟨some 13, .p (.lenS (T 12)), none⟩,
  ⟨some 14, .p (.mov (C (.int .i64 0))), none⟩]
def x_sha_Same_4 : List XO := x_sha_Same_4l
theorem x_sha_Same_4e : E3 x_sha_Same_4 x_sha_Same_4l := E3.rfl
abbrev x_sha_Same_5l : List XO := [
  ⟨some 15, .p (.bin .lss (T 14) (T 13)), none⟩]
def x_sha_Same_5 : List XO := x_sha_Same_5l
theorem x_sha_Same_5e : E3 x_sha_Same_5 x_sha_Same_5l := E3.rfl
abbrev x_sha_Same_6l : List XO := [
  ⟨some 16, .p (.mov (T 14)), none⟩,
  ⟨some 6, .p (.mov (T 16)), none⟩]
def x_sha_Same_6 : List XO := x_sha_Same_6l
theorem x_sha_Same_6e : E3 x_sha_Same_6 x_sha_Same_6l := E3.rfl
abbrev x_sha_Same_7l : List XO := [
  ⟨some 17, .p (.mov (T 5)), none⟩,
  ⟨some 18, .p (.mov (T 0)), none⟩,
  ⟨some 19, .p (.mov (T 6)), none⟩,
  ⟨some 20, .p (.idxS (T 18) (T 19)), none⟩,
  ⟨some 21, .p (.mov (T 1)), none⟩,
  ⟨some 22, .p (.mov (T 6)), none⟩,
  ⟨some 23, .p (.idxS (T 21) (T 22)), none⟩,
  ⟨some 24, .p (.bin .xor (T 20) (T 23)), none⟩,
  ⟨some 25, .p (.bin .or (T 17) (T 24)), none⟩,
  ⟨some 5, .p (.mov (T 25)), none⟩]
def x_sha_Same_7 : List XO := x_sha_Same_7l
theorem x_sha_Same_7e : E3 x_sha_Same_7 x_sha_Same_7l := E3.rfl
abbrev x_sha_Same_8l : List XO := [
  ⟨some 26, .p (.bin .add (T 14) (C (.int .i64 1))), none⟩,
  ⟨some 14, .p (.mov (T 26)), none⟩]
def x_sha_Same_8 : List XO := x_sha_Same_8l
theorem x_sha_Same_8e : E3 x_sha_Same_8 x_sha_Same_8l := E3.rfl
def x_sha_Same_9b : XC :=
  .seq (.ops x_sha_Same_5) (.seq (.cond (T 15) (.skip) (.exit 0)) (.seq (.block 1 (.seq (.ops x_sha_Same_6) (.draw x_sha_Same_7 []))) (.ops x_sha_Same_8)))
def x_sha_Same_9 : XC := x_sha_Same_9b
theorem x_sha_Same_9k {pr : Prog} {k : List KI} {Q : XE → Fr → Heap → Prop} {t : Fr} {h : Heap} (hw : wpk pr x_sha_Same_9b k Q t h) : wpk pr x_sha_Same_9 k Q t h := hw
abbrev x_sha_Same_10l : List XO := [
  ⟨some 27, .p (.mov (T 5)), none⟩,
  ⟨some 28, .p (.eql false .int (T 27) (C (.int .u8 0))), none⟩,
  ⟨some 4, .p (.mov (T 28)), none⟩]
def x_sha_Same_10 : List XO := x_sha_Same_10l
theorem x_sha_Same_10e : E3 x_sha_Same_10 x_sha_Same_10l := E3.rfl
def x_sha_Same : XF := ⟨2, [.tmp 4],
  .seq (.ops x_sha_Same_0) (.seq (.seq (.ops x_sha_Same_1) (.cond (T 11) (.seq (.ops x_sha_Same_2) (.ret)) (.skip))) (.seq (.ops x_sha_Same_3) (.seq (.seq (.ops x_sha_Same_4) (.block 0 (.loop x_sha_Same_9))) (.seq (.ops x_sha_Same_10) (.ret)))))⟩
def y_sha_Same := PLift.up (And.intro (And.intro (And.intro (@x_sha_Same_0e) (@x_sha_Same_1e)) (And.intro (@x_sha_Same_2e) (And.intro (@x_sha_Same_3e) (@x_sha_Same_4e)))) (And.intro (And.intro (@x_sha_Same_5e) (@x_sha_Same_6e)) (And.intro (@x_sha_Same_7e) (And.intro (@x_sha_Same_8e) (@x_sha_Same_10e)))))
theorem c_sha_Same : funcC Try.prog Try.f63 = some x_sha_Same := by kernel_rfl
end Go.X
end

section
/-
  The functions of the seat as the interpreter has them: made by a program out of the loaded program itself; each is held against it by the kernel.
-/
namespace Go.X
open Go.Proofs
/- (*muniment/mac.Ring).Key -/
abbrev x_mac_Ring_Key_0l : List XO := [
  ⟨some 4, .p (.mov (C (.string (strOf [])))), none⟩,
  ⟨some 5, .p (.mov (C (.bool false))), none⟩]
def x_mac_Ring_Key_0 : List XO := x_mac_Ring_Key_0l
theorem x_mac_Ring_Key_0e : E3 x_mac_Ring_Key_0 x_mac_Ring_Key_0l := E3.rfl
abbrev x_mac_Ring_Key_1l : List XO := [
  ⟨some 6, .p (.mov (T 0)), none⟩,
  ⟨some 7, .p (.eql false .nptr (T 6) (C (.pointer none))), none⟩,
  ⟨some 8, .p (.mov (T 7)), none⟩,
  ⟨some 9, .p (.mov (T 1)), some (8, false)⟩,
  ⟨some 10, .p (.bin .lss (T 9) (C (.int .i64 0))), some (8, false)⟩,
  ⟨some 11, .p (.pick (T 8) (C (.bool true)) (T 10)), none⟩,
  ⟨some 12, .p (.mov (T 11)), none⟩,
  ⟨some 13, .p (.mov (T 1)), some (12, false)⟩,
  ⟨some 14, .p (.mov (T 0)), some (12, false)⟩,
  ⟨some 15, .p (.nilc (T 14)), some (12, false)⟩,
  ⟨some 16, .p (.faddr 0 (T 15)), some (12, false)⟩,
  ⟨some 17, .r (.load1 (T 16)), some (12, false)⟩,
  ⟨some 18, .p (.lenV (T 17)), some (12, false)⟩,
  ⟨some 19, .p (.bin .geq (T 13) (T 18)), some (12, false)⟩,
  ⟨some 20, .p (.pick (T 12) (C (.bool true)) (T 19)), none⟩]
def x_mac_Ring_Key_1 : List XO := x_mac_Ring_Key_1l
theorem x_mac_Ring_Key_1e : E3 x_mac_Ring_Key_1 x_mac_Ring_Key_1l := E3.rfl
abbrev x_mac_Ring_Key_2l : List XO := [
  ⟨some 4, .p (.mov (C (.string (strOf [])))), none⟩,
  ⟨some 5, .p (.mov (C (.bool false))), none⟩]
def x_mac_Ring_Key_2 : List XO := x_mac_Ring_Key_2l
theorem x_mac_Ring_Key_2e : E3 x_mac_Ring_Key_2 x_mac_Ring_Key_2l := E3.rfl
abbrev x_mac_Ring_Key_3l : List XO := [
  ⟨some 21, .p (.mov (T 0)), none⟩,
  ⟨some 22, .p (.nilc (T 21)), none⟩,
  ⟨some 23, .p (.faddr 0 (T 22)), none⟩,
  ⟨some 24, .r (.load1 (T 23)), none⟩,
  ⟨some 25, .p (.mov (T 1)), none⟩,
  ⟨some 26, .p (.iaddrS 1 (T 24) (T 25)), none⟩,
  ⟨some 27, .r (.load1 (T 26)), none⟩,
  ⟨some 4, .p (.mov (T 27)), none⟩,
  ⟨some 5, .p (.mov (C (.bool true))), none⟩]
def x_mac_Ring_Key_3 : List XO := x_mac_Ring_Key_3l
theorem x_mac_Ring_Key_3e : E3 x_mac_Ring_Key_3 x_mac_Ring_Key_3l := E3.rfl
def x_mac_Ring_Key : XF := ⟨2, [.tmp 4, .tmp 5],
  .seq (.ops x_mac_Ring_Key_0) (.seq (.seq (.ops x_mac_Ring_Key_1) (.cond (T 20) (.seq (.ops x_mac_Ring_Key_2) (.ret)) (.skip))) (.seq (.ops x_mac_Ring_Key_3) (.ret)))⟩
def y_mac_Ring_Key := PLift.up (And.intro (And.intro (@x_mac_Ring_Key_0e) (@x_mac_Ring_Key_1e)) (And.intro (@x_mac_Ring_Key_2e) (@x_mac_Ring_Key_3e)))
theorem c_mac_Ring_Key : funcC Try.prog Try.f23 = some x_mac_Ring_Key := by kernel_rfl
/- (*muniment/mac.Ring).Tag -/
abbrev x_mac_Ring_Tag_0l : List XO := [
  ⟨some 6, .p (.mov (C (.string (strOf [])))), none⟩,
  ⟨some 7, .p (.mov (C (.int .i64 0))), none⟩]
def x_mac_Ring_Tag_0 : List XO := x_mac_Ring_Tag_0l
theorem x_mac_Ring_Tag_0e : E3 x_mac_Ring_Tag_0 x_mac_Ring_Tag_0l := E3.rfl
abbrev x_mac_Ring_Tag_1l : List XO := [
  ⟨some 11, .p (.mov (T 0)), none⟩,
  ⟨some 12, .p (.mov (T 1)), none⟩,
  ⟨some 13, .call (.func 23) [(T 11), (T 12)], none⟩,
  ⟨some 10, .p (.mov (T 13)), none⟩,
  ⟨some 14, .p (.ext (T 10) 0), none⟩,
  ⟨some 15, .p (.ext (T 10) 1), none⟩,
  ⟨some 8, .p (.mov (T 14)), none⟩,
  ⟨some 9, .p (.mov (T 15)), none⟩]
def x_mac_Ring_Tag_1 : List XO := x_mac_Ring_Tag_1l
theorem x_mac_Ring_Tag_1e : E3 x_mac_Ring_Tag_1 x_mac_Ring_Tag_1l := E3.rfl
abbrev x_mac_Ring_Tag_2l : List XO := [
  ⟨some 16, .p (.mov (T 9)), none⟩,
  ⟨some 17, .p (.un .not (T 16)), none⟩]
def x_mac_Ring_Tag_2 : List XO := x_mac_Ring_Tag_2l
theorem x_mac_Ring_Tag_2e : E3 x_mac_Ring_Tag_2 x_mac_Ring_Tag_2l := E3.rfl
abbrev x_mac_Ring_Tag_3l : List XO := [
  ⟨some 6, .p (.mov (C (.string (strOf [])))), none⟩,
  ⟨some 7, .p (.mov (C (.int .i64 2))), none⟩]
def x_mac_Ring_Tag_3 : List XO := x_mac_Ring_Tag_3l
theorem x_mac_Ring_Tag_3e : E3 x_mac_Ring_Tag_3 x_mac_Ring_Tag_3l := E3.rfl
abbrev x_mac_Ring_Tag_4l : List XO := [
  ⟨some 18, .p (.mov (T 8)), none⟩,
  ⟨some 19, .p (.mov (T 2)), none⟩,
  ⟨some 20, .call (.func 17) [(T 18), (T 19)], none⟩,
  ⟨some 6, .p (.mov (T 20)), none⟩,
  ⟨some 7, .p (.mov (C (.int .i64 0))), none⟩]
def x_mac_Ring_Tag_4 : List XO := x_mac_Ring_Tag_4l
theorem x_mac_Ring_Tag_4e : E3 x_mac_Ring_Tag_4 x_mac_Ring_Tag_4l := E3.rfl
def x_mac_Ring_Tag : XF := ⟨3, [.tmp 6, .tmp 7],
  .seq (.ops x_mac_Ring_Tag_0) (.seq (.ops x_mac_Ring_Tag_1) (.seq (.seq (.ops x_mac_Ring_Tag_2) (.cond (T 17) (.seq (.ops x_mac_Ring_Tag_3) (.ret)) (.skip))) (.seq (.ops x_mac_Ring_Tag_4) (.ret))))⟩
def y_mac_Ring_Tag := PLift.up (And.intro (And.intro (@x_mac_Ring_Tag_0e) (@x_mac_Ring_Tag_1e)) (And.intro (@x_mac_Ring_Tag_2e) (And.intro (@x_mac_Ring_Tag_3e) (@x_mac_Ring_Tag_4e))))
theorem c_mac_Ring_Tag : funcC Try.prog Try.f24 = some x_mac_Ring_Tag := by kernel_rfl
/- (*muniment/mac.Ring).Len -/
abbrev x_mac_Ring_Len_0l : List XO := [
  ⟨some 2, .p (.mov (C (.int .i64 0))), none⟩]
def x_mac_Ring_Len_0 : List XO := x_mac_Ring_Len_0l
theorem x_mac_Ring_Len_0e : E3 x_mac_Ring_Len_0 x_mac_Ring_Len_0l := E3.rfl
abbrev x_mac_Ring_Len_1l : List XO := [
  ⟨some 3, .p (.mov (T 0)), none⟩,
  ⟨some 4, .p (.eql false .nptr (T 3) (C (.pointer none))), none⟩]
def x_mac_Ring_Len_1 : List XO := x_mac_Ring_Len_1l
theorem x_mac_Ring_Len_1e : E3 x_mac_Ring_Len_1 x_mac_Ring_Len_1l := E3.rfl
abbrev x_mac_Ring_Len_2l : List XO := [
  ⟨some 2, .p (.mov (C (.int .i64 0))), none⟩]
def x_mac_Ring_Len_2 : List XO := x_mac_Ring_Len_2l
theorem x_mac_Ring_Len_2e : E3 x_mac_Ring_Len_2 x_mac_Ring_Len_2l := E3.rfl
abbrev x_mac_Ring_Len_3l : List XO := [
  ⟨some 5, .p (.mov (T 0)), none⟩,
  ⟨some 6, .p (.nilc (T 5)), none⟩,
  ⟨some 7, .p (.faddr 0 (T 6)), none⟩,
  ⟨some 8, .r (.load1 (T 7)), none⟩,
  ⟨some 9, .p (.lenV (T 8)), none⟩,
  ⟨some 2, .p (.mov (T 9)), none⟩]
def x_mac_Ring_Len_3 : List XO := x_mac_Ring_Len_3l
theorem x_mac_Ring_Len_3e : E3 x_mac_Ring_Len_3 x_mac_Ring_Len_3l := E3.rfl
def x_mac_Ring_Len : XF := ⟨1, [.tmp 2],
  .seq (.ops x_mac_Ring_Len_0) (.seq (.seq (.ops x_mac_Ring_Len_1) (.cond (T 4) (.seq (.ops x_mac_Ring_Len_2) (.ret)) (.skip))) (.seq (.ops x_mac_Ring_Len_3) (.ret)))⟩
def y_mac_Ring_Len := PLift.up (And.intro (And.intro (@x_mac_Ring_Len_0e) (@x_mac_Ring_Len_1e)) (And.intro (@x_mac_Ring_Len_2e) (@x_mac_Ring_Len_3e)))
theorem c_mac_Ring_Len : funcC Try.prog Try.f25 = some x_mac_Ring_Len := by kernel_rfl
/- (*muniment/mac.Ring).Check -/
abbrev x_mac_Ring_Check_0l : List XO := [
  ⟨some 8, .p (.mov (C (.bool false))), none⟩]
def x_mac_Ring_Check_0 : List XO := x_mac_Ring_Check_0l
theorem x_mac_Ring_Check_0e : E3 x_mac_Ring_Check_0 x_mac_Ring_Check_0l := E3.rfl
abbrev x_mac_Ring_Check_1l : List XO := [
  ⟨some 12, .p (.mov (T 0)), none⟩,
  ⟨some 13, .p (.mov (T 1)), none⟩,
  ⟨some 14, .call (.func 23) [(T 12), (T 13)], none⟩,
  ⟨some 11, .p (.mov (T 14)), none⟩,
  ⟨some 15, .p (.ext (T 11) 0), none⟩,
  ⟨some 16, .p (.ext (T 11) 1), none⟩,
  ⟨some 9, .p (.mov (T 15)), none⟩,
  ⟨some 10, .p (.mov (T 16)), none⟩]
def x_mac_Ring_Check_1 : List XO := x_mac_Ring_Check_1l
theorem x_mac_Ring_Check_1e : E3 x_mac_Ring_Check_1 x_mac_Ring_Check_1l := E3.rfl
abbrev x_mac_Ring_Check_2l : List XO := [
  ⟨some 17, .p (.mov (T 10)), none⟩,
  ⟨some 18, .p (.mov (T 17)), none⟩,
  ⟨some 19, .p (.mov (T 9)), some (18, true)⟩,
  ⟨some 20, .p (.mov (T 2)), some (18, true)⟩,
  ⟨some 21, .p (.mov (T 3)), some (18, true)⟩,
  ⟨some 22, .call (.func 20) [(T 19), (T 20), (T 21)], some (18, true)⟩,
  ⟨some 23, .p (.pick (T 18) (T 22) (C (.bool false))), none⟩,
  ⟨some 8, .p (.mov (T 23)), none⟩]
def x_mac_Ring_Check_2 : List XO := x_mac_Ring_Check_2l
theorem x_mac_Ring_Check_2e : E3 x_mac_Ring_Check_2 x_mac_Ring_Check_2l := E3.rfl
def x_mac_Ring_Check : XF := ⟨4, [.tmp 8],
  .seq (.ops x_mac_Ring_Check_0) (.seq (.ops x_mac_Ring_Check_1) (.seq (.ops x_mac_Ring_Check_2) (.ret)))⟩
def y_mac_Ring_Check := PLift.up (And.intro (@x_mac_Ring_Check_0e) (And.intro (@x_mac_Ring_Check_1e) (@x_mac_Ring_Check_2e)))
theorem c_mac_Ring_Check : funcC Try.prog Try.f26 = some x_mac_Ring_Check := by kernel_rfl
end Go.X
end
