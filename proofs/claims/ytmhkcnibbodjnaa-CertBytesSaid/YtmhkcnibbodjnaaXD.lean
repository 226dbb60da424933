/- The digest in plain words; the functions of the seat as the interpreter has them, each held against the loaded program. -/
import Derived.Test.YtmhkcnibbodjnaaProg
import Derived.KernelRfl
import Derived.Test.YtmhkcnibbodjnaaXC
set_option linter.unusedSimpArgs false
set_option linter.unusedVariables false
set_option maxHeartbeats 2000000
section
namespace Go.X.Sha
def rotr (x n : Nat) : Nat := Nat.lor ((x % 4294967296) >>> n) ((x <<< (32 - n)) % 4294967296)
def s0 (x : Nat) : Nat := Nat.xor (Nat.xor (rotr x 7) (rotr x 18)) ((x % 4294967296) >>> 3)
def s1 (x : Nat) : Nat := Nat.xor (Nat.xor (rotr x 17) (rotr x 19)) ((x % 4294967296) >>> 10)
def e0 (x : Nat) : Nat := Nat.xor (Nat.xor (rotr x 2) (rotr x 13)) (rotr x 22)
def e1 (x : Nat) : Nat := Nat.xor (Nat.xor (rotr x 6) (rotr x 11)) (rotr x 25)
def ch (e f g : Nat) : Nat := Nat.xor (Nat.land e f) (Nat.land (4294967295 - e % 4294967296) g)
def maj (a b c : Nat) : Nat := Nat.xor (Nat.xor (Nat.land a b) (Nat.land a c)) (Nat.land b c)
def K : List Nat := [
0x428a2f98, 0x71374491, 0xb5c0fbcf, 0xe9b5dba5, 0x3956c25b, 0x59f111f1, 0x923f82a4, 0xab1c5ed5,
  0xd807aa98, 0x12835b01, 0x243185be, 0x550c7dc3, 0x72be5d74, 0x80deb1fe, 0x9bdc06a7, 0xc19bf174,
  0xe49b69c1, 0xefbe4786, 0x0fc19dc6, 0x240ca1cc, 0x2de92c6f, 0x4a7484aa, 0x5cb0a9dc, 0x76f988da,
  0x983e5152, 0xa831c66d, 0xb00327c8, 0xbf597fc7, 0xc6e00bf3, 0xd5a79147, 0x06ca6351, 0x14292967,
  0x27b70a85, 0x2e1b2138, 0x4d2c6dfc, 0x53380d13, 0x650a7354, 0x766a0abb, 0x81c2c92e, 0x92722c85,
  0xa2bfe8a1, 0xa81a664b, 0xc24b8b70, 0xc76c51a3, 0xd192e819, 0xd6990624, 0xf40e3585, 0x106aa070,
  0x19a4c116, 0x1e376c08, 0x2748774c, 0x34b0bcb5, 0x391c0cb3, 0x4ed8aa4a, 0x5b9cca4f, 0x682e6ff3,
  0x748f82ee, 0x78a5636f, 0x84c87814, 0x8cc70208, 0x90befffa, 0xa4506ceb, 0xbef9a3f7, 0xc67178f2]
def H0 : List Nat := [0x6a09e667, 0xbb67ae85, 0x3c6ef372, 0xa54ff53a, 0x510e527f, 0x9b05688c, 0x1f83d9ab, 0x5be0cd19]
def round (k w : Nat) : List Nat → List Nat
  | [a, b, c, d, e, f, g, h] =>
    let t := (h + e1 e + ch e f g + k + w) % 4294967296
    [(t + e0 a + maj a b c) % 4294967296, a, b, c, (d + t) % 4294967296, e, f, g]
  | l => l
def sched : Nat → List Nat → List Nat
  | 0, _ => []
  | n + 1, w => (w.getD 0 0) :: sched n (w.drop 1 ++ [(w.getD 0 0 + s0 (w.getD 1 0) + w.getD 9 0 + s1 (w.getD 14 0)) % 4294967296])
def rounds : List Nat → List Nat → List Nat → List Nat
  | k :: ks, w :: ws, v => rounds ks ws (round k w v)
  | _, _, v => v
def addAll : List Nat → List Nat → List Nat
  | a :: u, b :: bs => ((a + b) % 4294967296) :: addAll u bs
  | _, _ => []
def block (h w : List Nat) : List Nat := addAll h (rounds K (sched 64 w) h)
def words : List Nat → List Nat
  | a :: b :: c :: d :: r => (((a * 256 + b) * 256 + c) * 256 + d) :: words r
  | _ => []
def blocks : Nat → List Nat → List Nat → List Nat
  | 0, h, _ => h
  | n + 1, h, w => blocks n (block h (w.take 16)) (w.drop 16)
def lenBytes (n : Nat) : List Nat := [n / 72057594037927936 % 256, n / 281474976710656 % 256, n / 1099511627776 % 256, n / 4294967296 % 256, n / 16777216 % 256, n / 65536 % 256, n / 256 % 256, n % 256]
def pad (b : List Nat) : List Nat := b ++ 128 :: List.replicate ((119 - b.length % 64) % 64) 0 ++ lenBytes (b.length * 8 % 18446744073709551616)
def zLA : List Nat → List Nat
  | [] => []
  | x :: r => (x / 16777216 % 256) :: (x / 65536 % 256) :: (x / 256 % 256) :: (x % 256) :: zLA r
def shaN (b : List Nat) : List Nat := zLA (blocks ((pad b).length / 64) H0 (words (pad b)))
def sha (b : List UInt8) : List UInt8 := (shaN (b.map (·.toNat))).map UInt8.ofNat
end Go.X.Sha
end
section
namespace Go.X.Sha
def nxt (l : List Nat) : Nat := (l.getD (l.length - 16) 0 + s0 (l.getD (l.length - 15) 0) + l.getD (l.length - 7) 0 + s1 (l.getD (l.length - 2) 0)) % 4294967296
def ext : List Nat → Nat → List Nat
  | l, 0 => l
  | l, n + 1 => ext (l ++ [nxt l]) n
theorem ext_succ : ∀ (n : Nat) (l : List Nat), ext l (n + 1) = ext l n ++ [nxt (ext l n)]
  | 0, l => rfl
  | n + 1, l => by
    show ext (l ++ [nxt l]) (n + 1) = ext (l ++ [nxt l]) n ++ [nxt (ext (l ++ [nxt l]) n)]
    exact ext_succ n _
theorem ext_len : ∀ (n : Nat) (l : List Nat), (ext l n).length = l.length + n
  | 0, l => rfl
  | n + 1, l => by rw [ext_succ, List.length_append, ext_len n l]; rfl
theorem nxt_cons (a : Nat) (l : List Nat) (h : 16 ≤ l.length) : nxt (a :: l) = nxt l := by
  have e : ∀ j, j ≤ 16 → 1 ≤ j → (a :: l).getD ((a :: l).length - j) 0 = l.getD (l.length - j) 0 := fun j h1 h2 => by
    rw [show (a :: l).length - j = (l.length - j) + 1 by simp; omega]; rfl
  unfold nxt
  rw [e 16 (by omega) (by omega), e 15 (by omega) (by omega), e 7 (by omega) (by omega), e 2 (by omega) (by omega)]
theorem zJW : ∀ (n a : Nat) (l : List Nat), 16 ≤ l.length → ext (a :: l) n = a :: ext l n
  | 0, a, l, h => rfl
  | n + 1, a, l, h => by
    show ext (a :: l ++ [nxt (a :: l)]) n = a :: ext (l ++ [nxt l]) n
    rw [nxt_cons a l h, List.cons_append]
    exact zJW n a _ (by simp; omega)
theorem nxt_win (w : List Nat) (h : w.length = 16) : nxt w = (w.getD 0 0 + s0 (w.getD 1 0) + w.getD 9 0 + s1 (w.getD 14 0)) % 4294967296 := by
  unfold nxt; rw [h]
theorem zYJ : ∀ (n : Nat) (w : List Nat), w.length = 16 → n ≤ 16 → sched n w = w.take n := by
  have key : ∀ (n : Nat) (w : List Nat) (x : List Nat), w.length + x.length = 16 → n ≤ w.length → sched n (w ++ x) = w.take n := by
    intro n
    induction n with
    | zero => intro w x _ _; rfl
    | succ n ih =>
      intro w x h hn
      cases w with
      | nil => simp at hn
      | cons a w =>
        simp only [sched, List.cons_append, List.drop_succ_cons, List.drop_zero, List.take_succ_cons]
        rw [List.append_assoc, ih w _ (by simp at h ⊢; omega) (by simp at hn; omega)]
        rfl
  intro n w h hn
  have := key n w [] (by simpa using h) (by omega)
  simpa using this
theorem sched_ext : ∀ (m : Nat) (w : List Nat), w.length = 16 → sched (16 + m) w = ext w m
  | 0, w, h => by rw [zYJ 16 w h (Nat.le_refl _)]; simp [ext, ← h]
  | m + 1, w, h => by
    cases w with
    | nil => simp at h
    | cons a w =>
      show sched ((16 + m) + 1) (a :: w) = ext (a :: w ++ [nxt (a :: w)]) m
      rw [List.cons_append, zJW m a _ (by simp at h ⊢; omega), nxt_win _ h]
      simp only [sched]
      rw [sched_ext m _ (by simp at h ⊢; omega)]
      rfl
end Go.X.Sha
end
section
namespace Go.X
def zDp (b : Nat → Nat) (i : Nat) : Nat := ((b (4 * i) * 256 + b (4 * i + 1)) * 256 + b (4 * i + 2)) * 256 + b (4 * i + 3)
def zAf (b : Nat → Nat) : List Nat := (List.range 16).map (zDp b)
theorem zBd (b : Nat → Nat) : (zAf b).length = 16 := by simp [zAf]
def winB (l : List UInt8) : List Nat := zAf fun j => (l.getD j 0).toNat
theorem zHU {l : List UInt8} {n : Nat} (hn : 64 ≤ n) : winB (l.take n) = winB l := by
  unfold winB zAf
  refine List.map_congr_left fun i hi => ?_
  have hi' : i < 16 := List.mem_range.1 hi
  have e : ∀ j, j < 64 → (l.take n).getD j 0 = l.getD j 0 := fun j hj => by
    simp only [List.getD_eq_getElem?_getD]
    rw [List.getElem?_take, if_pos (by omega)]
  unfold zDp
  dsimp only
  rw [e _ (by omega), e _ (by omega), e _ (by omega), e _ (by omega)]
def zo : Nat → List Nat → List UInt8 → List Nat
  | 0, h, _ => h
  | n + 1, h, b => zo n (Sha.block h (winB b)) (b.drop 64)
theorem zEn : ∀ (i : Nat) (h : List Nat) (b : List UInt8), zo (i + 1) h b = Sha.block (zo i h b) (winB (b.drop (64 * i)))
  | 0, h, b => by simp [zo]
  | i + 1, h, b => by
    rw [zo, zEn i]
    simp only [zo, List.drop_drop]
    rw [show 64 + 64 * i = 64 * (i + 1) by omega]
theorem zFo : ∀ (i j : Nat) (h : List Nat) (b : List UInt8), zo (i + j) h b = zo j (zo i h b) (b.drop (64 * i))
  | 0, j, h, b => by simp [zo]
  | i + 1, j, h, b => by
    rw [show i + 1 + j = (i + j) + 1 by omega]
    simp only [zo]
    rw [zFo i j, List.drop_drop, show 64 + 64 * i = 64 * (i + 1) by omega]
theorem zYo {a b : List UInt8} (h : 64 ≤ a.length) : winB (a ++ b) = winB a := by
  rw [← zHU (l := a ++ b) h]
  simp
theorem zEm : ∀ (i : Nat) (h : List Nat) (a b : List UInt8), 64 * i ≤ a.length → zo i h (a ++ b) = zo i h a
  | 0, h, a, b, _ => rfl
  | i + 1, h, a, b, hl => by
    simp only [zo]
    rw [zYo (by omega), List.drop_append_of_le_length (by omega)]
    exact zEm i _ _ b (by simp; omega)
theorem zIo : ∀ (a b : List Nat), a.length = b.length → (Sha.addAll a b).length = a.length
  | [], [], _ => rfl
  | x :: a, y :: b, h => by simp [Sha.addAll, zIo a b (by simpa using h)]
  | [], _ :: _, h => by simp at h
  | _ :: _, [], h => by simp at h
def lenB (n : Nat) : List UInt8 := (List.range 8).map fun i => UInt8.ofNat ((n % 18446744073709551616) >>> (8 * (7 - i)))
theorem zBs (n : Nat) : (lenB n).length = 8 := by simp [lenB]
def zAG (n : Nat) : Nat := (119 - n % 64) % 64
def padB (r : List UInt8) (n : Nat) : List UInt8 := r ++ [128] ++ List.replicate (zAG r.length) 0 ++ lenB (n * 8)
theorem zGn (r : List UInt8) (n : Nat) : (padB r n).length = 64 * ((padB r n).length / 64) := by
  have : (padB r n).length = r.length + 1 + zAG r.length + 8 := by simp [padB, zBs]; omega
  rw [this]
  unfold zAG
  omega
def outW (x : Nat) : List UInt8 := (List.range 4).map fun k => UInt8.ofNat ((x % 4294967296) >>> (8 * (3 - k)))
def outB (hs : List Nat) : List UInt8 := hs.flatMap outW
def fin (hs : List Nat) (r : List UInt8) (n : Nat) : List UInt8 := outB (zo ((padB r n).length / 64) hs (padB r n))
def sha (s : List UInt8) : List UInt8 := fin Sha.H0 s s.length
theorem zZD (a b : Nat) (h : a = b % 64) : zAG a = zAG b := by unfold zAG; omega
theorem zKn (s : List UInt8) : fin (zo (s.length / 64) Sha.H0 s) (s.drop (64 * (s.length / 64))) s.length = sha s := by
  unfold sha fin
  have hl : (s.drop (64 * (s.length / 64))).length = s.length % 64 := by rw [List.length_drop]; omega
  have hp : padB s s.length = s.take (64 * (s.length / 64)) ++ padB (s.drop (64 * (s.length / 64))) s.length := by
    unfold padB
    rw [zZD _ s.length hl]
    simp only [← List.append_assoc]
    rw [List.take_append_drop]
  have hq := zGn (s.drop (64 * (s.length / 64))) s.length
  generalize padB (s.drop (64 * (s.length / 64))) s.length = p at *
  generalize padB s s.length = q at *
  subst hp
  have htl : (s.take (64 * (s.length / 64))).length = 64 * (s.length / 64) := by rw [List.length_take]; omega
  have hn : (s.take (64 * (s.length / 64)) ++ p).length / 64 = s.length / 64 + p.length / 64 := by
    rw [List.length_append, htl]; omega
  rw [hn, zFo]
  congr 1
  rw [zEm _ _ _ _ (by omega), List.drop_append, htl, List.drop_of_length_le (by omega)]
  simp only [Nat.sub_self, List.drop_zero, List.nil_append]
  congr 1
  have := zEm (s.length / 64) Sha.H0 (s.take (64 * (s.length / 64))) (s.drop (64 * (s.length / 64))) (by rw [htl]; exact Nat.le_refl _)
  rw [List.take_append_drop] at this
  exact this
theorem zFF : ∀ (hs : List Nat), (outB hs).length = 4 * hs.length
  | [] => rfl
  | x :: hs => by
    have := zFF hs
    simp only [outB, List.flatMap_cons, List.length_append, List.length_cons] at *
    rw [this]
    simp [outW]; omega
end Go.X
end
section
namespace Go.X
open Go.Proofs
abbrev zNR : List XO := [
  ⟨some 4, .p (.mov (C (.int .u32 0))), none⟩]
def zNQ : List XO := zNR
theorem xq118_0e : E3 zNQ zNR := E3.rfl
abbrev zNT : List XO := [
  ⟨some 5, .p (.mov (T 0)), none⟩,
  ⟨some 6, .p (.mov (T 1)), none⟩,
  ⟨some 7, .p (.un .neg (T 6)), none⟩,
  ⟨some 8, .call (.func 126) [(T 5), (T 7)], none⟩,
  ⟨some 4, .p (.mov (T 8)), none⟩]
def zNS : List XO := zNT
theorem xq118_1e : E3 zNS zNT := E3.rfl
def xq118 : XF := ⟨2, [.tmp 4],
  .seq (.ops zNQ) (.seq (.ops zNS) (.ret))⟩
def yq118 := PLift.up (And.intro (@xq118_0e) (@xq118_1e))
theorem cq118 : zb Try.prog Try.f118 = some xq118 := by kernel_rfl
abbrev zNi : List XO := [
  ⟨some 4, .p (.mov (C (.int .u32 0))), none⟩]
def zNh : List XO := zNi
theorem xq126_0e : E3 zNh zNi := E3.rfl
abbrev zNk : List XO := [
  ⟨some 6, .p (.mov (T 1)), none⟩,
  ⟨some 7, .p (.cint .u64 (T 6)), none⟩,
  ⟨some 8, .p (.bin .and (T 7) (C (.int .u64 31))), none⟩,
  ⟨some 5, .p (.mov (T 8)), none⟩]
def zNj : List XO := zNk
theorem xq126_1e : E3 zNj zNk := E3.rfl
abbrev zNm : List XO := [
  ⟨some 9, .p (.mov (T 0)), none⟩,
  ⟨some 10, .p (.mov (T 5)), none⟩,
  ⟨some 11, .p (.bin .shl (T 9) (T 10)), none⟩,
  ⟨some 12, .p (.mov (T 0)), none⟩,
  ⟨some 13, .p (.mov (T 5)), none⟩,
  ⟨some 14, .p (.bin .sub (C (.int .u64 32)) (T 13)), none⟩,
  ⟨some 15, .p (.bin .shr (T 12) (T 14)), none⟩,
  ⟨some 16, .p (.bin .or (T 11) (T 15)), none⟩,
  ⟨some 4, .p (.mov (T 16)), none⟩]
def zNl : List XO := zNm
theorem xq126_2e : E3 zNl zNm := E3.rfl
def xq126 : XF := ⟨2, [.tmp 4],
  .seq (.ops zNh) (.seq (.ops zNj) (.seq (.ops zNl) (.ret)))⟩
def yq126 := PLift.up (And.intro (@xq126_0e) (And.intro (@xq126_1e) (@xq126_2e)))
theorem cq126 : zb Try.prog Try.f126 = some xq126 := by kernel_rfl
abbrev zMj : List XO := [
  ⟨some 0, .a (.alloc (List.replicate 64 (.int .u32 0))), none⟩]
def zMi : List XO := zMj
theorem xq116_0e : E3 zMi zMj := E3.rfl
abbrev zMl : List XO := [
  ⟨some 1, .p (.build (List.replicate 64 (.int .u32 0)) [(0, 1, (C (.int .u32 1116352408))), (1, 1, (C (.int .u32 1899447441))), (2, 1, (C (.int .u32 3049323471))), (3, 1, (C (.int .u32 3921009573))), (4, 1, (C (.int .u32 961987163))), (5, 1, (C (.int .u32 1508970993))), (6, 1, (C (.int .u32 2453635748))), (7, 1, (C (.int .u32 2870763221))), (8, 1, (C (.int .u32 3624381080))), (9, 1, (C (.int .u32 310598401))), (10, 1, (C (.int .u32 607225278))), (11, 1, (C (.int .u32 1426881987))), (12, 1, (C (.int .u32 1925078388))), (13, 1, (C (.int .u32 2162078206))), (14, 1, (C (.int .u32 2614888103))), (15, 1, (C (.int .u32 3248222580))), (16, 1, (C (.int .u32 3835390401))), (17, 1, (C (.int .u32 4022224774))), (18, 1, (C (.int .u32 264347078))), (19, 1, (C (.int .u32 604807628))), (20, 1, (C (.int .u32 770255983))), (21, 1, (C (.int .u32 1249150122))), (22, 1, (C (.int .u32 1555081692))), (23, 1, (C (.int .u32 1996064986))), (24, 1, (C (.int .u32 2554220882))), (25, 1, (C (.int .u32 2821834349))), (26, 1, (C (.int .u32 2952996808))), (27, 1, (C (.int .u32 3210313671))), (28, 1, (C (.int .u32 3336571891))), (29, 1, (C (.int .u32 3584528711))), (30, 1, (C (.int .u32 113926993))), (31, 1, (C (.int .u32 338241895))), (32, 1, (C (.int .u32 666307205))), (33, 1, (C (.int .u32 773529912))), (34, 1, (C (.int .u32 1294757372))), (35, 1, (C (.int .u32 1396182291))), (36, 1, (C (.int .u32 1695183700))), (37, 1, (C (.int .u32 1986661051))), (38, 1, (C (.int .u32 2177026350))), (39, 1, (C (.int .u32 2456956037))), (40, 1, (C (.int .u32 2730485921))), (41, 1, (C (.int .u32 2820302411))), (42, 1, (C (.int .u32 3259730800))), (43, 1, (C (.int .u32 3345764771))), (44, 1, (C (.int .u32 3516065817))), (45, 1, (C (.int .u32 3600352804))), (46, 1, (C (.int .u32 4094571909))), (47, 1, (C (.int .u32 275423344))), (48, 1, (C (.int .u32 430227734))), (49, 1, (C (.int .u32 506948616))), (50, 1, (C (.int .u32 659060556))), (51, 1, (C (.int .u32 883997877))), (52, 1, (C (.int .u32 958139571))), (53, 1, (C (.int .u32 1322822218))), (54, 1, (C (.int .u32 1537002063))), (55, 1, (C (.int .u32 1747873779))), (56, 1, (C (.int .u32 1955562222))), (57, 1, (C (.int .u32 2024104815))), (58, 1, (C (.int .u32 2227730452))), (59, 1, (C (.int .u32 2361852424))), (60, 1, (C (.int .u32 2428436474))), (61, 1, (C (.int .u32 2756734187))), (62, 1, (C (.int .u32 3204031479))), (63, 1, (C (.int .u32 3329325298)))]), none⟩,
  ⟨none, .e (.store 64 (T 0) (T 1)), none⟩]
def zMk : List XO := zMl
theorem xq116_1e : E3 zMk zMl := E3.rfl
def xq116 : XF := ⟨0, [.cellN 0 64],
  .seq (.ops zMi) (.seq (.ops zMk) (.ret))⟩
def yq116 := PLift.up (And.intro (@xq116_0e) (@xq116_1e))
theorem cq116 : zb Try.prog Try.f116 = some xq116 := by kernel_rfl
abbrev zLT : List XO := [
  ⟨some 0, .a (.alloc (List.replicate 8 (.int .u32 0))), none⟩]
def zLS : List XO := zLT
theorem xq103_0e : E3 zLS zLT := E3.rfl
abbrev zLV : List XO := [
  ⟨some 1, .p (.build (List.replicate 8 (.int .u32 0)) [(0, 1, (C (.int .u32 1779033703))), (1, 1, (C (.int .u32 3144134277))), (2, 1, (C (.int .u32 1013904242))), (3, 1, (C (.int .u32 2773480762))), (4, 1, (C (.int .u32 1359893119))), (5, 1, (C (.int .u32 2600822924))), (6, 1, (C (.int .u32 528734635))), (7, 1, (C (.int .u32 1541459225)))]), none⟩,
  ⟨none, .e (.store 8 (T 0) (T 1)), none⟩]
def zLU : List XO := zLV
theorem xq103_1e : E3 zLU zLV := E3.rfl
def xq103 : XF := ⟨0, [.cellN 0 8],
  .seq (.ops zLS) (.seq (.ops zLU) (.ret))⟩
def yq103 := PLift.up (And.intro (@xq103_0e) (@xq103_1e))
theorem cq103 : zb Try.prog Try.f103 = some xq103 := by kernel_rfl
abbrev zMn : List XO := [
  ⟨some 2, .a (.alloc (List.replicate 64 (.int .u32 0))), none⟩]
def zMm : List XO := zMn
theorem xq117_0e : E3 zMm zMn := E3.rfl
abbrev zM6 : List XO := [
  ⟨some 3, .a (.alloc (List.replicate 64 (.int .u32 0))), none⟩]
def zMo : List XO := zM6
theorem xq117_1e : E3 zMo zM6 := E3.rfl
abbrev zNB : List XO := [
  ⟨some 11, .p (.mov (C (.int .i64 0))), none⟩]
def zM7 : List XO := zNB
theorem xq117_2e : E3 zM7 zNB := E3.rfl
abbrev zND : List XO := [
  ⟨some 12, .p (.bin .lss (T 11) (C (.int .i64 16))), none⟩]
def zNC : List XO := zND
theorem xq117_3e : E3 zNC zND := E3.rfl
abbrev zNF : List XO := [
  ⟨some 13, .p (.mov (T 11)), none⟩,
  ⟨some 4, .p (.mov (T 13)), none⟩]
def zNE : List XO := zNF
theorem xq117_4e : E3 zNE zNF := E3.rfl
abbrev zNH : List XO := [
  ⟨some 14, .p (.mov (C (.int .i64 0))), none⟩]
def zNG : List XO := zNH
theorem xq117_5e : E3 zNG zNH := E3.rfl
abbrev zNJ : List XO := [
  ⟨some 15, .p (.bin .lss (T 14) (C (.int .i64 4))), none⟩]
def zNI : List XO := zNJ
theorem xq117_6e : E3 zNI zNJ := E3.rfl
abbrev zNL : List XO := [
  ⟨some 16, .p (.mov (T 14)), none⟩,
  ⟨some 5, .p (.mov (T 16)), none⟩]
def zNK : List XO := zNL
theorem xq117_7e : E3 zNK zNL := E3.rfl
abbrev zNN : List XO := [
  ⟨some 17, .p (.mov (T 4)), none⟩,
  ⟨some 18, .p (.mov (T 4)), none⟩,
  ⟨some 19, .p (.iaddrA 64 1 (T 3) (T 18)), none⟩,
  ⟨some 20, .r (.load1 (T 19)), none⟩,
  ⟨some 21, .p (.bin .shl (T 20) (C (.int .u64 8))), none⟩,
  ⟨some 22, .p (.mov (T 0)), none⟩,
  ⟨some 23, .p (.mov (T 4)), none⟩,
  ⟨some 24, .p (.bin .mul (C (.int .i64 4)) (T 23)), none⟩,
  ⟨some 25, .p (.mov (T 5)), none⟩,
  ⟨some 26, .p (.bin .add (T 24) (T 25)), none⟩,
  ⟨some 27, .p (.iaddrS 1 (T 22) (T 26)), none⟩,
  ⟨some 28, .r (.load1 (T 27)), none⟩,
  ⟨some 29, .p (.cint .u32 (T 28)), none⟩,
  ⟨some 30, .p (.bin .or (T 21) (T 29)), none⟩,
  ⟨some 31, .p (.iaddrA 64 1 (T 3) (T 17)), none⟩,
  ⟨none, .e (.store 1 (T 31) (T 30)), none⟩]
def zNM : List XO := zNN
theorem xq117_8e : E3 zNM zNN := E3.rfl
abbrev zNP : List XO := [
  ⟨some 32, .p (.bin .add (T 14) (C (.int .i64 1))), none⟩,
  ⟨some 14, .p (.mov (T 32)), none⟩]
def zNO : List XO := zNP
theorem xq117_9e : E3 zNO zNP := E3.rfl
def zHe : XC :=
  .seq (.ops zNI) (.seq (.cond (T 15) (.skip) (.exit 2)) (.seq (.block 3 (.seq (.ops zNK) (.draw zNM []))) (.ops zNO)))
def zHd : XC := zHe
theorem zY1 {pr : Prog} {k : List KI} {Q : XE → Fr → Heap → Prop} {t : Fr} {h : Heap} (hw : wpk pr zHe k Q t h) : wpk pr zHd k Q t h := hw
abbrev zMq : List XO := [
  ⟨some 33, .p (.bin .add (T 11) (C (.int .i64 1))), none⟩,
  ⟨some 11, .p (.mov (T 33)), none⟩]
def zMp : List XO := zMq
theorem zY2 : E3 zMp zMq := E3.rfl
def zFg : XC :=
  .seq (.ops zNC) (.seq (.cond (T 12) (.skip) (.exit 0)) (.seq (.block 1 (.seq (.ops zNE) (.seq (.ops zNG) (.block 2 (.loop zHd))))) (.ops zMp)))
def zHf : XC := zFg
theorem zMr {pr : Prog} {k : List KI} {Q : XE → Fr → Heap → Prop} {t : Fr} {h : Heap} (hw : wpk pr zFg k Q t h) : wpk pr zHf k Q t h := hw
abbrev zMt : List XO := [
  ⟨some 6, .p (.mov (C (.int .i64 16))), none⟩]
def zMs : List XO := zMt
theorem zY3 : E3 zMs zMt := E3.rfl
abbrev zMv : List XO := [
  ⟨some 34, .p (.mov (T 6)), none⟩,
  ⟨some 35, .p (.bin .lss (T 34) (C (.int .i64 64))), none⟩]
def zMu : List XO := zMv
theorem zY4 : E3 zMu zMv := E3.rfl
abbrev zMx : List XO := [
  ⟨some 38, .p (.mov (T 6)), none⟩,
  ⟨some 39, .p (.bin .sub (T 38) (C (.int .i64 15))), none⟩,
  ⟨some 40, .p (.iaddrA 64 1 (T 3) (T 39)), none⟩,
  ⟨some 41, .r (.load1 (T 40)), none⟩,
  ⟨some 42, .p (.mov (T 6)), none⟩,
  ⟨some 43, .p (.bin .sub (T 42) (C (.int .i64 2))), none⟩,
  ⟨some 44, .p (.iaddrA 64 1 (T 3) (T 43)), none⟩,
  ⟨some 45, .r (.load1 (T 44)), none⟩,
  ⟨some 7, .p (.mov (T 41)), none⟩,
  ⟨some 8, .p (.mov (T 45)), none⟩]
def zMw : List XO := zMx
theorem zY5 : E3 zMw zMx := E3.rfl
abbrev zMz : List XO := [
  ⟨some 46, .p (.mov (T 7)), none⟩,
  ⟨some 47, .call (.func 118) [(T 46), (C (.int .i64 7))], none⟩,
  ⟨some 48, .p (.mov (T 7)), none⟩,
  ⟨some 49, .call (.func 118) [(T 48), (C (.int .i64 18))], none⟩,
  ⟨some 50, .p (.bin .xor (T 47) (T 49)), none⟩,
  ⟨some 51, .p (.mov (T 7)), none⟩,
  ⟨some 52, .p (.bin .shr (T 51) (C (.int .u64 3))), none⟩,
  ⟨some 53, .p (.bin .xor (T 50) (T 52)), none⟩,
  ⟨some 9, .p (.mov (T 53)), none⟩]
def zMy : List XO := zMz
theorem zY6 : E3 zMy zMz := E3.rfl
abbrev zM1 : List XO := [
  ⟨some 54, .p (.mov (T 8)), none⟩,
  ⟨some 55, .call (.func 118) [(T 54), (C (.int .i64 17))], none⟩,
  ⟨some 56, .p (.mov (T 8)), none⟩,
  ⟨some 57, .call (.func 118) [(T 56), (C (.int .i64 19))], none⟩,
  ⟨some 58, .p (.bin .xor (T 55) (T 57)), none⟩,
  ⟨some 59, .p (.mov (T 8)), none⟩,
  ⟨some 60, .p (.bin .shr (T 59) (C (.int .u64 10))), none⟩,
  ⟨some 61, .p (.bin .xor (T 58) (T 60)), none⟩,
  ⟨some 10, .p (.mov (T 61)), none⟩]
def zM0 : List XO := zM1
theorem zY7 : E3 zM0 zM1 := E3.rfl
abbrev zM3 : List XO := [
  ⟨some 62, .p (.mov (T 6)), none⟩,
  ⟨some 63, .p (.mov (T 6)), none⟩,
  ⟨some 64, .p (.bin .sub (T 63) (C (.int .i64 16))), none⟩,
  ⟨some 65, .p (.iaddrA 64 1 (T 3) (T 64)), none⟩,
  ⟨some 66, .r (.load1 (T 65)), none⟩,
  ⟨some 67, .p (.mov (T 9)), none⟩,
  ⟨some 68, .p (.bin .add (T 66) (T 67)), none⟩,
  ⟨some 69, .p (.mov (T 6)), none⟩,
  ⟨some 70, .p (.bin .sub (T 69) (C (.int .i64 7))), none⟩,
  ⟨some 71, .p (.iaddrA 64 1 (T 3) (T 70)), none⟩,
  ⟨some 72, .r (.load1 (T 71)), none⟩,
  ⟨some 73, .p (.bin .add (T 68) (T 72)), none⟩,
  ⟨some 74, .p (.mov (T 10)), none⟩,
  ⟨some 75, .p (.bin .add (T 73) (T 74)), none⟩,
  ⟨some 76, .p (.iaddrA 64 1 (T 3) (T 62)), none⟩,
  ⟨none, .e (.store 1 (T 76) (T 75)), none⟩]
def zM2 : List XO := zM3
theorem zY8 : E3 zM2 zM3 := E3.rfl
abbrev zM5 : List XO := [
  ⟨some 36, .p (.mov (T 6)), none⟩,
  ⟨some 37, .p (.bin .add (T 36) (C (.int .i64 1))), none⟩,
  ⟨some 6, .p (.mov (T 37)), none⟩]
def zM4 : List XO := zM5
theorem zY9 : E3 zM4 zM5 := E3.rfl
def zFh : XC :=
  .seq (.seq (.ops zMu) (.cond (T 35) (.skip) (.exit 4))) (.seq (.block 5 (.seq (.draw zMw []) (.seq (.ops zMy) (.seq (.ops zM0) (.draw zM2 []))))) (.ops zM4))
def zHg : XC := zFh
theorem zM8 {pr : Prog} {k : List KI} {Q : XE → Fr → Heap → Prop} {t : Fr} {h : Heap} (hw : wpk pr zFh k Q t h) : wpk pr zHg k Q t h := hw
abbrev zNA : List XO := [
  ⟨some 77, .r (.loadN 64 (T 3)), none⟩,
  ⟨none, .e (.store 64 (T 2) (T 77)), none⟩]
def zM9 : List XO := zNA
theorem zZA : E3 zM9 zNA := E3.rfl
def xq117 : XF := ⟨1, [.cellN 2 64],
  .seq (.ops zMm) (.seq (.ops zMo) (.seq (.seq (.ops zM7) (.block 0 (.loop zHf))) (.seq (.seq (.ops zMs) (.block 4 (.loop zHg))) (.seq (.ops zM9) (.ret)))))⟩
def yq117 := PLift.up (And.intro (And.intro (And.intro (And.intro (@xq117_0e) (@xq117_1e)) (And.intro (@xq117_2e) (@xq117_3e))) (And.intro (And.intro (@xq117_4e) (@xq117_5e)) (And.intro (@xq117_6e) (And.intro (@xq117_7e) (@xq117_8e))))) (And.intro (And.intro (And.intro (@xq117_9e) (@zY2)) (And.intro (@zY3) (And.intro (@zY4) (@zY5)))) (And.intro (And.intro (@zY6) (@zY7)) (And.intro (@zY8) (And.intro (@zY9) (@zZA))))))
theorem cq117 : zb Try.prog Try.f117 = some xq117 := by kernel_rfl
abbrev zLX : List XO := [
  ⟨some 14, .call (.func 116) [], none⟩,
  ⟨some 15, .p (.mov (T 1)), none⟩,
  ⟨some 16, .call (.func 117) [(T 15)], none⟩,
  ⟨some 4, .a (.alloc (List.replicate 64 (.int .u32 0))), none⟩,
  ⟨some 5, .a (.alloc (List.replicate 64 (.int .u32 0))), none⟩,
  ⟨none, .e (.store 64 (T 4) (T 14)), none⟩,
  ⟨none, .e (.store 64 (T 5) (T 16)), none⟩]
def zLW : List XO := zLX
theorem xq104_0e : E3 zLW zLX := E3.rfl
abbrev zLn : List XO := [
  ⟨some 17, .p (.mov (T 0)), none⟩,
  ⟨some 18, .p (.nilc (T 17)), none⟩,
  ⟨some 19, .p (.faddr 0 (T 18)), none⟩,
  ⟨some 20, .r (.loadN 8 (T 19)), none⟩,
  ⟨some 6, .a (.alloc (List.replicate 8 (.int .u32 0))), none⟩,
  ⟨none, .e (.store 8 (T 6) (T 20)), none⟩]
def zLY : List XO := zLn
theorem xq104_1e : E3 zLY zLn := E3.rfl
abbrev zLp : List XO := [
  ⟨some 21, .p (.mov (C (.int .i64 0))), none⟩]
def zLo : List XO := zLp
theorem xq104_2e : E3 zLo zLp := E3.rfl
abbrev zLr : List XO := [
  ⟨some 22, .p (.bin .lss (T 21) (C (.int .i64 64))), none⟩]
def zLq : List XO := zLr
theorem xq104_3e : E3 zLq zLr := E3.rfl
abbrev zLt : List XO := [
  ⟨some 23, .p (.mov (T 21)), none⟩,
  ⟨some 7, .p (.mov (T 23)), none⟩]
def zLs : List XO := zLt
theorem xq104_4e : E3 zLs zLt := E3.rfl
abbrev zLv : List XO := [
  ⟨some 24, .p (.iaddrA 8 1 (T 6) (C (.int .i64 4))), none⟩,
  ⟨some 25, .r (.load1 (T 24)), none⟩,
  ⟨some 26, .call (.func 118) [(T 25), (C (.int .i64 6))], none⟩,
  ⟨some 27, .p (.iaddrA 8 1 (T 6) (C (.int .i64 4))), none⟩,
  ⟨some 28, .r (.load1 (T 27)), none⟩,
  ⟨some 29, .call (.func 118) [(T 28), (C (.int .i64 11))], none⟩,
  ⟨some 30, .p (.bin .xor (T 26) (T 29)), none⟩,
  ⟨some 31, .p (.iaddrA 8 1 (T 6) (C (.int .i64 4))), none⟩,
  ⟨some 32, .r (.load1 (T 31)), none⟩,
  ⟨some 33, .call (.func 118) [(T 32), (C (.int .i64 25))], none⟩,
  ⟨some 34, .p (.bin .xor (T 30) (T 33)), none⟩,
  ⟨some 8, .p (.mov (T 34)), none⟩]
def zLu : List XO := zLv
theorem xq104_5e : E3 zLu zLv := E3.rfl
abbrev zLx : List XO := [
  ⟨some 35, .p (.iaddrA 8 1 (T 6) (C (.int .i64 4))), none⟩,
  ⟨some 36, .r (.load1 (T 35)), none⟩,
  ⟨some 37, .p (.iaddrA 8 1 (T 6) (C (.int .i64 5))), none⟩,
  ⟨some 38, .r (.load1 (T 37)), none⟩,
  ⟨some 39, .p (.bin .and (T 36) (T 38)), none⟩,
  ⟨some 40, .p (.iaddrA 8 1 (T 6) (C (.int .i64 4))), none⟩,
  ⟨some 41, .r (.load1 (T 40)), none⟩,
  ⟨some 42, .p (.un .xor (T 41)), none⟩,
  ⟨some 43, .p (.iaddrA 8 1 (T 6) (C (.int .i64 6))), none⟩,
  ⟨some 44, .r (.load1 (T 43)), none⟩,
  ⟨some 45, .p (.bin .and (T 42) (T 44)), none⟩,
  ⟨some 46, .p (.bin .xor (T 39) (T 45)), none⟩,
  ⟨some 9, .p (.mov (T 46)), none⟩]
def zLw : List XO := zLx
theorem xq104_6e : E3 zLw zLx := E3.rfl
abbrev zLz : List XO := [
  ⟨some 47, .p (.iaddrA 8 1 (T 6) (C (.int .i64 7))), none⟩,
  ⟨some 48, .r (.load1 (T 47)), none⟩,
  ⟨some 49, .p (.mov (T 8)), none⟩,
  ⟨some 50, .p (.bin .add (T 48) (T 49)), none⟩,
  ⟨some 51, .p (.mov (T 9)), none⟩,
  ⟨some 52, .p (.bin .add (T 50) (T 51)), none⟩,
  ⟨some 53, .p (.mov (T 7)), none⟩,
  ⟨some 54, .p (.iaddrA 64 1 (T 4) (T 53)), none⟩,
  ⟨some 55, .r (.load1 (T 54)), none⟩,
  ⟨some 56, .p (.bin .add (T 52) (T 55)), none⟩,
  ⟨some 57, .p (.mov (T 7)), none⟩,
  ⟨some 58, .p (.iaddrA 64 1 (T 5) (T 57)), none⟩,
  ⟨some 59, .r (.load1 (T 58)), none⟩,
  ⟨some 60, .p (.bin .add (T 56) (T 59)), none⟩,
  ⟨some 10, .p (.mov (T 60)), none⟩]
def zLy : List XO := zLz
theorem xq104_7e : E3 zLy zLz := E3.rfl
abbrev zL1 : List XO := [
  ⟨some 61, .p (.iaddrA 8 1 (T 6) (C (.int .i64 0))), none⟩,
  ⟨some 62, .r (.load1 (T 61)), none⟩,
  ⟨some 63, .call (.func 118) [(T 62), (C (.int .i64 2))], none⟩,
  ⟨some 64, .p (.iaddrA 8 1 (T 6) (C (.int .i64 0))), none⟩,
  ⟨some 65, .r (.load1 (T 64)), none⟩,
  ⟨some 66, .call (.func 118) [(T 65), (C (.int .i64 13))], none⟩,
  ⟨some 67, .p (.bin .xor (T 63) (T 66)), none⟩,
  ⟨some 68, .p (.iaddrA 8 1 (T 6) (C (.int .i64 0))), none⟩,
  ⟨some 69, .r (.load1 (T 68)), none⟩,
  ⟨some 70, .call (.func 118) [(T 69), (C (.int .i64 22))], none⟩,
  ⟨some 71, .p (.bin .xor (T 67) (T 70)), none⟩,
  ⟨some 11, .p (.mov (T 71)), none⟩]
def zL0 : List XO := zL1
theorem xq104_8e : E3 zL0 zL1 := E3.rfl
abbrev zL3 : List XO := [
  ⟨some 72, .p (.iaddrA 8 1 (T 6) (C (.int .i64 0))), none⟩,
  ⟨some 73, .r (.load1 (T 72)), none⟩,
  ⟨some 74, .p (.iaddrA 8 1 (T 6) (C (.int .i64 1))), none⟩,
  ⟨some 75, .r (.load1 (T 74)), none⟩,
  ⟨some 76, .p (.bin .and (T 73) (T 75)), none⟩,
  ⟨some 77, .p (.iaddrA 8 1 (T 6) (C (.int .i64 0))), none⟩,
  ⟨some 78, .r (.load1 (T 77)), none⟩,
  ⟨some 79, .p (.iaddrA 8 1 (T 6) (C (.int .i64 2))), none⟩,
  ⟨some 80, .r (.load1 (T 79)), none⟩,
  ⟨some 81, .p (.bin .and (T 78) (T 80)), none⟩,
  ⟨some 82, .p (.bin .xor (T 76) (T 81)), none⟩,
  ⟨some 83, .p (.iaddrA 8 1 (T 6) (C (.int .i64 1))), none⟩,
  ⟨some 84, .r (.load1 (T 83)), none⟩,
  ⟨some 85, .p (.iaddrA 8 1 (T 6) (C (.int .i64 2))), none⟩,
  ⟨some 86, .r (.load1 (T 85)), none⟩,
  ⟨some 87, .p (.bin .and (T 84) (T 86)), none⟩,
  ⟨some 88, .p (.bin .xor (T 82) (T 87)), none⟩,
  ⟨some 12, .p (.mov (T 88)), none⟩]
def zL2 : List XO := zL3
theorem xq104_9e : E3 zL2 zL3 := E3.rfl
abbrev zLa : List XO := [
  ⟨some 89, .p (.mov (T 10)), none⟩,
  ⟨some 90, .p (.mov (T 11)), none⟩,
  ⟨some 91, .p (.bin .add (T 89) (T 90)), none⟩,
  ⟨some 92, .p (.mov (T 12)), none⟩,
  ⟨some 93, .p (.bin .add (T 91) (T 92)), none⟩,
  ⟨some 94, .p (.iaddrA 8 1 (T 6) (C (.int .i64 0))), none⟩,
  ⟨some 95, .r (.load1 (T 94)), none⟩,
  ⟨some 96, .p (.iaddrA 8 1 (T 6) (C (.int .i64 1))), none⟩,
  ⟨some 97, .r (.load1 (T 96)), none⟩,
  ⟨some 98, .p (.iaddrA 8 1 (T 6) (C (.int .i64 2))), none⟩,
  ⟨some 99, .r (.load1 (T 98)), none⟩,
  ⟨some 100, .p (.iaddrA 8 1 (T 6) (C (.int .i64 3))), none⟩,
  ⟨some 101, .r (.load1 (T 100)), none⟩,
  ⟨some 102, .p (.mov (T 10)), none⟩,
  ⟨some 103, .p (.bin .add (T 101) (T 102)), none⟩,
  ⟨some 104, .p (.iaddrA 8 1 (T 6) (C (.int .i64 4))), none⟩,
  ⟨some 105, .r (.load1 (T 104)), none⟩,
  ⟨some 106, .p (.iaddrA 8 1 (T 6) (C (.int .i64 5))), none⟩,
  ⟨some 107, .r (.load1 (T 106)), none⟩,
  ⟨some 108, .p (.iaddrA 8 1 (T 6) (C (.int .i64 6))), none⟩,
  ⟨some 109, .r (.load1 (T 108)), none⟩,
  ⟨some 110, .p (.build (List.replicate 8 (.int .u32 0)) [(0, 1, (T 93)), (1, 1, (T 95)), (2, 1, (T 97)), (3, 1, (T 99)), (4, 1, (T 103)), (5, 1, (T 105)), (6, 1, (T 107)), (7, 1, (T 109))]), none⟩,
  ⟨none, .e (.store 8 (T 6) (T 110)), none⟩]
def zLZ : List XO := zLa
theorem zYs : E3 zLZ zLa := E3.rfl
abbrev zLc : List XO := [
  ⟨some 111, .p (.bin .add (T 21) (C (.int .i64 1))), none⟩,
  ⟨some 21, .p (.mov (T 111)), none⟩]
def zLb : List XO := zLc
theorem zYt : E3 zLb zLc := E3.rfl
def zHY : XC :=
  .seq (.ops zLq) (.seq (.cond (T 22) (.skip) (.exit 0)) (.seq (.block 1 (.seq (.ops zLs) (.seq (.draw zLu [(4, (2, [])), (8, (2, [])), (8, (5, []))]) (.seq (.ops zLw) (.seq (.draw zLy []) (.seq (.draw zL0 [(4, (2, [])), (8, (2, [])), (8, (5, []))]) (.seq (.ops zL2) (.ops zLZ)))))))) (.ops zLb)))
def zHX : XC := zHY
theorem zYu {pr : Prog} {k : List KI} {Q : XE → Fr → Heap → Prop} {t : Fr} {h : Heap} (hw : wpk pr zHY k Q t h) : wpk pr zHX k Q t h := hw
abbrev zLe : List XO := [
  ⟨some 112, .p (.mov (C (.int .i64 0))), none⟩]
def zLd : List XO := zLe
theorem zYv : E3 zLd zLe := E3.rfl
abbrev zLg : List XO := [
  ⟨some 113, .p (.bin .lss (T 112) (C (.int .i64 8))), none⟩]
def zLf : List XO := zLg
theorem zYw : E3 zLf zLg := E3.rfl
abbrev zLi : List XO := [
  ⟨some 114, .p (.mov (T 112)), none⟩,
  ⟨some 13, .p (.mov (T 114)), none⟩]
def zLh : List XO := zLi
theorem zYx : E3 zLh zLi := E3.rfl
abbrev zLk : List XO := [
  ⟨some 115, .p (.mov (T 0)), none⟩,
  ⟨some 116, .p (.mov (T 13)), none⟩,
  ⟨some 117, .p (.nilc (T 115)), none⟩,
  ⟨some 118, .p (.faddr 0 (T 117)), none⟩,
  ⟨some 119, .p (.iaddrA 8 1 (T 118) (T 116)), none⟩,
  ⟨some 120, .r (.load1 (T 119)), none⟩,
  ⟨some 121, .p (.mov (T 13)), none⟩,
  ⟨some 122, .p (.iaddrA 8 1 (T 6) (T 121)), none⟩,
  ⟨some 123, .r (.load1 (T 122)), none⟩,
  ⟨some 124, .p (.bin .add (T 120) (T 123)), none⟩,
  ⟨some 125, .p (.nilc (T 115)), none⟩,
  ⟨some 126, .p (.faddr 0 (T 125)), none⟩,
  ⟨some 127, .p (.iaddrA 8 1 (T 126) (T 116)), none⟩,
  ⟨none, .e (.store 1 (T 127) (T 124)), none⟩]
def zLj : List XO := zLk
theorem zYy : E3 zLj zLk := E3.rfl
abbrev zLm : List XO := [
  ⟨some 128, .p (.bin .add (T 112) (C (.int .i64 1))), none⟩,
  ⟨some 112, .p (.mov (T 128)), none⟩]
def zLl : List XO := zLm
theorem zYz : E3 zLl zLm := E3.rfl
def zHa : XC :=
  .seq (.ops zLf) (.seq (.cond (T 113) (.skip) (.exit 2)) (.seq (.block 3 (.seq (.ops zLh) (.draw zLj []))) (.ops zLl)))
def zHZ : XC := zHa
theorem zY0 {pr : Prog} {k : List KI} {Q : XE → Fr → Heap → Prop} {t : Fr} {h : Heap} (hw : wpk pr zHa k Q t h) : wpk pr zHZ k Q t h := hw
def zDD : XF := ⟨2, [],
  .seq (.ops zLW) (.seq (.ops zLY) (.seq (.seq (.ops zLo) (.block 0 (.loop zHX))) (.seq (.ops zLd) (.block 2 (.loop zHZ)))))⟩
def yq104 := PLift.up (And.intro (And.intro (And.intro (And.intro (@xq104_0e) (@xq104_1e)) (And.intro (@xq104_2e) (@xq104_3e))) (And.intro (And.intro (@xq104_4e) (@xq104_5e)) (And.intro (@xq104_6e) (@xq104_7e)))) (And.intro (And.intro (And.intro (@xq104_8e) (@xq104_9e)) (And.intro (@zYs) (@zYt))) (And.intro (And.intro (@zYv) (@zYw)) (And.intro (@zYx) (And.intro (@zYy) (@zYz))))))
theorem cq104 : zb Try.prog Try.f104 = some zDD := by kernel_rfl
abbrev zTt : List XO := [
  ⟨some 0, .p (.mov (C (.pointer none))), none⟩]
def xq85_0 : List XO := zTt
theorem xq85_0e : E3 xq85_0 zTt := E3.rfl
abbrev zTu : List XO := [
  ⟨some 1, .call (.func 103) [], none⟩,
  ⟨some 2, .p (.build [(.int .u32 0), (.int .u32 0), (.int .u32 0), (.int .u32 0), (.int .u32 0), (.int .u32 0), (.int .u32 0), (.int .u32 0), (.slice none 0 0), (.int .u64 0)] [(0, 8, (T 1))]), none⟩,
  ⟨some 3, .a (.box (T 2)), none⟩,
  ⟨some 0, .p (.mov (T 3)), none⟩]
def xq85_1 : List XO := zTu
theorem xq85_1e : E3 xq85_1 zTu := E3.rfl
def xq85 : XF := ⟨0, [.tmp 0],
  .seq (.ops xq85_0) (.seq (.ops xq85_1) (.ret))⟩
def yq85 := PLift.up (And.intro (@xq85_0e) (@xq85_1e))
theorem cq85 : zb Try.prog Try.f85 = some xq85 := by kernel_rfl
abbrev zTv : List XO := [
  ⟨some 4, .p (.mov (T 0)), none⟩,
  ⟨some 5, .p (.eql false .nptr (T 4) (C (.pointer none))), none⟩]
def xq86_0 : List XO := zTv
theorem xq86_0e : E3 xq86_0 zTv := E3.rfl
abbrev zTw : List XO := [
  ⟨some 6, .p (.mov (T 0)), none⟩,
  ⟨some 7, .p (.nilc (T 6)), none⟩,
  ⟨some 8, .p (.faddr 9 (T 7)), none⟩,
  ⟨some 9, .r (.load1 (T 8)), none⟩,
  ⟨some 10, .p (.mov (T 1)), none⟩,
  ⟨some 11, .p (.lenS (T 10)), none⟩,
  ⟨some 12, .p (.cint .u64 (T 11)), none⟩,
  ⟨some 13, .p (.bin .add (T 9) (T 12)), none⟩,
  ⟨some 14, .p (.nilc (T 6)), none⟩,
  ⟨some 15, .p (.faddr 9 (T 14)), none⟩,
  ⟨none, .e (.store 1 (T 15) (T 13)), none⟩]
def xq86_1 : List XO := zTw
theorem xq86_1e : E3 xq86_1 zTw := E3.rfl
abbrev zTx : List XO := [
  ⟨some 16, .p (.mov (T 0)), none⟩,
  ⟨some 17, .p (.mov (T 0)), none⟩,
  ⟨some 18, .p (.nilc (T 17)), none⟩,
  ⟨some 19, .p (.faddr 8 (T 18)), none⟩,
  ⟨some 20, .r (.load1 (T 19)), none⟩,
  ⟨some 21, .p (.mov (T 1)), none⟩,
  ⟨some 22, .e (.append 1 1 (T 20) (T 21)), none⟩,
  ⟨some 23, .p (.nilc (T 16)), none⟩,
  ⟨some 24, .p (.faddr 8 (T 23)), none⟩,
  ⟨none, .e (.store 1 (T 24) (T 22)), none⟩]
def xq86_2 : List XO := zTx
theorem xq86_2e : E3 xq86_2 zTx := E3.rfl
abbrev zTy : List XO := [
  ⟨some 25, .p (.mov (T 0)), none⟩,
  ⟨some 26, .p (.nilc (T 25)), none⟩,
  ⟨some 27, .p (.faddr 8 (T 26)), none⟩,
  ⟨some 28, .r (.load1 (T 27)), none⟩,
  ⟨some 29, .p (.lenV (T 28)), none⟩,
  ⟨some 30, .p (.bin .geq (T 29) (C (.int .i64 64))), none⟩]
def xq86_3 : List XO := zTy
theorem xq86_3e : E3 xq86_3 zTy := E3.rfl
abbrev zTz : List XO := [
  ⟨some 31, .p (.mov (T 0)), none⟩,
  ⟨some 32, .p (.mov (T 0)), none⟩,
  ⟨some 33, .p (.nilc (T 32)), none⟩,
  ⟨some 34, .p (.faddr 8 (T 33)), none⟩,
  ⟨some 35, .r (.load1 (T 34)), none⟩,
  ⟨some 36, .p (.slc 1 (T 35) none (some (C (.int .i64 64))) none), none⟩,
  ⟨some 37, .call (.func 104) [(T 31), (T 36)], none⟩]
def xq86_4 : List XO := zTz
theorem xq86_4e : E3 xq86_4 zTz := E3.rfl
abbrev zT0 : List XO := [
  ⟨some 38, .p (.mov (T 0)), none⟩,
  ⟨some 39, .p (.mov (T 0)), none⟩,
  ⟨some 40, .p (.nilc (T 39)), none⟩,
  ⟨some 41, .p (.faddr 8 (T 40)), none⟩,
  ⟨some 42, .r (.load1 (T 41)), none⟩,
  ⟨some 43, .p (.slc 1 (T 42) (some (C (.int .i64 64))) none none), none⟩,
  ⟨some 44, .p (.nilc (T 38)), none⟩,
  ⟨some 45, .p (.faddr 8 (T 44)), none⟩,
  ⟨none, .e (.store 1 (T 45) (T 43)), none⟩]
def xq86_5 : List XO := zT0
theorem xq86_5e : E3 xq86_5 zT0 := E3.rfl
def zIQ : XC :=
  .seq (.seq (.ops xq86_3) (.cond (T 30) (.skip) (.exit 0))) (.block 1 (.seq (.ops xq86_4) (.ops xq86_5)))
def xq86_6 : XC := zIQ
theorem xq86_6k {pr : Prog} {k : List KI} {Q : XE → Fr → Heap → Prop} {t : Fr} {h : Heap} (hw : wpk pr zIQ k Q t h) : wpk pr xq86_6 k Q t h := hw
def xq86 : XF := ⟨2, [],
  .seq (.seq (.ops xq86_0) (.cond (T 5) (.ret) (.skip))) (.seq (.ops xq86_1) (.seq (.ops xq86_2) (.block 0 (.loop xq86_6))))⟩
def yq86 := PLift.up (And.intro (And.intro (@xq86_0e) (And.intro (@xq86_1e) (@xq86_2e))) (And.intro (@xq86_3e) (And.intro (@xq86_4e) (@xq86_5e))))
theorem cq86 : zb Try.prog Try.f86 = some xq86 := by kernel_rfl
abbrev zT1 : List XO := [
  ⟨some 2, .p (.mov (C (.string (zB [])))), none⟩]
def xq87_0 : List XO := zT1
theorem xq87_0e : E3 xq87_0 zT1 := E3.rfl
abbrev zUI : List XO := [
  ⟨some 9, .p (.mov (T 0)), none⟩,
  ⟨some 10, .p (.eql false .nptr (T 9) (C (.pointer none))), none⟩]
def xq87_1 : List XO := zUI
theorem xq87_1e : E3 xq87_1 zUI := E3.rfl
abbrev zUZ : List XO := [
  ⟨some 2, .p (.mov (C (.string (zB [])))), none⟩]
def xq87_2 : List XO := zUZ
theorem xq87_2e : E3 xq87_2 zUZ := E3.rfl
abbrev zUc : List XO := [
  ⟨some 11, .p (.mov (T 0)), none⟩,
  ⟨some 12, .p (.nilc (T 11)), none⟩,
  ⟨some 13, .p (.faddr 0 (T 12)), none⟩,
  ⟨some 14, .r (.loadN 8 (T 13)), none⟩,
  ⟨some 15, .p (.mov (T 0)), none⟩,
  ⟨some 16, .p (.nilc (T 15)), none⟩,
  ⟨some 17, .p (.faddr 9 (T 16)), none⟩,
  ⟨some 18, .r (.load1 (T 17)), none⟩,
  ⟨some 19, .p (.build [(.int .u32 0), (.int .u32 0), (.int .u32 0), (.int .u32 0), (.int .u32 0), (.int .u32 0), (.int .u32 0), (.int .u32 0), (.slice none 0 0), (.int .u64 0)] [(0, 8, (T 14)), (9, 1, (T 18))]), none⟩,
  ⟨some 20, .a (.box (T 19)), none⟩,
  ⟨some 3, .p (.mov (T 20)), none⟩]
def xq87_3 : List XO := zUc
theorem xq87_3e : E3 xq87_3 zUc := E3.rfl
abbrev zUd : List XO := [
  ⟨some 21, .p (.mov (T 3)), none⟩,
  ⟨some 22, .p (.mov (T 3)), none⟩,
  ⟨some 23, .p (.nilc (T 22)), none⟩,
  ⟨some 24, .p (.faddr 8 (T 23)), none⟩,
  ⟨some 25, .r (.load1 (T 24)), none⟩,
  ⟨some 26, .p (.mov (T 0)), none⟩,
  ⟨some 27, .p (.nilc (T 26)), none⟩,
  ⟨some 28, .p (.faddr 8 (T 27)), none⟩,
  ⟨some 29, .r (.load1 (T 28)), none⟩,
  ⟨some 30, .e (.append 1 1 (T 25) (T 29)), none⟩,
  ⟨some 31, .a (.bslice [(.int .u8 0)] 1 [(0, 1, (C (.int .u8 128)))]), none⟩,
  ⟨some 32, .e (.append 1 1 (T 30) (T 31)), none⟩,
  ⟨some 33, .p (.nilc (T 21)), none⟩,
  ⟨some 34, .p (.faddr 8 (T 33)), none⟩,
  ⟨none, .e (.store 1 (T 34) (T 32)), none⟩]
def xq87_4 : List XO := zUd
theorem xq87_4e : E3 xq87_4 zUd := E3.rfl
abbrev zUe : List XO := [
  ⟨some 35, .p (.mov (T 3)), none⟩,
  ⟨some 36, .p (.nilc (T 35)), none⟩,
  ⟨some 37, .p (.faddr 8 (T 36)), none⟩,
  ⟨some 38, .r (.load1 (T 37)), none⟩,
  ⟨some 39, .p (.lenV (T 38)), none⟩,
  ⟨some 40, .p (.bin .rem (T 39) (C (.int .i64 64))), none⟩,
  ⟨some 41, .p (.eql true .int (T 40) (C (.int .i64 56))), none⟩]
def xq87_5 : List XO := zUe
theorem xq87_5e : E3 xq87_5 zUe := E3.rfl
abbrev zUf : List XO := [
  ⟨some 42, .p (.mov (T 3)), none⟩,
  ⟨some 43, .p (.mov (T 3)), none⟩,
  ⟨some 44, .p (.nilc (T 43)), none⟩,
  ⟨some 45, .p (.faddr 8 (T 44)), none⟩,
  ⟨some 46, .r (.load1 (T 45)), none⟩,
  ⟨some 47, .a (.bslice [(.int .u8 0)] 1 [(0, 1, (C (.int .u8 0)))]), none⟩,
  ⟨some 48, .e (.append 1 1 (T 46) (T 47)), none⟩,
  ⟨some 49, .p (.nilc (T 42)), none⟩,
  ⟨some 50, .p (.faddr 8 (T 49)), none⟩,
  ⟨none, .e (.store 1 (T 50) (T 48)), none⟩]
def xq87_6 : List XO := zUf
theorem xq87_6e : E3 xq87_6 zUf := E3.rfl
def zIa : XC :=
  .seq (.seq (.ops xq87_5) (.cond (T 41) (.skip) (.exit 0))) (.block 1 (.ops xq87_6))
def zIZ : XC := zIa
theorem xq87_7k {pr : Prog} {k : List KI} {Q : XE → Fr → Heap → Prop} {t : Fr} {h : Heap} (hw : wpk pr zIa k Q t h) : wpk pr zIZ k Q t h := hw
abbrev zUg : List XO := [
  ⟨some 51, .p (.mov (C (.int .i64 0))), none⟩]
def xq87_8 : List XO := zUg
theorem xq87_8e : E3 xq87_8 zUg := E3.rfl
abbrev zUh : List XO := [
  ⟨some 52, .p (.bin .lss (T 51) (C (.int .i64 8))), none⟩]
def xq87_9 : List XO := zUh
theorem xq87_9e : E3 xq87_9 zUh := E3.rfl
abbrev zT3 : List XO := [
  ⟨some 53, .p (.mov (T 51)), none⟩,
  ⟨some 4, .p (.mov (T 53)), none⟩]
def zT2 : List XO := zT3
theorem xq87_10e : E3 zT2 zT3 := E3.rfl
abbrev zT5 : List XO := [
  ⟨some 54, .p (.mov (T 3)), none⟩,
  ⟨some 55, .p (.mov (T 3)), none⟩,
  ⟨some 56, .p (.nilc (T 55)), none⟩,
  ⟨some 57, .p (.faddr 8 (T 56)), none⟩,
  ⟨some 58, .r (.load1 (T 57)), none⟩,
  ⟨some 59, .p (.mov (T 3)), none⟩,
  ⟨some 60, .p (.nilc (T 59)), none⟩,
  ⟨some 61, .p (.faddr 9 (T 60)), none⟩,
  ⟨some 62, .r (.load1 (T 61)), none⟩,
  ⟨some 63, .p (.bin .mul (T 62) (C (.int .u64 8))), none⟩,
  ⟨some 64, .p (.mov (T 4)), none⟩,
  ⟨some 65, .p (.bin .sub (C (.int .i64 7)) (T 64)), none⟩,
  ⟨some 66, .p (.bin .mul (C (.int .i64 8)) (T 65)), none⟩,
  ⟨some 67, .p (.bin .shr (T 63) (T 66)), none⟩,
  ⟨some 68, .p (.cint .u8 (T 67)), none⟩,
  ⟨some 69, .a (.bslice [(.int .u8 0)] 1 [(0, 1, (T 68))]), none⟩,
  ⟨some 70, .e (.append 1 1 (T 58) (T 69)), none⟩,
  ⟨some 71, .p (.nilc (T 54)), none⟩,
  ⟨some 72, .p (.faddr 8 (T 71)), none⟩,
  ⟨none, .e (.store 1 (T 72) (T 70)), none⟩]
def zT4 : List XO := zT5
theorem xq87_11e : E3 zT4 zT5 := E3.rfl
abbrev zT7 : List XO := [
  ⟨some 73, .p (.bin .add (T 51) (C (.int .i64 1))), none⟩,
  ⟨some 51, .p (.mov (T 73)), none⟩]
def zT6 : List XO := zT7
theorem xq87_12e : E3 zT6 zT7 := E3.rfl
def zIS : XC :=
  .seq (.ops xq87_9) (.seq (.cond (T 52) (.skip) (.exit 2)) (.seq (.block 3 (.seq (.ops zT2) (.draw zT4 [(4, (16, [])), (8, (16, []))]))) (.ops zT6)))
def zIR : XC := zIS
theorem xq87_13k {pr : Prog} {k : List KI} {Q : XE → Fr → Heap → Prop} {t : Fr} {h : Heap} (hw : wpk pr zIS k Q t h) : wpk pr zIR k Q t h := hw
abbrev zT9 : List XO := [
  ⟨some 74, .p (.mov (T 3)), none⟩,
  ⟨some 75, .p (.nilc (T 74)), none⟩,
  ⟨some 76, .p (.faddr 8 (T 75)), none⟩,
  ⟨some 77, .r (.load1 (T 76)), none⟩,
  ⟨some 78, .p (.lenV (T 77)), none⟩,
  ⟨some 79, .p (.bin .gtr (T 78) (C (.int .i64 0))), none⟩]
def zT8 : List XO := zT9
theorem xq87_14e : E3 zT8 zT9 := E3.rfl
abbrev zUB : List XO := [
  ⟨some 80, .p (.mov (T 3)), none⟩,
  ⟨some 81, .p (.mov (T 3)), none⟩,
  ⟨some 82, .p (.nilc (T 81)), none⟩,
  ⟨some 83, .p (.faddr 8 (T 82)), none⟩,
  ⟨some 84, .r (.load1 (T 83)), none⟩,
  ⟨some 85, .p (.slc 1 (T 84) none (some (C (.int .i64 64))) none), none⟩,
  ⟨some 86, .call (.func 104) [(T 80), (T 85)], none⟩]
def zUA : List XO := zUB
theorem xq87_15e : E3 zUA zUB := E3.rfl
abbrev zUD : List XO := [
  ⟨some 87, .p (.mov (T 3)), none⟩,
  ⟨some 88, .p (.mov (T 3)), none⟩,
  ⟨some 89, .p (.nilc (T 88)), none⟩,
  ⟨some 90, .p (.faddr 8 (T 89)), none⟩,
  ⟨some 91, .r (.load1 (T 90)), none⟩,
  ⟨some 92, .p (.slc 1 (T 91) (some (C (.int .i64 64))) none none), none⟩,
  ⟨some 93, .p (.nilc (T 87)), none⟩,
  ⟨some 94, .p (.faddr 8 (T 93)), none⟩,
  ⟨none, .e (.store 1 (T 94) (T 92)), none⟩]
def zUC : List XO := zUD
theorem xq87_16e : E3 zUC zUD := E3.rfl
def zIU : XC :=
  .seq (.seq (.ops zT8) (.cond (T 79) (.skip) (.exit 4))) (.block 5 (.seq (.ops zUA) (.ops zUC)))
def zIT : XC := zIU
theorem xq87_17k {pr : Prog} {k : List KI} {Q : XE → Fr → Heap → Prop} {t : Fr} {h : Heap} (hw : wpk pr zIU k Q t h) : wpk pr zIT k Q t h := hw
abbrev zUF : List XO := [
  ⟨some 5, .p (.mov (C (.slice none 0 0))), none⟩]
def zUE : List XO := zUF
theorem xq87_18e : E3 zUE zUF := E3.rfl
abbrev zUH : List XO := [
  ⟨some 95, .p (.mov (T 3)), none⟩,
  ⟨some 96, .p (.nilc (T 95)), none⟩,
  ⟨some 97, .p (.faddr 0 (T 96)), none⟩,
  ⟨some 98, .r (.loadN 8 (T 97)), none⟩,
  ⟨some 99, .p (.mov (C (.int .i64 0))), none⟩]
def zUG : List XO := zUH
theorem xq87_19e : E3 zUG zUH := E3.rfl
abbrev zUK : List XO := [
  ⟨some 100, .p (.bin .lss (T 99) (C (.int .i64 8))), none⟩]
def zUJ : List XO := zUK
theorem xq87_20e : E3 zUJ zUK := E3.rfl
abbrev zUM : List XO := [
  ⟨some 101, .p (.idxA1 8 (T 98) (T 99)), none⟩,
  ⟨some 7, .p (.mov (T 101)), none⟩]
def zUL : List XO := zUM
theorem xq87_21e : E3 zUL zUM := E3.rfl
abbrev zUO : List XO := [
  ⟨some 102, .p (.mov (C (.int .i64 0))), none⟩]
def zUN : List XO := zUO
theorem xq87_22e : E3 zUN zUO := E3.rfl
abbrev zUQ : List XO := [
  ⟨some 103, .p (.bin .lss (T 102) (C (.int .i64 4))), none⟩]
def zUP : List XO := zUQ
theorem xq87_23e : E3 zUP zUQ := E3.rfl
abbrev zUS : List XO := [
  ⟨some 104, .p (.mov (T 102)), none⟩,
  ⟨some 8, .p (.mov (T 104)), none⟩]
def zUR : List XO := zUS
theorem xq87_24e : E3 zUR zUS := E3.rfl
abbrev zUU : List XO := [
  ⟨some 105, .p (.mov (T 5)), none⟩,
  ⟨some 106, .p (.mov (T 7)), none⟩,
  ⟨some 107, .p (.mov (T 8)), none⟩,
  ⟨some 108, .p (.bin .sub (C (.int .i64 3)) (T 107)), none⟩,
  ⟨some 109, .p (.bin .mul (C (.int .i64 8)) (T 108)), none⟩,
  ⟨some 110, .p (.bin .shr (T 106) (T 109)), none⟩,
  ⟨some 111, .p (.cint .u8 (T 110)), none⟩,
  ⟨some 112, .a (.bslice [(.int .u8 0)] 1 [(0, 1, (T 111))]), none⟩,
  ⟨some 113, .e (.append 1 1 (T 105) (T 112)), none⟩,
  ⟨some 5, .p (.mov (T 113)), none⟩]
def zUT : List XO := zUU
theorem xq87_25e : E3 zUT zUU := E3.rfl
abbrev zUW : List XO := [
  ⟨some 114, .p (.bin .add (T 102) (C (.int .i64 1))), none⟩,
  ⟨some 102, .p (.mov (T 114)), none⟩]
def zUV : List XO := zUW
theorem xq87_26e : E3 zUV zUW := E3.rfl
def zIW : XC :=
  .seq (.ops zUP) (.seq (.cond (T 103) (.skip) (.exit 8)) (.seq (.block 9 (.seq (.ops zUR) (.ops zUT))) (.ops zUV)))
def zIV : XC := zIW
theorem xq87_27k {pr : Prog} {k : List KI} {Q : XE → Fr → Heap → Prop} {t : Fr} {h : Heap} (hw : wpk pr zIW k Q t h) : wpk pr zIV k Q t h := hw
abbrev zUY : List XO := [
  ⟨some 115, .p (.bin .add (T 99) (C (.int .i64 1))), none⟩,
  ⟨some 99, .p (.mov (T 115)), none⟩]
def zUX : List XO := zUY
theorem xq87_28e : E3 zUX zUY := E3.rfl
def zIY : XC :=
  .seq (.ops zUJ) (.seq (.cond (T 100) (.skip) (.exit 6)) (.seq (.block 7 (.seq (.ops zUL) (.seq (.ops zUN) (.block 8 (.loop zIV))))) (.ops zUX)))
def zIX : XC := zIY
theorem xq87_29k {pr : Prog} {k : List KI} {Q : XE → Fr → Heap → Prop} {t : Fr} {h : Heap} (hw : wpk pr zIY k Q t h) : wpk pr zIX k Q t h := hw
abbrev zUb : List XO := [
  ⟨some 116, .p (.mov (T 5)), none⟩,
  ⟨some 117, .r (.cb2s (T 116)), none⟩,
  ⟨some 2, .p (.mov (T 117)), none⟩]
def zUa : List XO := zUb
theorem xq87_30e : E3 zUa zUb := E3.rfl
def xq87 : XF := ⟨1, [.tmp 2],
  .seq (.ops xq87_0) (.seq (.seq (.ops xq87_1) (.cond (T 10) (.seq (.ops xq87_2) (.ret)) (.skip))) (.seq (.draw xq87_3 [(3, (11, [])), (7, (11, []))]) (.seq (.draw xq87_4 []) (.seq (.block 0 (.loop zIZ)) (.seq (.seq (.ops xq87_8) (.block 2 (.loop zIR))) (.seq (.block 4 (.loop zIT)) (.seq (.ops zUE) (.seq (.seq (.ops zUG) (.block 6 (.loop zIX))) (.seq (.ops zUa) (.ret))))))))))⟩
def yq87 := PLift.up (And.intro (And.intro (And.intro (And.intro (@xq87_0e) (And.intro (@xq87_1e) (@xq87_2e))) (And.intro (@xq87_3e) (And.intro (@xq87_4e) (@xq87_5e)))) (And.intro (And.intro (@xq87_6e) (And.intro (@xq87_8e) (@xq87_9e))) (And.intro (And.intro (@xq87_10e) (@xq87_11e)) (And.intro (@xq87_12e) (@xq87_14e))))) (And.intro (And.intro (And.intro (@xq87_15e) (And.intro (@xq87_16e) (@xq87_18e))) (And.intro (@xq87_19e) (And.intro (@xq87_20e) (@xq87_21e)))) (And.intro (And.intro (@xq87_22e) (And.intro (@xq87_23e) (@xq87_24e))) (And.intro (And.intro (@xq87_25e) (@xq87_26e)) (And.intro (@xq87_28e) (@xq87_30e))))))
theorem cq87 : zb Try.prog Try.f87 = some xq87 := by kernel_rfl
abbrev zSQ : List XO := [
  ⟨some 2, .p (.mov (C (.string (zB [])))), none⟩]
def xq59_0 : List XO := zSQ
theorem xq59_0e : E3 xq59_0 zSQ := E3.rfl
abbrev zSR : List XO := [
  ⟨some 4, .call (.func 85) [], none⟩,
  ⟨some 3, .p (.mov (T 4)), none⟩]
def xq59_1 : List XO := zSR
theorem xq59_1e : E3 xq59_1 zSR := E3.rfl
abbrev zSS : List XO := [
  ⟨some 5, .p (.mov (T 3)), none⟩,
  ⟨some 6, .p (.mov (T 0)), none⟩,
  ⟨some 7, .call (.func 86) [(T 5), (T 6)], none⟩]
def xq59_2 : List XO := zSS
theorem xq59_2e : E3 xq59_2 zSS := E3.rfl
abbrev zST : List XO := [
  ⟨some 8, .p (.mov (T 3)), none⟩,
  ⟨some 9, .call (.func 87) [(T 8)], none⟩,
  ⟨some 2, .p (.mov (T 9)), none⟩]
def xq59_3 : List XO := zST
theorem xq59_3e : E3 xq59_3 zST := E3.rfl
def xq59 : XF := ⟨1, [.tmp 2],
  .seq (.ops xq59_0) (.seq (.ops xq59_1) (.seq (.ops xq59_2) (.seq (.ops xq59_3) (.ret))))⟩
def yq59 := PLift.up (And.intro (And.intro (@xq59_0e) (@xq59_1e)) (And.intro (@xq59_2e) (@xq59_3e)))
theorem cq59 : zb Try.prog Try.f59 = some xq59 := by kernel_rfl
abbrev zSg : List XO := [
  ⟨some 4, .p (.mov (C (.int .u32 0))), none⟩]
def xq62_0 : List XO := zSg
theorem xq62_0e : E3 xq62_0 zSg := E3.rfl
abbrev zSh : List XO := [
  ⟨some 5, .p (.mov (T 0)), none⟩,
  ⟨some 6, .p (.mov (T 1)), none⟩,
  ⟨some 7, .p (.bin .shr (T 5) (T 6)), none⟩,
  ⟨some 8, .p (.mov (T 0)), none⟩,
  ⟨some 9, .p (.mov (T 1)), none⟩,
  ⟨some 10, .p (.bin .sub (C (.int .u64 32)) (T 9)), none⟩,
  ⟨some 11, .p (.bin .shl (T 8) (T 10)), none⟩,
  ⟨some 12, .p (.bin .or (T 7) (T 11)), none⟩,
  ⟨some 4, .p (.mov (T 12)), none⟩]
def xq62_1 : List XO := zSh
theorem xq62_1e : E3 xq62_1 zSh := E3.rfl
def xq62 : XF := ⟨2, [.tmp 4],
  .seq (.ops xq62_0) (.seq (.ops xq62_1) (.ret))⟩
def yq62 := PLift.up (And.intro (@xq62_0e) (@xq62_1e))
theorem cq62 : zb Try.prog Try.f62 = some xq62 := by kernel_rfl
abbrev zSe : List XO := [
  ⟨some 0, .a (.alloc (List.replicate 64 (.int .u32 0))), none⟩,
  ⟨some 1, .a (.alloc (List.replicate 8 (.int .u32 0))), none⟩]
def xq61_0 : List XO := zSe
theorem xq61_0e : E3 xq61_0 zSe := E3.rfl
abbrev zSf : List XO := [
  ⟨some 2, .p (.build (List.replicate 64 (.int .u32 0)) [(0, 1, (C (.int .u32 1116352408))), (1, 1, (C (.int .u32 1899447441))), (2, 1, (C (.int .u32 3049323471))), (3, 1, (C (.int .u32 3921009573))), (4, 1, (C (.int .u32 961987163))), (5, 1, (C (.int .u32 1508970993))), (6, 1, (C (.int .u32 2453635748))), (7, 1, (C (.int .u32 2870763221))), (8, 1, (C (.int .u32 3624381080))), (9, 1, (C (.int .u32 310598401))), (10, 1, (C (.int .u32 607225278))), (11, 1, (C (.int .u32 1426881987))), (12, 1, (C (.int .u32 1925078388))), (13, 1, (C (.int .u32 2162078206))), (14, 1, (C (.int .u32 2614888103))), (15, 1, (C (.int .u32 3248222580))), (16, 1, (C (.int .u32 3835390401))), (17, 1, (C (.int .u32 4022224774))), (18, 1, (C (.int .u32 264347078))), (19, 1, (C (.int .u32 604807628))), (20, 1, (C (.int .u32 770255983))), (21, 1, (C (.int .u32 1249150122))), (22, 1, (C (.int .u32 1555081692))), (23, 1, (C (.int .u32 1996064986))), (24, 1, (C (.int .u32 2554220882))), (25, 1, (C (.int .u32 2821834349))), (26, 1, (C (.int .u32 2952996808))), (27, 1, (C (.int .u32 3210313671))), (28, 1, (C (.int .u32 3336571891))), (29, 1, (C (.int .u32 3584528711))), (30, 1, (C (.int .u32 113926993))), (31, 1, (C (.int .u32 338241895))), (32, 1, (C (.int .u32 666307205))), (33, 1, (C (.int .u32 773529912))), (34, 1, (C (.int .u32 1294757372))), (35, 1, (C (.int .u32 1396182291))), (36, 1, (C (.int .u32 1695183700))), (37, 1, (C (.int .u32 1986661051))), (38, 1, (C (.int .u32 2177026350))), (39, 1, (C (.int .u32 2456956037))), (40, 1, (C (.int .u32 2730485921))), (41, 1, (C (.int .u32 2820302411))), (42, 1, (C (.int .u32 3259730800))), (43, 1, (C (.int .u32 3345764771))), (44, 1, (C (.int .u32 3516065817))), (45, 1, (C (.int .u32 3600352804))), (46, 1, (C (.int .u32 4094571909))), (47, 1, (C (.int .u32 275423344))), (48, 1, (C (.int .u32 430227734))), (49, 1, (C (.int .u32 506948616))), (50, 1, (C (.int .u32 659060556))), (51, 1, (C (.int .u32 883997877))), (52, 1, (C (.int .u32 958139571))), (53, 1, (C (.int .u32 1322822218))), (54, 1, (C (.int .u32 1537002063))), (55, 1, (C (.int .u32 1747873779))), (56, 1, (C (.int .u32 1955562222))), (57, 1, (C (.int .u32 2024104815))), (58, 1, (C (.int .u32 2227730452))), (59, 1, (C (.int .u32 2361852424))), (60, 1, (C (.int .u32 2428436474))), (61, 1, (C (.int .u32 2756734187))), (62, 1, (C (.int .u32 3204031479))), (63, 1, (C (.int .u32 3329325298)))]), none⟩,
  ⟨some 3, .p (.build (List.replicate 8 (.int .u32 0)) [(0, 1, (C (.int .u32 1779033703))), (1, 1, (C (.int .u32 3144134277))), (2, 1, (C (.int .u32 1013904242))), (3, 1, (C (.int .u32 2773480762))), (4, 1, (C (.int .u32 1359893119))), (5, 1, (C (.int .u32 2600822924))), (6, 1, (C (.int .u32 528734635))), (7, 1, (C (.int .u32 1541459225)))]), none⟩,
  ⟨none, .e (.store 64 (T 0) (T 2)), none⟩,
  ⟨none, .e (.store 8 (T 1) (T 3)), none⟩]
def xq61_1 : List XO := zSf
theorem xq61_1e : E3 xq61_1 zSf := E3.rfl
def xq61 : XF := ⟨0, [.cellN 0 64, .cellN 1 8],
  .seq (.ops xq61_0) (.seq (.ops xq61_1) (.ret))⟩
def yq61 := PLift.up (And.intro (@xq61_0e) (@xq61_1e))
theorem cq61 : zb Try.prog Try.f61 = some xq61 := by kernel_rfl
abbrev zOS : List XO := [
  ⟨some 2, .p (.mov (C (.string (zB [])))), none⟩]
def xq18_0 : List XO := zOS
theorem xq18_0e : E3 xq18_0 zOS := E3.rfl
abbrev zOl : List XO := [
  ⟨some 25, .call (.func 61) [], none⟩,
  ⟨some 24, .p (.mov (T 25)), none⟩,
  ⟨some 26, .p (.ext (T 24) 0), none⟩,
  ⟨some 27, .p (.ext (T 24) 1), none⟩,
  ⟨some 3, .a (.alloc (List.replicate 64 (.int .u32 0))), none⟩,
  ⟨some 4, .a (.alloc (List.replicate 8 (.int .u32 0))), none⟩,
  ⟨none, .e (.store 64 (T 3) (T 26)), none⟩,
  ⟨none, .e (.store 8 (T 4) (T 27)), none⟩]
def xq18_1 : List XO := zOl
theorem xq18_1e : E3 xq18_1 zOl := E3.rfl
abbrev zO4 : List XO := [
  ⟨some 28, .p (.mov (T 0)), none⟩,
  ⟨some 29, .a (.cs2b (T 28)), none⟩,
  ⟨some 5, .p (.mov (T 29)), none⟩]
def xq18_2 : List XO := zO4
theorem xq18_2e : E3 xq18_2 zO4 := E3.rfl
abbrev zPN : List XO := [
  ⟨some 30, .p (.mov (T 5)), none⟩,
  ⟨some 31, .a (.bslice [(.int .u8 0)] 1 [(0, 1, (C (.int .u8 128)))]), none⟩,
  ⟨some 32, .e (.append 1 1 (T 30) (T 31)), none⟩,
  ⟨some 5, .p (.mov (T 32)), none⟩]
def xq18_3 : List XO := zPN
theorem xq18_3e : E3 xq18_3 zPN := E3.rfl
abbrev zPc : List XO := [
  ⟨some 33, .p (.mov (T 5)), none⟩,
  ⟨some 34, .p (.lenV (T 33)), none⟩,
  ⟨some 35, .p (.bin .rem (T 34) (C (.int .i64 64))), none⟩,
  ⟨some 36, .p (.eql true .int (T 35) (C (.int .i64 56))), none⟩]
def xq18_4 : List XO := zPc
theorem xq18_4e : E3 xq18_4 zPc := E3.rfl
abbrev zPn : List XO := [
  ⟨some 37, .p (.mov (T 5)), none⟩,
  ⟨some 38, .a (.bslice [(.int .u8 0)] 1 [(0, 1, (C (.int .u8 0)))]), none⟩,
  ⟨some 39, .e (.append 1 1 (T 37) (T 38)), none⟩,
  ⟨some 5, .p (.mov (T 39)), none⟩]
def xq18_5 : List XO := zPn
theorem xq18_5e : E3 xq18_5 zPn := E3.rfl
def zHy : XC :=
  .seq (.seq (.ops xq18_4) (.cond (T 36) (.skip) (.exit 0))) (.block 1 (.ops xq18_5))
def zHx : XC := zHy
theorem xq18_6k {pr : Prog} {k : List KI} {Q : XE → Fr → Heap → Prop} {t : Fr} {h : Heap} (hw : wpk pr zHy k Q t h) : wpk pr zHx k Q t h := hw
abbrev zPo : List XO := [
  ⟨some 40, .p (.mov (T 0)), none⟩,
  ⟨some 41, .p (.lenS (T 40)), none⟩,
  ⟨some 42, .p (.cint .u64 (T 41)), none⟩,
  ⟨some 43, .p (.bin .mul (T 42) (C (.int .u64 8))), none⟩,
  ⟨some 6, .p (.mov (T 43)), none⟩]
def xq18_7 : List XO := zPo
theorem xq18_7e : E3 xq18_7 zPo := E3.rfl
abbrev zPp : List XO := [
  ⟨some 7, .p (.mov (C (.int .i64 7))), none⟩]
def xq18_8 : List XO := zPp
theorem xq18_8e : E3 xq18_8 zPp := E3.rfl
abbrev zPq : List XO := [
  ⟨some 44, .p (.mov (T 7)), none⟩,
  ⟨some 45, .p (.bin .geq (T 44) (C (.int .i64 0))), none⟩]
def xq18_9 : List XO := zPq
theorem xq18_9e : E3 xq18_9 zPq := E3.rfl
abbrev zOU : List XO := [
  ⟨some 48, .p (.mov (T 5)), none⟩,
  ⟨some 49, .p (.mov (T 6)), none⟩,
  ⟨some 50, .p (.mov (T 7)), none⟩,
  ⟨some 51, .p (.bin .mul (C (.int .i64 8)) (T 50)), none⟩,
  ⟨some 52, .p (.cint .u64 (T 51)), none⟩,
  ⟨some 53, .p (.bin .shr (T 49) (T 52)), none⟩,
  ⟨some 54, .p (.cint .u8 (T 53)), none⟩,
  ⟨some 55, .a (.bslice [(.int .u8 0)] 1 [(0, 1, (T 54))]), none⟩,
  ⟨some 56, .e (.append 1 1 (T 48) (T 55)), none⟩,
  ⟨some 5, .p (.mov (T 56)), none⟩]
def zOT : List XO := zOU
theorem xq18_10e : E3 zOT zOU := E3.rfl
abbrev zOW : List XO := [
  ⟨some 46, .p (.mov (T 7)), none⟩,
  ⟨some 47, .p (.bin .sub (T 46) (C (.int .i64 1))), none⟩,
  ⟨some 7, .p (.mov (T 47)), none⟩]
def zOV : List XO := zOW
theorem xq18_11e : E3 zOV zOW := E3.rfl
def zHk : XC :=
  .seq (.seq (.ops xq18_9) (.cond (T 45) (.skip) (.exit 2))) (.seq (.block 3 (.ops zOT)) (.ops zOV))
def zHj : XC := zHk
theorem xq18_12k {pr : Prog} {k : List KI} {Q : XE → Fr → Heap → Prop} {t : Fr} {h : Heap} (hw : wpk pr zHk k Q t h) : wpk pr zHj k Q t h := hw
abbrev zOY : List XO := [
  ⟨some 8, .p (.mov (C (.int .i64 0))), none⟩]
def zOX : List XO := zOY
theorem xq18_13e : E3 zOX zOY := E3.rfl
abbrev zOa : List XO := [
  ⟨some 57, .p (.mov (T 8)), none⟩,
  ⟨some 58, .p (.mov (T 5)), none⟩,
  ⟨some 59, .p (.lenV (T 58)), none⟩,
  ⟨some 60, .p (.bin .lss (T 57) (T 59)), none⟩]
def zOZ : List XO := zOa
theorem xq18_14e : E3 zOZ zOa := E3.rfl
abbrev zOc : List XO := [
  ⟨some 63, .p (.build (List.replicate 64 (.int .u32 0)) []), none⟩,
  ⟨some 9, .a (.alloc (List.replicate 64 (.int .u32 0))), none⟩,
  ⟨none, .e (.store 64 (T 9) (T 63)), none⟩]
def zOb : List XO := zOc
theorem xq18_15e : E3 zOb zOc := E3.rfl
abbrev zOe : List XO := [
  ⟨some 10, .p (.mov (C (.int .i64 0))), none⟩]
def zOd : List XO := zOe
theorem xq18_16e : E3 zOd zOe := E3.rfl
abbrev zOg : List XO := [
  ⟨some 64, .p (.mov (T 10)), none⟩,
  ⟨some 65, .p (.bin .lss (T 64) (C (.int .i64 64))), none⟩]
def zOf : List XO := zOg
theorem xq18_17e : E3 zOf zOg := E3.rfl
abbrev zOi : List XO := [
  ⟨some 68, .p (.mov (T 10)), none⟩,
  ⟨some 69, .p (.bin .lss (T 68) (C (.int .i64 16))), none⟩]
def zOh : List XO := zOi
theorem xq18_18e : E3 zOh zOi := E3.rfl
abbrev zOk : List XO := [
  ⟨some 70, .p (.mov (T 5)), none⟩,
  ⟨some 71, .p (.mov (T 8)), none⟩,
  ⟨some 72, .p (.mov (T 10)), none⟩,
  ⟨some 73, .p (.bin .mul (C (.int .i64 4)) (T 72)), none⟩,
  ⟨some 74, .p (.bin .add (T 71) (T 73)), none⟩,
  ⟨some 75, .p (.mov (T 8)), none⟩,
  ⟨some 76, .p (.mov (T 10)), none⟩,
  ⟨some 77, .p (.bin .mul (C (.int .i64 4)) (T 76)), none⟩,
  ⟨some 78, .p (.bin .add (T 75) (T 77)), none⟩,
  ⟨some 79, .p (.bin .add (T 78) (C (.int .i64 4))), none⟩,
  ⟨some 80, .p (.slc 1 (T 70) (some (T 74)) (some (T 79)) none), none⟩,
  ⟨some 11, .p (.mov (T 80)), none⟩]
def zOj : List XO := zOk
theorem xq18_19e : E3 zOj zOk := E3.rfl
abbrev zOn : List XO := [
  ⟨some 81, .p (.mov (T 10)), none⟩,
  ⟨some 82, .p (.mov (T 11)), none⟩,
  ⟨some 83, .p (.iaddrS 1 (T 82) (C (.int .i64 0))), none⟩,
  ⟨some 84, .r (.load1 (T 83)), none⟩,
  ⟨some 85, .p (.cint .u32 (T 84)), none⟩,
  ⟨some 86, .p (.bin .shl (T 85) (C (.int .u64 24))), none⟩,
  ⟨some 87, .p (.mov (T 11)), none⟩,
  ⟨some 88, .p (.iaddrS 1 (T 87) (C (.int .i64 1))), none⟩,
  ⟨some 89, .r (.load1 (T 88)), none⟩,
  ⟨some 90, .p (.cint .u32 (T 89)), none⟩,
  ⟨some 91, .p (.bin .shl (T 90) (C (.int .u64 16))), none⟩,
  ⟨some 92, .p (.bin .or (T 86) (T 91)), none⟩,
  ⟨some 93, .p (.mov (T 11)), none⟩,
  ⟨some 94, .p (.iaddrS 1 (T 93) (C (.int .i64 2))), none⟩,
  ⟨some 95, .r (.load1 (T 94)), none⟩,
  ⟨some 96, .p (.cint .u32 (T 95)), none⟩,
  ⟨some 97, .p (.bin .shl (T 96) (C (.int .u64 8))), none⟩,
  ⟨some 98, .p (.bin .or (T 92) (T 97)), none⟩,
  ⟨some 99, .p (.mov (T 11)), none⟩,
  ⟨some 100, .p (.iaddrS 1 (T 99) (C (.int .i64 3))), none⟩,
  ⟨some 101, .r (.load1 (T 100)), none⟩,
  ⟨some 102, .p (.cint .u32 (T 101)), none⟩,
  ⟨some 103, .p (.bin .or (T 98) (T 102)), none⟩,
  ⟨some 104, .p (.iaddrA 64 1 (T 9) (T 81)), none⟩,
  ⟨none, .e (.store 1 (T 104) (T 103)), none⟩]
def zOm : List XO := zOn
theorem xq18_20e : E3 zOm zOn := E3.rfl
abbrev zOp : List XO := [
  ⟨some 105, .p (.mov (T 10)), none⟩,
  ⟨some 106, .p (.bin .sub (T 105) (C (.int .i64 15))), none⟩,
  ⟨some 107, .p (.iaddrA 64 1 (T 9) (T 106)), none⟩,
  ⟨some 108, .r (.load1 (T 107)), none⟩,
  ⟨some 109, .call (.func 62) [(T 108), (C (.int .u64 7))], none⟩,
  ⟨some 110, .p (.mov (T 10)), none⟩,
  ⟨some 111, .p (.bin .sub (T 110) (C (.int .i64 15))), none⟩,
  ⟨some 112, .p (.iaddrA 64 1 (T 9) (T 111)), none⟩,
  ⟨some 113, .r (.load1 (T 112)), none⟩,
  ⟨some 114, .call (.func 62) [(T 113), (C (.int .u64 18))], none⟩,
  ⟨some 115, .p (.bin .xor (T 109) (T 114)), none⟩,
  ⟨some 116, .p (.mov (T 10)), none⟩,
  ⟨some 117, .p (.bin .sub (T 116) (C (.int .i64 15))), none⟩,
  ⟨some 118, .p (.iaddrA 64 1 (T 9) (T 117)), none⟩,
  ⟨some 119, .r (.load1 (T 118)), none⟩,
  ⟨some 120, .p (.bin .shr (T 119) (C (.int .u64 3))), none⟩,
  ⟨some 121, .p (.bin .xor (T 115) (T 120)), none⟩,
  ⟨some 12, .p (.mov (T 121)), none⟩]
def zOo : List XO := zOp
theorem xq18_21e : E3 zOo zOp := E3.rfl
abbrev zOr : List XO := [
  ⟨some 122, .p (.mov (T 10)), none⟩,
  ⟨some 123, .p (.bin .sub (T 122) (C (.int .i64 2))), none⟩,
  ⟨some 124, .p (.iaddrA 64 1 (T 9) (T 123)), none⟩,
  ⟨some 125, .r (.load1 (T 124)), none⟩,
  ⟨some 126, .call (.func 62) [(T 125), (C (.int .u64 17))], none⟩,
  ⟨some 127, .p (.mov (T 10)), none⟩,
  ⟨some 128, .p (.bin .sub (T 127) (C (.int .i64 2))), none⟩,
  ⟨some 129, .p (.iaddrA 64 1 (T 9) (T 128)), none⟩,
  ⟨some 130, .r (.load1 (T 129)), none⟩,
  ⟨some 131, .call (.func 62) [(T 130), (C (.int .u64 19))], none⟩,
  ⟨some 132, .p (.bin .xor (T 126) (T 131)), none⟩,
  ⟨some 133, .p (.mov (T 10)), none⟩,
  ⟨some 134, .p (.bin .sub (T 133) (C (.int .i64 2))), none⟩,
  ⟨some 135, .p (.iaddrA 64 1 (T 9) (T 134)), none⟩,
  ⟨some 136, .r (.load1 (T 135)), none⟩,
  ⟨some 137, .p (.bin .shr (T 136) (C (.int .u64 10))), none⟩,
  ⟨some 138, .p (.bin .xor (T 132) (T 137)), none⟩,
  ⟨some 13, .p (.mov (T 138)), none⟩]
def zOq : List XO := zOr
theorem xq18_22e : E3 zOq zOr := E3.rfl
abbrev zOt : List XO := [
  ⟨some 139, .p (.mov (T 10)), none⟩,
  ⟨some 140, .p (.mov (T 10)), none⟩,
  ⟨some 141, .p (.bin .sub (T 140) (C (.int .i64 16))), none⟩,
  ⟨some 142, .p (.iaddrA 64 1 (T 9) (T 141)), none⟩,
  ⟨some 143, .r (.load1 (T 142)), none⟩,
  ⟨some 144, .p (.mov (T 12)), none⟩,
  ⟨some 145, .p (.bin .add (T 143) (T 144)), none⟩,
  ⟨some 146, .p (.mov (T 10)), none⟩,
  ⟨some 147, .p (.bin .sub (T 146) (C (.int .i64 7))), none⟩,
  ⟨some 148, .p (.iaddrA 64 1 (T 9) (T 147)), none⟩,
  ⟨some 149, .r (.load1 (T 148)), none⟩,
  ⟨some 150, .p (.bin .add (T 145) (T 149)), none⟩,
  ⟨some 151, .p (.mov (T 13)), none⟩,
  ⟨some 152, .p (.bin .add (T 150) (T 151)), none⟩,
  ⟨some 153, .p (.iaddrA 64 1 (T 9) (T 139)), none⟩,
  ⟨none, .e (.store 1 (T 153) (T 152)), none⟩]
def zOs : List XO := zOt
theorem xq18_23e : E3 zOs zOt := E3.rfl
abbrev zOv : List XO := [
  ⟨some 66, .p (.mov (T 10)), none⟩,
  ⟨some 67, .p (.bin .add (T 66) (C (.int .i64 1))), none⟩,
  ⟨some 10, .p (.mov (T 67)), none⟩]
def zOu : List XO := zOv
theorem xq18_24e : E3 zOu zOv := E3.rfl
def zHm : XC :=
  .seq (.seq (.ops zOf) (.cond (T 65) (.skip) (.exit 6))) (.seq (.block 7 (.seq (.seq (.ops zOh) (.cond (T 69) (.seq (.ops zOj) (.seq (.draw zOm []) (.exit 7))) (.skip))) (.seq (.draw zOo [(8, (4, [])), (14, (4, [])), (14, (9, []))]) (.seq (.draw zOq [(8, (4, [])), (14, (4, [])), (14, (9, []))]) (.draw zOs []))))) (.ops zOu))
def zHl : XC := zHm
theorem xq18_25k {pr : Prog} {k : List KI} {Q : XE → Fr → Heap → Prop} {t : Fr} {h : Heap} (hw : wpk pr zHm k Q t h) : wpk pr zHl k Q t h := hw
abbrev zOx : List XO := [
  ⟨some 154, .r (.loadN 8 (T 4)), none⟩,
  ⟨some 14, .a (.alloc (List.replicate 8 (.int .u32 0))), none⟩,
  ⟨none, .e (.store 8 (T 14) (T 154)), none⟩]
def zOw : List XO := zOx
theorem xq18_26e : E3 zOw zOx := E3.rfl
abbrev zOz : List XO := [
  ⟨some 15, .p (.mov (C (.int .i64 0))), none⟩]
def zOy : List XO := zOz
theorem xq18_27e : E3 zOy zOz := E3.rfl
abbrev zO1 : List XO := [
  ⟨some 155, .p (.mov (T 15)), none⟩,
  ⟨some 156, .p (.bin .lss (T 155) (C (.int .i64 64))), none⟩]
def zO0 : List XO := zO1
theorem xq18_28e : E3 zO0 zO1 := E3.rfl
abbrev zO3 : List XO := [
  ⟨some 159, .p (.iaddrA 8 1 (T 14) (C (.int .i64 4))), none⟩,
  ⟨some 160, .r (.load1 (T 159)), none⟩,
  ⟨some 161, .call (.func 62) [(T 160), (C (.int .u64 6))], none⟩,
  ⟨some 162, .p (.iaddrA 8 1 (T 14) (C (.int .i64 4))), none⟩,
  ⟨some 163, .r (.load1 (T 162)), none⟩,
  ⟨some 164, .call (.func 62) [(T 163), (C (.int .u64 11))], none⟩,
  ⟨some 165, .p (.bin .xor (T 161) (T 164)), none⟩,
  ⟨some 166, .p (.iaddrA 8 1 (T 14) (C (.int .i64 4))), none⟩,
  ⟨some 167, .r (.load1 (T 166)), none⟩,
  ⟨some 168, .call (.func 62) [(T 167), (C (.int .u64 25))], none⟩,
  ⟨some 169, .p (.bin .xor (T 165) (T 168)), none⟩,
  ⟨some 16, .p (.mov (T 169)), none⟩]
def zO2 : List XO := zO3
theorem xq18_29e : E3 zO2 zO3 := E3.rfl
abbrev zO6 : List XO := [
  ⟨some 170, .p (.iaddrA 8 1 (T 14) (C (.int .i64 7))), none⟩,
  ⟨some 171, .r (.load1 (T 170)), none⟩,
  ⟨some 172, .p (.mov (T 16)), none⟩,
  ⟨some 173, .p (.bin .add (T 171) (T 172)), none⟩,
  ⟨some 174, .p (.iaddrA 8 1 (T 14) (C (.int .i64 4))), none⟩,
  ⟨some 175, .r (.load1 (T 174)), none⟩,
  ⟨some 176, .p (.iaddrA 8 1 (T 14) (C (.int .i64 5))), none⟩,
  ⟨some 177, .r (.load1 (T 176)), none⟩,
  ⟨some 178, .p (.bin .and (T 175) (T 177)), none⟩,
  ⟨some 179, .p (.iaddrA 8 1 (T 14) (C (.int .i64 4))), none⟩,
  ⟨some 180, .r (.load1 (T 179)), none⟩,
  ⟨some 181, .p (.bin .sub (C (.int .u32 4294967295)) (T 180)), none⟩,
  ⟨some 182, .p (.iaddrA 8 1 (T 14) (C (.int .i64 6))), none⟩,
  ⟨some 183, .r (.load1 (T 182)), none⟩,
  ⟨some 184, .p (.bin .and (T 181) (T 183)), none⟩,
  ⟨some 185, .p (.bin .xor (T 178) (T 184)), none⟩,
  ⟨some 186, .p (.bin .add (T 173) (T 185)), none⟩,
  ⟨some 187, .p (.mov (T 15)), none⟩,
  ⟨some 188, .p (.iaddrA 64 1 (T 3) (T 187)), none⟩,
  ⟨some 189, .r (.load1 (T 188)), none⟩,
  ⟨some 190, .p (.bin .add (T 186) (T 189)), none⟩,
  ⟨some 191, .p (.mov (T 15)), none⟩,
  ⟨some 192, .p (.iaddrA 64 1 (T 9) (T 191)), none⟩,
  ⟨some 193, .r (.load1 (T 192)), none⟩,
  ⟨some 194, .p (.bin .add (T 190) (T 193)), none⟩,
  ⟨some 17, .p (.mov (T 194)), none⟩]
def zO5 : List XO := zO6
theorem xq18_30e : E3 zO5 zO6 := E3.rfl
abbrev zO8 : List XO := [
  ⟨some 195, .p (.iaddrA 8 1 (T 14) (C (.int .i64 0))), none⟩,
  ⟨some 196, .r (.load1 (T 195)), none⟩,
  ⟨some 197, .call (.func 62) [(T 196), (C (.int .u64 2))], none⟩,
  ⟨some 198, .p (.iaddrA 8 1 (T 14) (C (.int .i64 0))), none⟩,
  ⟨some 199, .r (.load1 (T 198)), none⟩,
  ⟨some 200, .call (.func 62) [(T 199), (C (.int .u64 13))], none⟩,
  ⟨some 201, .p (.bin .xor (T 197) (T 200)), none⟩,
  ⟨some 202, .p (.iaddrA 8 1 (T 14) (C (.int .i64 0))), none⟩,
  ⟨some 203, .r (.load1 (T 202)), none⟩,
  ⟨some 204, .call (.func 62) [(T 203), (C (.int .u64 22))], none⟩,
  ⟨some 205, .p (.bin .xor (T 201) (T 204)), none⟩,
  ⟨some 18, .p (.mov (T 205)), none⟩]
def zO7 : List XO := zO8
theorem xq18_31e : E3 zO7 zO8 := E3.rfl
abbrev zPA : List XO := [
  ⟨some 206, .p (.mov (T 18)), none⟩,
  ⟨some 207, .p (.iaddrA 8 1 (T 14) (C (.int .i64 0))), none⟩,
  ⟨some 208, .r (.load1 (T 207)), none⟩,
  ⟨some 209, .p (.iaddrA 8 1 (T 14) (C (.int .i64 1))), none⟩,
  ⟨some 210, .r (.load1 (T 209)), none⟩,
  ⟨some 211, .p (.bin .and (T 208) (T 210)), none⟩,
  ⟨some 212, .p (.iaddrA 8 1 (T 14) (C (.int .i64 0))), none⟩,
  ⟨some 213, .r (.load1 (T 212)), none⟩,
  ⟨some 214, .p (.iaddrA 8 1 (T 14) (C (.int .i64 2))), none⟩,
  ⟨some 215, .r (.load1 (T 214)), none⟩,
  ⟨some 216, .p (.bin .and (T 213) (T 215)), none⟩,
  ⟨some 217, .p (.bin .xor (T 211) (T 216)), none⟩,
  ⟨some 218, .p (.iaddrA 8 1 (T 14) (C (.int .i64 1))), none⟩,
  ⟨some 219, .r (.load1 (T 218)), none⟩,
  ⟨some 220, .p (.iaddrA 8 1 (T 14) (C (.int .i64 2))), none⟩,
  ⟨some 221, .r (.load1 (T 220)), none⟩,
  ⟨some 222, .p (.bin .and (T 219) (T 221)), none⟩,
  ⟨some 223, .p (.bin .xor (T 217) (T 222)), none⟩,
  ⟨some 224, .p (.bin .add (T 206) (T 223)), none⟩,
  ⟨some 19, .p (.mov (T 224)), none⟩]
def zO9 : List XO := zPA
theorem xq18_32e : E3 zO9 zPA := E3.rfl
abbrev zPC : List XO := [
  ⟨some 20, .p (.mov (C (.int .i64 7))), none⟩]
def zPB : List XO := zPC
theorem xq18_33e : E3 zPB zPC := E3.rfl
abbrev zPE : List XO := [
  ⟨some 225, .p (.mov (T 20)), none⟩,
  ⟨some 226, .p (.bin .gtr (T 225) (C (.int .i64 0))), none⟩]
def zPD : List XO := zPE
theorem xq18_34e : E3 zPD zPE := E3.rfl
abbrev zPG : List XO := [
  ⟨some 229, .p (.mov (T 20)), none⟩,
  ⟨some 230, .p (.mov (T 20)), none⟩,
  ⟨some 231, .p (.bin .sub (T 230) (C (.int .i64 1))), none⟩,
  ⟨some 232, .p (.iaddrA 8 1 (T 14) (T 231)), none⟩,
  ⟨some 233, .r (.load1 (T 232)), none⟩,
  ⟨some 234, .p (.iaddrA 8 1 (T 14) (T 229)), none⟩,
  ⟨none, .e (.store 1 (T 234) (T 233)), none⟩]
def zPF : List XO := zPG
theorem xq18_35e : E3 zPF zPG := E3.rfl
abbrev zPI : List XO := [
  ⟨some 227, .p (.mov (T 20)), none⟩,
  ⟨some 228, .p (.bin .sub (T 227) (C (.int .i64 1))), none⟩,
  ⟨some 20, .p (.mov (T 228)), none⟩]
def zPH : List XO := zPI
theorem xq18_36e : E3 zPH zPI := E3.rfl
def zHo : XC :=
  .seq (.seq (.ops zPD) (.cond (T 226) (.skip) (.exit 10))) (.seq (.block 11 (.ops zPF)) (.ops zPH))
def zHn : XC := zHo
theorem xq18_37k {pr : Prog} {k : List KI} {Q : XE → Fr → Heap → Prop} {t : Fr} {h : Heap} (hw : wpk pr zHo k Q t h) : wpk pr zHn k Q t h := hw
abbrev zPK : List XO := [
  ⟨some 235, .p (.iaddrA 8 1 (T 14) (C (.int .i64 4))), none⟩,
  ⟨some 236, .r (.load1 (T 235)), none⟩,
  ⟨some 237, .p (.mov (T 17)), none⟩,
  ⟨some 238, .p (.bin .add (T 236) (T 237)), none⟩,
  ⟨some 239, .p (.iaddrA 8 1 (T 14) (C (.int .i64 4))), none⟩,
  ⟨none, .e (.store 1 (T 239) (T 238)), none⟩]
def zPJ : List XO := zPK
theorem xq18_38e : E3 zPJ zPK := E3.rfl
abbrev zPM : List XO := [
  ⟨some 240, .p (.mov (T 17)), none⟩,
  ⟨some 241, .p (.mov (T 19)), none⟩,
  ⟨some 242, .p (.bin .add (T 240) (T 241)), none⟩,
  ⟨some 243, .p (.iaddrA 8 1 (T 14) (C (.int .i64 0))), none⟩,
  ⟨none, .e (.store 1 (T 243) (T 242)), none⟩]
def zPL : List XO := zPM
theorem xq18_39e : E3 zPL zPM := E3.rfl
abbrev zPP : List XO := [
  ⟨some 157, .p (.mov (T 15)), none⟩,
  ⟨some 158, .p (.bin .add (T 157) (C (.int .i64 1))), none⟩,
  ⟨some 15, .p (.mov (T 158)), none⟩]
def zPO : List XO := zPP
theorem xq18_40e : E3 zPO zPP := E3.rfl
def zHq : XC :=
  .seq (.seq (.ops zO0) (.cond (T 156) (.skip) (.exit 8))) (.seq (.block 9 (.seq (.draw zO2 [(4, (2, [])), (8, (2, [])), (8, (5, []))]) (.seq (.draw zO5 []) (.seq (.draw zO7 [(4, (2, [])), (8, (2, [])), (8, (5, []))]) (.seq (.ops zO9) (.seq (.seq (.ops zPB) (.block 10 (.loop zHn))) (.seq (.ops zPJ) (.ops zPL)))))))) (.ops zPO))
def zHp : XC := zHq
theorem xq18_41k {pr : Prog} {k : List KI} {Q : XE → Fr → Heap → Prop} {t : Fr} {h : Heap} (hw : wpk pr zHq k Q t h) : wpk pr zHp k Q t h := hw
abbrev zPR : List XO := [
  ⟨some 21, .p (.mov (C (.int .i64 0))), none⟩]
def zPQ : List XO := zPR
theorem xq18_42e : E3 zPQ zPR := E3.rfl
abbrev zPT : List XO := [
  ⟨some 244, .p (.mov (T 21)), none⟩,
  ⟨some 245, .p (.bin .lss (T 244) (C (.int .i64 8))), none⟩]
def zPS : List XO := zPT
theorem xq18_43e : E3 zPS zPT := E3.rfl
abbrev zPV : List XO := [
  ⟨some 248, .p (.mov (T 21)), none⟩,
  ⟨some 249, .p (.iaddrA 8 1 (T 4) (T 248)), none⟩,
  ⟨some 250, .r (.load1 (T 249)), none⟩,
  ⟨some 251, .p (.mov (T 21)), none⟩,
  ⟨some 252, .p (.iaddrA 8 1 (T 14) (T 251)), none⟩,
  ⟨some 253, .r (.load1 (T 252)), none⟩,
  ⟨some 254, .p (.bin .add (T 250) (T 253)), none⟩,
  ⟨some 255, .p (.iaddrA 8 1 (T 4) (T 248)), none⟩,
  ⟨none, .e (.store 1 (T 255) (T 254)), none⟩]
def zPU : List XO := zPV
theorem xq18_44e : E3 zPU zPV := E3.rfl
abbrev zPX : List XO := [
  ⟨some 246, .p (.mov (T 21)), none⟩,
  ⟨some 247, .p (.bin .add (T 246) (C (.int .i64 1))), none⟩,
  ⟨some 21, .p (.mov (T 247)), none⟩]
def zPW : List XO := zPX
theorem xq18_45e : E3 zPW zPX := E3.rfl
def zHs : XC :=
  .seq (.seq (.ops zPS) (.cond (T 245) (.skip) (.exit 12))) (.seq (.block 13 (.draw zPU [])) (.ops zPW))
def zHr : XC := zHs
theorem xq18_46k {pr : Prog} {k : List KI} {Q : XE → Fr → Heap → Prop} {t : Fr} {h : Heap} (hw : wpk pr zHs k Q t h) : wpk pr zHr k Q t h := hw
abbrev zPZ : List XO := [
  ⟨some 61, .p (.mov (T 8)), none⟩,
  ⟨some 62, .p (.bin .add (T 61) (C (.int .i64 64))), none⟩,
  ⟨some 8, .p (.mov (T 62)), none⟩]
def zPY : List XO := zPZ
theorem xq18_47e : E3 zPY zPZ := E3.rfl
def zHu : XC :=
  .seq (.seq (.ops zOZ) (.cond (T 60) (.skip) (.exit 4))) (.seq (.block 5 (.seq (.ops zOb) (.seq (.seq (.ops zOd) (.block 6 (.loop zHl))) (.seq (.ops zOw) (.seq (.seq (.ops zOy) (.block 8 (.loop zHp))) (.seq (.ops zPQ) (.block 12 (.loop zHr)))))))) (.ops zPY))
def zHt : XC := zHu
theorem xq18_48k {pr : Prog} {k : List KI} {Q : XE → Fr → Heap → Prop} {t : Fr} {h : Heap} (hw : wpk pr zHu k Q t h) : wpk pr zHt k Q t h := hw
abbrev zPb : List XO := [
  ⟨some 256, .a (.bslice [] 0 []), none⟩,
  ⟨some 22, .p (.mov (T 256)), none⟩]
def zPa : List XO := zPb
theorem xq18_49e : E3 zPa zPb := E3.rfl
abbrev zPe : List XO := [
  ⟨some 23, .p (.mov (C (.int .i64 0))), none⟩]
def zPd : List XO := zPe
theorem xq18_50e : E3 zPd zPe := E3.rfl
abbrev zPg : List XO := [
  ⟨some 257, .p (.mov (T 23)), none⟩,
  ⟨some 258, .p (.bin .lss (T 257) (C (.int .i64 8))), none⟩]
def zPf : List XO := zPg
theorem xq18_51e : E3 zPf zPg := E3.rfl
abbrev zPi : List XO := [
  ⟨some 261, .p (.mov (T 22)), none⟩,
  ⟨some 262, .p (.mov (T 23)), none⟩,
  ⟨some 263, .p (.iaddrA 8 1 (T 4) (T 262)), none⟩,
  ⟨some 264, .r (.load1 (T 263)), none⟩,
  ⟨some 265, .p (.bin .shr (T 264) (C (.int .u64 24))), none⟩,
  ⟨some 266, .p (.cint .u8 (T 265)), none⟩,
  ⟨some 267, .p (.mov (T 23)), none⟩,
  ⟨some 268, .p (.iaddrA 8 1 (T 4) (T 267)), none⟩,
  ⟨some 269, .r (.load1 (T 268)), none⟩,
  ⟨some 270, .p (.bin .shr (T 269) (C (.int .u64 16))), none⟩,
  ⟨some 271, .p (.cint .u8 (T 270)), none⟩,
  ⟨some 272, .p (.mov (T 23)), none⟩,
  ⟨some 273, .p (.iaddrA 8 1 (T 4) (T 272)), none⟩,
  ⟨some 274, .r (.load1 (T 273)), none⟩,
  ⟨some 275, .p (.bin .shr (T 274) (C (.int .u64 8))), none⟩,
  ⟨some 276, .p (.cint .u8 (T 275)), none⟩,
  ⟨some 277, .p (.mov (T 23)), none⟩,
  ⟨some 278, .p (.iaddrA 8 1 (T 4) (T 277)), none⟩,
  ⟨some 279, .r (.load1 (T 278)), none⟩,
  ⟨some 280, .p (.cint .u8 (T 279)), none⟩,
  ⟨some 281, .a (.bslice (List.replicate 4 (.int .u8 0)) 4 [(0, 1, (T 266)), (1, 1, (T 271)), (2, 1, (T 276)), (3, 1, (T 280))]), none⟩,
  ⟨some 282, .e (.append 1 1 (T 261) (T 281)), none⟩,
  ⟨some 22, .p (.mov (T 282)), none⟩]
def zPh : List XO := zPi
theorem xq18_52e : E3 zPh zPi := E3.rfl
abbrev zPk : List XO := [
  ⟨some 259, .p (.mov (T 23)), none⟩,
  ⟨some 260, .p (.bin .add (T 259) (C (.int .i64 1))), none⟩,
  ⟨some 23, .p (.mov (T 260)), none⟩]
def zPj : List XO := zPk
theorem xq18_53e : E3 zPj zPk := E3.rfl
def zHw : XC :=
  .seq (.seq (.ops zPf) (.cond (T 258) (.skip) (.exit 14))) (.seq (.block 15 (.draw zPh [(3, (21, [])), (8, (21, [])), (13, (21, [])), (18, (21, []))])) (.ops zPj))
def zHv : XC := zHw
theorem xq18_54k {pr : Prog} {k : List KI} {Q : XE → Fr → Heap → Prop} {t : Fr} {h : Heap} (hw : wpk pr zHw k Q t h) : wpk pr zHv k Q t h := hw
abbrev zPm : List XO := [
  ⟨some 283, .p (.mov (T 22)), none⟩,
  ⟨some 284, .r (.cb2s (T 283)), none⟩,
  ⟨some 2, .p (.mov (T 284)), none⟩]
def zPl : List XO := zPm
theorem xq18_55e : E3 zPl zPm := E3.rfl
def xq18 : XF := ⟨1, [.tmp 2],
  .seq (.ops xq18_0) (.seq (.ops xq18_1) (.seq (.ops xq18_2) (.seq (.ops xq18_3) (.seq (.block 0 (.loop zHx)) (.seq (.ops xq18_7) (.seq (.seq (.ops xq18_8) (.block 2 (.loop zHj))) (.seq (.seq (.ops zOX) (.block 4 (.loop zHt))) (.seq (.ops zPa) (.seq (.seq (.ops zPd) (.block 14 (.loop zHv))) (.seq (.ops zPl) (.ret)))))))))))⟩
def yq18 := PLift.up (And.intro (And.intro (And.intro (And.intro (And.intro (@xq18_0e) (And.intro (@xq18_1e) (@xq18_2e))) (And.intro (@xq18_3e) (And.intro (@xq18_4e) (@xq18_5e)))) (And.intro (And.intro (@xq18_7e) (And.intro (@xq18_8e) (@xq18_9e))) (And.intro (@xq18_10e) (And.intro (@xq18_11e) (@xq18_13e))))) (And.intro (And.intro (And.intro (@xq18_14e) (And.intro (@xq18_15e) (@xq18_16e))) (And.intro (@xq18_17e) (And.intro (@xq18_18e) (@xq18_19e)))) (And.intro (And.intro (@xq18_20e) (And.intro (@xq18_21e) (@xq18_22e))) (And.intro (@xq18_23e) (And.intro (@xq18_24e) (@xq18_26e)))))) (And.intro (And.intro (And.intro (And.intro (@xq18_27e) (And.intro (@xq18_28e) (@xq18_29e))) (And.intro (@xq18_30e) (And.intro (@xq18_31e) (@xq18_32e)))) (And.intro (And.intro (@xq18_33e) (And.intro (@xq18_34e) (@xq18_35e))) (And.intro (@xq18_36e) (And.intro (@xq18_38e) (@xq18_39e))))) (And.intro (And.intro (And.intro (@xq18_40e) (And.intro (@xq18_42e) (@xq18_43e))) (And.intro (@xq18_44e) (And.intro (@xq18_45e) (@xq18_47e)))) (And.intro (And.intro (@xq18_49e) (And.intro (@xq18_50e) (@xq18_51e))) (And.intro (@xq18_52e) (And.intro (@xq18_53e) (@xq18_55e)))))))
theorem cq18 : zb Try.prog Try.f18 = some xq18 := by kernel_rfl
abbrev zSU : List XO := [
  ⟨some 4, .p (.mov (C (.string (zB [])))), none⟩]
def xq60_0 : List XO := zSU
theorem xq60_0e : E3 xq60_0 zSU := E3.rfl
abbrev zSW : List XO := [
  ⟨some 7, .p (.mov (T 0)), none⟩,
  ⟨some 8, .p (.lenS (T 7)), none⟩,
  ⟨some 9, .p (.bin .gtr (T 8) (C (.int .i64 64))), none⟩]
def xq60_1 : List XO := zSW
theorem xq60_1e : E3 xq60_1 zSW := E3.rfl
abbrev zSX : List XO := [
  ⟨some 10, .p (.mov (T 0)), none⟩,
  ⟨some 11, .call (.func 59) [(T 10)], none⟩,
  ⟨some 0, .p (.mov (T 11)), none⟩]
def xq60_2 : List XO := zSX
theorem xq60_2e : E3 xq60_2 zSX := E3.rfl
abbrev zSY : List XO := [
  ⟨some 12, .p (.mov (T 0)), none⟩,
  ⟨some 13, .p (.mov (T 0)), none⟩,
  ⟨some 14, .p (.lenS (T 13)), none⟩,
  ⟨some 15, .p (.bin .sub (C (.int .i64 64)) (T 14)), none⟩,
  ⟨some 16, .call (.func 88) [(C (.string (zB [0]))), (T 15)], none⟩,
  ⟨some 17, .p (.bin .add (T 12) (T 16)), none⟩,
  ⟨some 18, .a (.cs2b (T 17)), none⟩,
  ⟨some 5, .p (.mov (T 18)), none⟩]
def zIF : List XO := zSY
theorem xq60_3e : E3 zIF zSY := E3.rfl
abbrev zSZ : List XO := [
  ⟨some 19, .p (.mov (T 5)), none⟩,
  ⟨some 20, .p (.lenV (T 19)), none⟩,
  ⟨some 21, .p (.mov (C (.int .i64 0))), none⟩]
def zIG : List XO := zSZ
theorem xq60_4e : E3 zIG zSZ := E3.rfl
abbrev zSa : List XO := [
  ⟨some 22, .p (.bin .lss (T 21) (T 20)), none⟩]
def xq60_5 : List XO := zSa
theorem xq60_5e : E3 xq60_5 zSa := E3.rfl
abbrev zSb : List XO := [
  ⟨some 23, .p (.mov (T 21)), none⟩,
  ⟨some 6, .p (.mov (T 23)), none⟩]
def xq60_6 : List XO := zSb
theorem xq60_6e : E3 xq60_6 zSb := E3.rfl
abbrev zSc : List XO := [
  ⟨some 24, .p (.mov (T 5)), none⟩,
  ⟨some 25, .p (.mov (T 6)), none⟩,
  ⟨some 26, .p (.iaddrS 1 (T 24) (T 25)), none⟩,
  ⟨some 27, .r (.load1 (T 26)), none⟩,
  ⟨some 28, .p (.mov (T 1)), none⟩,
  ⟨some 29, .p (.bin .xor (T 27) (T 28)), none⟩,
  ⟨some 30, .p (.iaddrS 1 (T 24) (T 25)), none⟩,
  ⟨none, .e (.store 1 (T 30) (T 29)), none⟩]
def xq60_7 : List XO := zSc
theorem xq60_7e : E3 xq60_7 zSc := E3.rfl
abbrev zSd : List XO := [
  ⟨some 31, .p (.bin .add (T 21) (C (.int .i64 1))), none⟩,
  ⟨some 21, .p (.mov (T 31)), none⟩]
def xq60_8 : List XO := zSd
theorem xq60_8e : E3 xq60_8 zSd := E3.rfl
def zII : XC :=
  .seq (.ops xq60_5) (.seq (.cond (T 22) (.skip) (.exit 0)) (.seq (.block 1 (.seq (.ops xq60_6) (.ops xq60_7))) (.ops xq60_8)))
def zIH : XC := zII
theorem xq60_9k {pr : Prog} {k : List KI} {Q : XE → Fr → Heap → Prop} {t : Fr} {h : Heap} (hw : wpk pr zII k Q t h) : wpk pr zIH k Q t h := hw
abbrev zSV : List XO := [
  ⟨some 32, .p (.mov (T 5)), none⟩,
  ⟨some 33, .r (.cb2s (T 32)), none⟩,
  ⟨some 4, .p (.mov (T 33)), none⟩]
def zIE : List XO := zSV
theorem xq60_10e : E3 zIE zSV := E3.rfl
def xq60 : XF := ⟨2, [.tmp 4],
  .seq (.ops xq60_0) (.seq (.seq (.ops xq60_1) (.cond (T 9) (.ops xq60_2) (.skip))) (.seq (.ops zIF) (.seq (.seq (.ops zIG) (.block 0 (.loop zIH))) (.seq (.ops zIE) (.ret)))))⟩
def yq60 := PLift.up (And.intro (And.intro (And.intro (@xq60_0e) (@xq60_1e)) (And.intro (@xq60_2e) (And.intro (@xq60_3e) (@xq60_4e)))) (And.intro (And.intro (@xq60_5e) (@xq60_6e)) (And.intro (@xq60_7e) (And.intro (@xq60_8e) (@xq60_10e)))))
theorem cq60 : zb Try.prog Try.f60 = some xq60 := by kernel_rfl
abbrev zOQ : List XO := [
  ⟨some 4, .p (.mov (C (.string (zB [])))), none⟩]
def xq17_0 : List XO := zOQ
theorem xq17_0e : E3 xq17_0 zOQ := E3.rfl
abbrev zOR : List XO := [
  ⟨some 5, .p (.mov (T 0)), none⟩,
  ⟨some 6, .call (.func 60) [(T 5), (C (.int .u8 92))], none⟩,
  ⟨some 7, .p (.mov (T 0)), none⟩,
  ⟨some 8, .call (.func 60) [(T 7), (C (.int .u8 54))], none⟩,
  ⟨some 9, .p (.mov (T 1)), none⟩,
  ⟨some 10, .p (.bin .add (T 8) (T 9)), none⟩,
  ⟨some 11, .call (.func 59) [(T 10)], none⟩,
  ⟨some 12, .p (.bin .add (T 6) (T 11)), none⟩,
  ⟨some 13, .call (.func 59) [(T 12)], none⟩,
  ⟨some 4, .p (.mov (T 13)), none⟩]
def xq17_1 : List XO := zOR
theorem xq17_1e : E3 xq17_1 zOR := E3.rfl
def xq17 : XF := ⟨2, [.tmp 4],
  .seq (.ops xq17_0) (.seq (.ops xq17_1) (.ret))⟩
def yq17 := PLift.up (And.intro (@xq17_0e) (@xq17_1e))
theorem cq17 : zb Try.prog Try.f17 = some xq17 := by kernel_rfl
abbrev zPr : List XO := [
  ⟨some 4, .p (.mov (C (.string (zB [])))), none⟩]
def xq19_0 : List XO := zPr
theorem xq19_0e : E3 xq19_0 zPr := E3.rfl
abbrev zPu : List XO := [
  ⟨some 9, .p (.mov (T 0)), none⟩,
  ⟨some 10, .p (.lenS (T 9)), none⟩,
  ⟨some 11, .p (.bin .gtr (T 10) (C (.int .i64 64))), none⟩]
def xq19_1 : List XO := zPu
theorem xq19_1e : E3 xq19_1 zPu := E3.rfl
abbrev zPv : List XO := [
  ⟨some 12, .p (.mov (T 0)), none⟩,
  ⟨some 13, .call (.func 18) [(T 12)], none⟩,
  ⟨some 0, .p (.mov (T 13)), none⟩]
def xq19_2 : List XO := zPv
theorem xq19_2e : E3 xq19_2 zPv := E3.rfl
abbrev zPw : List XO := [
  ⟨some 14, .a (.bslice [] 0 []), none⟩,
  ⟨some 15, .a (.bslice [] 0 []), none⟩,
  ⟨some 5, .p (.mov (T 14)), none⟩,
  ⟨some 6, .p (.mov (T 15)), none⟩]
def zH1 : List XO := zPw
theorem xq19_3e : E3 zH1 zPw := E3.rfl
abbrev zPx : List XO := [
  ⟨some 7, .p (.mov (C (.int .i64 0))), none⟩]
def zH2 : List XO := zPx
theorem xq19_4e : E3 zH2 zPx := E3.rfl
abbrev zPy : List XO := [
  ⟨some 16, .p (.mov (T 7)), none⟩,
  ⟨some 17, .p (.bin .lss (T 16) (C (.int .i64 64))), none⟩]
def xq19_5 : List XO := zPy
theorem xq19_5e : E3 xq19_5 zPy := E3.rfl
abbrev zPz : List XO := [
  ⟨some 8, .p (.mov (C (.int .u8 0))), none⟩]
def xq19_6 : List XO := zPz
theorem xq19_6e : E3 xq19_6 zPz := E3.rfl
abbrev zP0 : List XO := [
  ⟨some 20, .p (.mov (T 7)), none⟩,
  ⟨some 21, .p (.mov (T 0)), none⟩,
  ⟨some 22, .p (.lenS (T 21)), none⟩,
  ⟨some 23, .p (.bin .lss (T 20) (T 22)), none⟩]
def xq19_7 : List XO := zP0
theorem xq19_7e : E3 xq19_7 zP0 := E3.rfl
abbrev zP1 : List XO := [
  ⟨some 24, .p (.mov (T 0)), none⟩,
  ⟨some 25, .p (.mov (T 7)), none⟩,
  ⟨some 26, .p (.idxS (T 24) (T 25)), none⟩,
  ⟨some 8, .p (.mov (T 26)), none⟩]
def xq19_8 : List XO := zP1
theorem xq19_8e : E3 xq19_8 zP1 := E3.rfl
abbrev zP2 : List XO := [
  ⟨some 27, .p (.mov (T 5)), none⟩,
  ⟨some 28, .p (.mov (T 8)), none⟩,
  ⟨some 29, .p (.bin .xor (T 28) (C (.int .u8 54))), none⟩,
  ⟨some 30, .a (.bslice [(.int .u8 0)] 1 [(0, 1, (T 29))]), none⟩,
  ⟨some 31, .e (.append 1 1 (T 27) (T 30)), none⟩,
  ⟨some 32, .p (.mov (T 6)), none⟩,
  ⟨some 33, .p (.mov (T 8)), none⟩,
  ⟨some 34, .p (.bin .xor (T 33) (C (.int .u8 92))), none⟩,
  ⟨some 35, .a (.bslice [(.int .u8 0)] 1 [(0, 1, (T 34))]), none⟩,
  ⟨some 36, .e (.append 1 1 (T 32) (T 35)), none⟩,
  ⟨some 5, .p (.mov (T 31)), none⟩,
  ⟨some 6, .p (.mov (T 36)), none⟩]
def zH3 : List XO := zP2
theorem xq19_9e : E3 zH3 zP2 := E3.rfl
abbrev zPs : List XO := [
  ⟨some 18, .p (.mov (T 7)), none⟩,
  ⟨some 19, .p (.bin .add (T 18) (C (.int .i64 1))), none⟩,
  ⟨some 7, .p (.mov (T 19)), none⟩]
def zHz : List XO := zPs
theorem xq19_10e : E3 zHz zPs := E3.rfl
def zH0 : XC :=
  .seq (.seq (.ops xq19_5) (.cond (T 17) (.skip) (.exit 0))) (.seq (.block 1 (.seq (.ops xq19_6) (.seq (.seq (.ops xq19_7) (.cond (T 23) (.ops xq19_8) (.skip))) (.ops zH3)))) (.ops zHz))
def zFi : XC := zH0
theorem xq19_11k {pr : Prog} {k : List KI} {Q : XE → Fr → Heap → Prop} {t : Fr} {h : Heap} (hw : wpk pr zH0 k Q t h) : wpk pr zFi k Q t h := hw
abbrev zPt : List XO := [
  ⟨some 37, .p (.mov (T 6)), none⟩,
  ⟨some 38, .r (.cb2s (T 37)), none⟩,
  ⟨some 39, .p (.mov (T 5)), none⟩,
  ⟨some 40, .r (.cb2s (T 39)), none⟩,
  ⟨some 41, .p (.mov (T 1)), none⟩,
  ⟨some 42, .p (.bin .add (T 40) (T 41)), none⟩,
  ⟨some 43, .call (.func 18) [(T 42)], none⟩,
  ⟨some 44, .p (.bin .add (T 38) (T 43)), none⟩,
  ⟨some 45, .call (.func 18) [(T 44)], none⟩,
  ⟨some 4, .p (.mov (T 45)), none⟩]
def zFj : List XO := zPt
theorem xq19_12e : E3 zFj zPt := E3.rfl
def xq19 : XF := ⟨2, [.tmp 4],
  .seq (.ops xq19_0) (.seq (.seq (.ops xq19_1) (.cond (T 11) (.ops xq19_2) (.skip))) (.seq (.ops zH1) (.seq (.seq (.ops zH2) (.block 0 (.loop zFi))) (.seq (.draw zFj [(1, (8, []))]) (.ret)))))⟩
def yq19 := PLift.up (And.intro (And.intro (And.intro (@xq19_0e) (And.intro (@xq19_1e) (@xq19_2e))) (And.intro (@xq19_3e) (And.intro (@xq19_4e) (@xq19_5e)))) (And.intro (And.intro (@xq19_6e) (And.intro (@xq19_7e) (@xq19_8e))) (And.intro (@xq19_9e) (And.intro (@xq19_10e) (@xq19_12e)))))
theorem cq19 : zb Try.prog Try.f19 = some xq19 := by kernel_rfl
abbrev zP3 : List XO := [
  ⟨some 6, .p (.mov (C (.bool false))), none⟩]
def xq20_0 : List XO := zP3
theorem xq20_0e : E3 xq20_0 zP3 := E3.rfl
abbrev zP4 : List XO := [
  ⟨some 7, .p (.mov (T 0)), none⟩,
  ⟨some 8, .p (.mov (T 1)), none⟩,
  ⟨some 9, .call (.func 17) [(T 7), (T 8)], none⟩,
  ⟨some 10, .p (.mov (T 2)), none⟩,
  ⟨some 11, .call (.func 63) [(T 9), (T 10)], none⟩,
  ⟨some 6, .p (.mov (T 11)), none⟩]
def xq20_1 : List XO := zP4
theorem xq20_1e : E3 xq20_1 zP4 := E3.rfl
def xq20 : XF := ⟨3, [.tmp 6],
  .seq (.ops xq20_0) (.seq (.ops xq20_1) (.ret))⟩
def yq20 := PLift.up (And.intro (@xq20_0e) (@xq20_1e))
theorem cq20 : zb Try.prog Try.f20 = some xq20 := by kernel_rfl
abbrev zSi : List XO := [
  ⟨some 4, .p (.mov (C (.bool false))), none⟩]
def xq63_0 : List XO := zSi
theorem xq63_0e : E3 xq63_0 zSi := E3.rfl
abbrev zSl : List XO := [
  ⟨some 7, .p (.mov (T 0)), none⟩,
  ⟨some 8, .p (.lenS (T 7)), none⟩,
  ⟨some 9, .p (.mov (T 1)), none⟩,
  ⟨some 10, .p (.lenS (T 9)), none⟩,
  ⟨some 11, .p (.eql true .int (T 8) (T 10)), none⟩]
def xq63_1 : List XO := zSl
theorem xq63_1e : E3 xq63_1 zSl := E3.rfl
abbrev zSm : List XO := [
  ⟨some 4, .p (.mov (C (.bool false))), none⟩]
def xq63_2 : List XO := zSm
theorem xq63_2e : E3 xq63_2 zSm := E3.rfl
abbrev zSn : List XO := [
  ⟨some 5, .p (.mov (C (.int .u8 0))), none⟩]
def xq63_3 : List XO := zSn
theorem xq63_3e : E3 xq63_3 zSn := E3.rfl
abbrev zSo : List XO := [
  ⟨some 12, .p (.mov (T 0)), none⟩,
  ⟨some 13, .p (.lenS (T 12)), none⟩,
  ⟨some 14, .p (.mov (C (.int .i64 0))), none⟩]
def xq63_4 : List XO := zSo
theorem xq63_4e : E3 xq63_4 zSo := E3.rfl
abbrev zSp : List XO := [
  ⟨some 15, .p (.bin .lss (T 14) (T 13)), none⟩]
def xq63_5 : List XO := zSp
theorem xq63_5e : E3 xq63_5 zSp := E3.rfl
abbrev zSq : List XO := [
  ⟨some 16, .p (.mov (T 14)), none⟩,
  ⟨some 6, .p (.mov (T 16)), none⟩]
def xq63_6 : List XO := zSq
theorem xq63_6e : E3 xq63_6 zSq := E3.rfl
abbrev zSr : List XO := [
  ⟨some 17, .p (.mov (T 5)), none⟩,
  ⟨some 18, .p (.mov (T 0)), none⟩,
  ⟨some 19, .p (.mov (T 6)), none⟩,
  ⟨some 20, .p (.idxS (T 18) (T 19)), none⟩,
  ⟨some 21, .p (.mov (T 1)), none⟩,
  ⟨some 22, .p (.mov (T 6)), none⟩,
  ⟨some 23, .p (.idxS (T 21) (T 22)), none⟩,
  ⟨some 24, .p (.bin .xor (T 20) (T 23)), none⟩,
  ⟨some 25, .p (.bin .or (T 17) (T 24)), none⟩,
  ⟨some 5, .p (.mov (T 25)), none⟩]
def xq63_7 : List XO := zSr
theorem xq63_7e : E3 xq63_7 zSr := E3.rfl
abbrev zSs : List XO := [
  ⟨some 26, .p (.bin .add (T 14) (C (.int .i64 1))), none⟩,
  ⟨some 14, .p (.mov (T 26)), none⟩]
def xq63_8 : List XO := zSs
theorem xq63_8e : E3 xq63_8 zSs := E3.rfl
def zIJ : XC :=
  .seq (.ops xq63_5) (.seq (.cond (T 15) (.skip) (.exit 0)) (.seq (.block 1 (.seq (.ops xq63_6) (.draw xq63_7 []))) (.ops xq63_8)))
def xq63_9 : XC := zIJ
theorem xq63_9k {pr : Prog} {k : List KI} {Q : XE → Fr → Heap → Prop} {t : Fr} {h : Heap} (hw : wpk pr zIJ k Q t h) : wpk pr xq63_9 k Q t h := hw
abbrev zSk : List XO := [
  ⟨some 27, .p (.mov (T 5)), none⟩,
  ⟨some 28, .p (.eql false .int (T 27) (C (.int .u8 0))), none⟩,
  ⟨some 4, .p (.mov (T 28)), none⟩]
def zSj : List XO := zSk
theorem xq63_10e : E3 zSj zSk := E3.rfl
def xq63 : XF := ⟨2, [.tmp 4],
  .seq (.ops xq63_0) (.seq (.seq (.ops xq63_1) (.cond (T 11) (.seq (.ops xq63_2) (.ret)) (.skip))) (.seq (.ops xq63_3) (.seq (.seq (.ops xq63_4) (.block 0 (.loop xq63_9))) (.seq (.ops zSj) (.ret)))))⟩
def yq63 := PLift.up (And.intro (And.intro (And.intro (@xq63_0e) (@xq63_1e)) (And.intro (@xq63_2e) (And.intro (@xq63_3e) (@xq63_4e)))) (And.intro (And.intro (@xq63_5e) (@xq63_6e)) (And.intro (@xq63_7e) (And.intro (@xq63_8e) (@xq63_10e)))))
theorem cq63 : zb Try.prog Try.f63 = some xq63 := by kernel_rfl
end Go.X
end
section
namespace Go.X
open Go.Proofs
abbrev zP5 : List XO := [
  ⟨some 4, .p (.mov (C (.string (zB [])))), none⟩,
  ⟨some 5, .p (.mov (C (.bool false))), none⟩]
def xq23_0 : List XO := zP5
theorem xq23_0e : E3 xq23_0 zP5 := E3.rfl
abbrev zP6 : List XO := [
  ⟨some 6, .p (.mov (T 0)), none⟩,
  ⟨some 7, .p (.eql false .nptr (T 6) (C (.pointer none))), none⟩,
  ⟨some 8, .p (.mov (T 7)), none⟩,
  ⟨some 9, .p (.mov (T 1)), some (8, false)⟩,
  ⟨some 10, .p (.bin .lss (T 9) (C (.int .i64 0))), some (8, false)⟩,
  ⟨some 11, .p (.pick (T 8) (C (.bool true)) (T 10)), none⟩,
  ⟨some 12, .p (.mov (T 11)), none⟩,
  ⟨some 13, .p (.mov (T 1)), some (12, false)⟩,
  ⟨some 14, .p (.mov (T 0)), some (12, false)⟩,
  ⟨some 15, .p (.nilc (T 14)), some (12, false)⟩,
  ⟨some 16, .p (.faddr 0 (T 15)), some (12, false)⟩,
  ⟨some 17, .r (.load1 (T 16)), some (12, false)⟩,
  ⟨some 18, .p (.lenV (T 17)), some (12, false)⟩,
  ⟨some 19, .p (.bin .geq (T 13) (T 18)), some (12, false)⟩,
  ⟨some 20, .p (.pick (T 12) (C (.bool true)) (T 19)), none⟩]
def xq23_1 : List XO := zP6
theorem xq23_1e : E3 xq23_1 zP6 := E3.rfl
abbrev zP7 : List XO := [
  ⟨some 4, .p (.mov (C (.string (zB [])))), none⟩,
  ⟨some 5, .p (.mov (C (.bool false))), none⟩]
def xq23_2 : List XO := zP7
theorem xq23_2e : E3 xq23_2 zP7 := E3.rfl
abbrev zP8 : List XO := [
  ⟨some 21, .p (.mov (T 0)), none⟩,
  ⟨some 22, .p (.nilc (T 21)), none⟩,
  ⟨some 23, .p (.faddr 0 (T 22)), none⟩,
  ⟨some 24, .r (.load1 (T 23)), none⟩,
  ⟨some 25, .p (.mov (T 1)), none⟩,
  ⟨some 26, .p (.iaddrS 1 (T 24) (T 25)), none⟩,
  ⟨some 27, .r (.load1 (T 26)), none⟩,
  ⟨some 4, .p (.mov (T 27)), none⟩,
  ⟨some 5, .p (.mov (C (.bool true))), none⟩]
def xq23_3 : List XO := zP8
theorem xq23_3e : E3 xq23_3 zP8 := E3.rfl
def xq23 : XF := ⟨2, [.tmp 4, .tmp 5],
  .seq (.ops xq23_0) (.seq (.seq (.ops xq23_1) (.cond (T 20) (.seq (.ops xq23_2) (.ret)) (.skip))) (.seq (.ops xq23_3) (.ret)))⟩
def yq23 := PLift.up (And.intro (And.intro (@xq23_0e) (@xq23_1e)) (And.intro (@xq23_2e) (@xq23_3e)))
theorem cq23 : zb Try.prog Try.f23 = some xq23 := by kernel_rfl
abbrev zP9 : List XO := [
  ⟨some 6, .p (.mov (C (.string (zB [])))), none⟩,
  ⟨some 7, .p (.mov (C (.int .i64 0))), none⟩]
def xq24_0 : List XO := zP9
theorem xq24_0e : E3 xq24_0 zP9 := E3.rfl
abbrev zQA : List XO := [
  ⟨some 11, .p (.mov (T 0)), none⟩,
  ⟨some 12, .p (.mov (T 1)), none⟩,
  ⟨some 13, .call (.func 23) [(T 11), (T 12)], none⟩,
  ⟨some 10, .p (.mov (T 13)), none⟩,
  ⟨some 14, .p (.ext (T 10) 0), none⟩,
  ⟨some 15, .p (.ext (T 10) 1), none⟩,
  ⟨some 8, .p (.mov (T 14)), none⟩,
  ⟨some 9, .p (.mov (T 15)), none⟩]
def xq24_1 : List XO := zQA
theorem xq24_1e : E3 xq24_1 zQA := E3.rfl
abbrev zQB : List XO := [
  ⟨some 16, .p (.mov (T 9)), none⟩,
  ⟨some 17, .p (.un .not (T 16)), none⟩]
def xq24_2 : List XO := zQB
theorem xq24_2e : E3 xq24_2 zQB := E3.rfl
abbrev zQC : List XO := [
  ⟨some 6, .p (.mov (C (.string (zB [])))), none⟩,
  ⟨some 7, .p (.mov (C (.int .i64 2))), none⟩]
def xq24_3 : List XO := zQC
theorem xq24_3e : E3 xq24_3 zQC := E3.rfl
abbrev zQD : List XO := [
  ⟨some 18, .p (.mov (T 8)), none⟩,
  ⟨some 19, .p (.mov (T 2)), none⟩,
  ⟨some 20, .call (.func 17) [(T 18), (T 19)], none⟩,
  ⟨some 6, .p (.mov (T 20)), none⟩,
  ⟨some 7, .p (.mov (C (.int .i64 0))), none⟩]
def xq24_4 : List XO := zQD
theorem xq24_4e : E3 xq24_4 zQD := E3.rfl
def xq24 : XF := ⟨3, [.tmp 6, .tmp 7],
  .seq (.ops xq24_0) (.seq (.ops xq24_1) (.seq (.seq (.ops xq24_2) (.cond (T 17) (.seq (.ops xq24_3) (.ret)) (.skip))) (.seq (.ops xq24_4) (.ret))))⟩
def yq24 := PLift.up (And.intro (And.intro (@xq24_0e) (@xq24_1e)) (And.intro (@xq24_2e) (And.intro (@xq24_3e) (@xq24_4e))))
theorem cq24 : zb Try.prog Try.f24 = some xq24 := by kernel_rfl
abbrev zQE : List XO := [
  ⟨some 2, .p (.mov (C (.int .i64 0))), none⟩]
def xq25_0 : List XO := zQE
theorem xq25_0e : E3 xq25_0 zQE := E3.rfl
abbrev zQF : List XO := [
  ⟨some 3, .p (.mov (T 0)), none⟩,
  ⟨some 4, .p (.eql false .nptr (T 3) (C (.pointer none))), none⟩]
def xq25_1 : List XO := zQF
theorem xq25_1e : E3 xq25_1 zQF := E3.rfl
abbrev zQG : List XO := [
  ⟨some 2, .p (.mov (C (.int .i64 0))), none⟩]
def xq25_2 : List XO := zQG
theorem xq25_2e : E3 xq25_2 zQG := E3.rfl
abbrev zQH : List XO := [
  ⟨some 5, .p (.mov (T 0)), none⟩,
  ⟨some 6, .p (.nilc (T 5)), none⟩,
  ⟨some 7, .p (.faddr 0 (T 6)), none⟩,
  ⟨some 8, .r (.load1 (T 7)), none⟩,
  ⟨some 9, .p (.lenV (T 8)), none⟩,
  ⟨some 2, .p (.mov (T 9)), none⟩]
def xq25_3 : List XO := zQH
theorem xq25_3e : E3 xq25_3 zQH := E3.rfl
def xq25 : XF := ⟨1, [.tmp 2],
  .seq (.ops xq25_0) (.seq (.seq (.ops xq25_1) (.cond (T 4) (.seq (.ops xq25_2) (.ret)) (.skip))) (.seq (.ops xq25_3) (.ret)))⟩
def yq25 := PLift.up (And.intro (And.intro (@xq25_0e) (@xq25_1e)) (And.intro (@xq25_2e) (@xq25_3e)))
theorem cq25 : zb Try.prog Try.f25 = some xq25 := by kernel_rfl
abbrev zQI : List XO := [
  ⟨some 8, .p (.mov (C (.bool false))), none⟩]
def xq26_0 : List XO := zQI
theorem xq26_0e : E3 xq26_0 zQI := E3.rfl
abbrev zQJ : List XO := [
  ⟨some 12, .p (.mov (T 0)), none⟩,
  ⟨some 13, .p (.mov (T 1)), none⟩,
  ⟨some 14, .call (.func 23) [(T 12), (T 13)], none⟩,
  ⟨some 11, .p (.mov (T 14)), none⟩,
  ⟨some 15, .p (.ext (T 11) 0), none⟩,
  ⟨some 16, .p (.ext (T 11) 1), none⟩,
  ⟨some 9, .p (.mov (T 15)), none⟩,
  ⟨some 10, .p (.mov (T 16)), none⟩]
def xq26_1 : List XO := zQJ
theorem xq26_1e : E3 xq26_1 zQJ := E3.rfl
abbrev zQK : List XO := [
  ⟨some 17, .p (.mov (T 10)), none⟩,
  ⟨some 18, .p (.mov (T 17)), none⟩,
  ⟨some 19, .p (.mov (T 9)), some (18, true)⟩,
  ⟨some 20, .p (.mov (T 2)), some (18, true)⟩,
  ⟨some 21, .p (.mov (T 3)), some (18, true)⟩,
  ⟨some 22, .call (.func 20) [(T 19), (T 20), (T 21)], some (18, true)⟩,
  ⟨some 23, .p (.pick (T 18) (T 22) (C (.bool false))), none⟩,
  ⟨some 8, .p (.mov (T 23)), none⟩]
def xq26_2 : List XO := zQK
theorem xq26_2e : E3 xq26_2 zQK := E3.rfl
def xq26 : XF := ⟨4, [.tmp 8],
  .seq (.ops xq26_0) (.seq (.ops xq26_1) (.seq (.ops xq26_2) (.ret)))⟩
def yq26 := PLift.up (And.intro (@xq26_0e) (And.intro (@xq26_1e) (@xq26_2e)))
theorem cq26 : zb Try.prog Try.f26 = some xq26 := by kernel_rfl
end Go.X
end
section
namespace Go.X
open Go.Proofs
abbrev zUi : List XO := [
  ⟨some 2, .p (.mov (C (.string (zB [])))), none⟩]
def xq89_0 : List XO := zUi
theorem xq89_0e : E3 xq89_0 zUi := E3.rfl
abbrev zUj : List XO := [
  ⟨some 3, .p (.mov (T 0)), none⟩,
  ⟨some 4, .p (.bin .shr (T 3) (C (.int .u64 24))), none⟩,
  ⟨some 5, .p (.cint .u8 (T 4)), none⟩,
  ⟨some 6, .p (.mov (T 0)), none⟩,
  ⟨some 7, .p (.bin .shr (T 6) (C (.int .u64 16))), none⟩,
  ⟨some 8, .p (.cint .u8 (T 7)), none⟩,
  ⟨some 9, .p (.mov (T 0)), none⟩,
  ⟨some 10, .p (.bin .shr (T 9) (C (.int .u64 8))), none⟩,
  ⟨some 11, .p (.cint .u8 (T 10)), none⟩,
  ⟨some 12, .p (.mov (T 0)), none⟩,
  ⟨some 13, .p (.cint .u8 (T 12)), none⟩,
  ⟨some 14, .a (.bslice (List.replicate 4 (.int .u8 0)) 4 [(0, 1, (T 5)), (1, 1, (T 8)), (2, 1, (T 11)), (3, 1, (T 13))]), none⟩,
  ⟨some 15, .r (.cb2s (T 14)), none⟩,
  ⟨some 2, .p (.mov (T 15)), none⟩]
def xq89_1 : List XO := zUj
theorem xq89_1e : E3 xq89_1 zUj := E3.rfl
def xq89 : XF := ⟨1, [.tmp 2],
  .seq (.ops xq89_0) (.seq (.ops xq89_1) (.ret))⟩
def yq89 := PLift.up (And.intro (@xq89_0e) (@xq89_1e))
theorem cq89 : zb Try.prog Try.f89 = some xq89 := by kernel_rfl
abbrev zSt : List XO := [
  ⟨some 4, .p (.mov (C (.string (zB [])))), none⟩]
def xq64_0 : List XO := zSt
theorem xq64_0e : E3 xq64_0 zSt := E3.rfl
abbrev zSw : List XO := [
  ⟨some 8, .call (.func 85) [], none⟩,
  ⟨some 5, .p (.mov (T 8)), none⟩]
def xq64_1 : List XO := zSw
theorem xq64_1e : E3 xq64_1 zSw := E3.rfl
abbrev zSx : List XO := [
  ⟨some 9, .p (.mov (T 5)), none⟩,
  ⟨some 10, .p (.mov (T 0)), none⟩,
  ⟨some 11, .a (.bslice [(.int .u8 0)] 1 [(0, 1, (T 10))]), none⟩,
  ⟨some 12, .r (.cb2s (T 11)), none⟩,
  ⟨some 13, .call (.func 86) [(T 9), (T 12)], none⟩]
def xq64_2 : List XO := zSx
theorem xq64_2e : E3 xq64_2 zSx := E3.rfl
abbrev zSy : List XO := [
  ⟨some 14, .p (.mov (T 1)), none⟩,
  ⟨some 15, .p (.lenV (T 14)), none⟩,
  ⟨some 16, .p (.mov (C (.int .i64 0))), none⟩]
def xq64_3 : List XO := zSy
theorem xq64_3e : E3 xq64_3 zSy := E3.rfl
abbrev zSz : List XO := [
  ⟨some 17, .p (.bin .lss (T 16) (T 15)), none⟩]
def xq64_4 : List XO := zSz
theorem xq64_4e : E3 xq64_4 zSz := E3.rfl
abbrev zS0 : List XO := [
  ⟨some 18, .p (.iaddrS 1 (T 14) (T 16)), none⟩,
  ⟨some 19, .r (.load1 (T 18)), none⟩,
  ⟨some 7, .p (.mov (T 19)), none⟩]
def xq64_5 : List XO := zS0
theorem xq64_5e : E3 xq64_5 zS0 := E3.rfl
abbrev zS1 : List XO := [
  ⟨some 20, .p (.mov (T 5)), none⟩,
  ⟨some 21, .p (.mov (T 7)), none⟩,
  ⟨some 22, .p (.lenS (T 21)), none⟩,
  ⟨some 23, .call (.func 89) [(T 22)], none⟩,
  ⟨some 24, .call (.func 86) [(T 20), (T 23)], none⟩]
def xq64_6 : List XO := zS1
theorem xq64_6e : E3 xq64_6 zS1 := E3.rfl
abbrev zS2 : List XO := [
  ⟨some 25, .p (.mov (T 5)), none⟩,
  ⟨some 26, .p (.mov (T 7)), none⟩,
  ⟨some 27, .call (.func 86) [(T 25), (T 26)], none⟩]
def xq64_7 : List XO := zS2
theorem xq64_7e : E3 xq64_7 zS2 := E3.rfl
abbrev zS3 : List XO := [
  ⟨some 28, .p (.bin .add (T 16) (C (.int .i64 1))), none⟩,
  ⟨some 16, .p (.mov (T 28)), none⟩]
def xq64_8 : List XO := zS3
theorem xq64_8e : E3 xq64_8 zS3 := E3.rfl
def zIK : XC :=
  .seq (.ops xq64_4) (.seq (.cond (T 17) (.skip) (.exit 0)) (.seq (.block 1 (.seq (.ops xq64_5) (.seq (.ops xq64_6) (.ops xq64_7)))) (.ops xq64_8)))
def xq64_9 : XC := zIK
theorem xq64_9k {pr : Prog} {k : List KI} {Q : XE → Fr → Heap → Prop} {t : Fr} {h : Heap} (hw : wpk pr zIK k Q t h) : wpk pr xq64_9 k Q t h := hw
abbrev zSv : List XO := [
  ⟨some 29, .p (.mov (T 5)), none⟩,
  ⟨some 30, .call (.func 87) [(T 29)], none⟩,
  ⟨some 4, .p (.mov (T 30)), none⟩]
def zSu : List XO := zSv
theorem xq64_10e : E3 zSu zSv := E3.rfl
def xq64 : XF := ⟨2, [.tmp 4],
  .seq (.ops xq64_0) (.seq (.ops xq64_1) (.seq (.ops xq64_2) (.seq (.seq (.ops xq64_3) (.block 0 (.loop xq64_9))) (.seq (.ops zSu) (.ret)))))⟩
def yq64 := PLift.up (And.intro (And.intro (And.intro (@xq64_0e) (@xq64_1e)) (And.intro (@xq64_2e) (And.intro (@xq64_3e) (@xq64_4e)))) (And.intro (And.intro (@xq64_5e) (@xq64_6e)) (And.intro (@xq64_7e) (And.intro (@xq64_8e) (@xq64_10e)))))
theorem cq64 : zb Try.prog Try.f64 = some xq64 := by kernel_rfl
abbrev zQW : List XO := [
  ⟨some 4, .p (.mov (C (.string (zB [])))), none⟩]
def xq28_0 : List XO := zQW
theorem xq28_0e : E3 xq28_0 zQW := E3.rfl
abbrev zQX : List XO := [
  ⟨some 8, .p (.mov (T 0)), none⟩,
  ⟨some 9, .a (.bslice [(.int .u8 0)] 1 [(0, 1, (T 8))]), none⟩,
  ⟨some 10, .r (.cb2s (T 9)), none⟩,
  ⟨some 5, .p (.mov (T 10)), none⟩]
def xq28_1 : List XO := zQX
theorem xq28_1e : E3 xq28_1 zQX := E3.rfl
abbrev zQY : List XO := [
  ⟨some 6, .p (.mov (C (.int .i64 0))), none⟩]
def xq28_2 : List XO := zQY
theorem xq28_2e : E3 xq28_2 zQY := E3.rfl
abbrev zQZ : List XO := [
  ⟨some 11, .p (.mov (T 6)), none⟩,
  ⟨some 12, .p (.mov (T 1)), none⟩,
  ⟨some 13, .p (.lenV (T 12)), none⟩,
  ⟨some 14, .p (.bin .lss (T 11) (T 13)), none⟩]
def xq28_3 : List XO := zQZ
theorem xq28_3e : E3 xq28_3 zQZ := E3.rfl
abbrev zQa : List XO := [
  ⟨some 17, .p (.mov (T 1)), none⟩,
  ⟨some 18, .p (.mov (T 6)), none⟩,
  ⟨some 19, .p (.iaddrS 1 (T 17) (T 18)), none⟩,
  ⟨some 20, .r (.load1 (T 19)), none⟩,
  ⟨some 21, .p (.lenS (T 20)), none⟩,
  ⟨some 7, .p (.mov (T 21)), none⟩]
def xq28_4 : List XO := zQa
theorem xq28_4e : E3 xq28_4 zQa := E3.rfl
abbrev zQb : List XO := [
  ⟨some 22, .p (.mov (T 5)), none⟩,
  ⟨some 23, .p (.mov (T 7)), none⟩,
  ⟨some 24, .p (.bin .quo (T 23) (C (.int .i64 16777216))), none⟩,
  ⟨some 25, .p (.cint .u8 (T 24)), none⟩,
  ⟨some 26, .p (.mov (T 7)), none⟩,
  ⟨some 27, .p (.bin .quo (T 26) (C (.int .i64 65536))), none⟩,
  ⟨some 28, .p (.cint .u8 (T 27)), none⟩,
  ⟨some 29, .p (.mov (T 7)), none⟩,
  ⟨some 30, .p (.bin .quo (T 29) (C (.int .i64 256))), none⟩,
  ⟨some 31, .p (.cint .u8 (T 30)), none⟩,
  ⟨some 32, .p (.mov (T 7)), none⟩,
  ⟨some 33, .p (.cint .u8 (T 32)), none⟩,
  ⟨some 34, .a (.bslice (List.replicate 4 (.int .u8 0)) 4 [(0, 1, (T 25)), (1, 1, (T 28)), (2, 1, (T 31)), (3, 1, (T 33))]), none⟩,
  ⟨some 35, .r (.cb2s (T 34)), none⟩,
  ⟨some 36, .p (.mov (T 1)), none⟩,
  ⟨some 37, .p (.mov (T 6)), none⟩,
  ⟨some 38, .p (.iaddrS 1 (T 36) (T 37)), none⟩,
  ⟨some 39, .r (.load1 (T 38)), none⟩,
  ⟨some 40, .p (.bin .add (T 35) (T 39)), none⟩,
  ⟨some 41, .p (.bin .add (T 22) (T 40)), none⟩,
  ⟨some 5, .p (.mov (T 41)), none⟩]
def xq28_5 : List XO := zQb
theorem xq28_5e : E3 xq28_5 zQb := E3.rfl
abbrev zQc : List XO := [
  ⟨some 15, .p (.mov (T 6)), none⟩,
  ⟨some 16, .p (.bin .add (T 15) (C (.int .i64 1))), none⟩,
  ⟨some 6, .p (.mov (T 16)), none⟩]
def xq28_6 : List XO := zQc
theorem xq28_6e : E3 xq28_6 zQc := E3.rfl
def zH5 : XC :=
  .seq (.seq (.ops xq28_3) (.cond (T 14) (.skip) (.exit 0))) (.seq (.block 1 (.seq (.ops xq28_4) (.draw xq28_5 []))) (.ops xq28_6))
def xq28_7 : XC := zH5
theorem xq28_7k {pr : Prog} {k : List KI} {Q : XE → Fr → Heap → Prop} {t : Fr} {h : Heap} (hw : wpk pr zH5 k Q t h) : wpk pr xq28_7 k Q t h := hw
abbrev zQd : List XO := [
  ⟨some 42, .p (.mov (T 5)), none⟩,
  ⟨some 43, .call (.func 18) [(T 42)], none⟩,
  ⟨some 4, .p (.mov (T 43)), none⟩]
def xq28_8 : List XO := zQd
theorem xq28_8e : E3 xq28_8 zQd := E3.rfl
def xq28 : XF := ⟨2, [.tmp 4],
  .seq (.ops xq28_0) (.seq (.ops xq28_1) (.seq (.seq (.ops xq28_2) (.block 0 (.loop xq28_7))) (.seq (.ops xq28_8) (.ret))))⟩
def yq28 := PLift.up (And.intro (And.intro (And.intro (@xq28_0e) (@xq28_1e)) (And.intro (@xq28_2e) (@xq28_3e))) (And.intro (And.intro (@xq28_4e) (@xq28_5e)) (And.intro (@xq28_6e) (@xq28_8e))))
theorem cq28 : zb Try.prog Try.f28 = some xq28 := by kernel_rfl
abbrev zQL : List XO := [
  ⟨some 4, .p (.mov (C (.pointer none))), none⟩,
  ⟨some 5, .p (.mov (C (.int .i64 0))), none⟩]
def xq27_0 : List XO := zQL
theorem xq27_0e : E3 xq27_0 zQL := E3.rfl
abbrev zQO : List XO := [
  ⟨some 8, .p (.mov (T 1)), none⟩,
  ⟨some 9, .p (.bin .lss (T 8) (C (.int .i64 0))), none⟩,
  ⟨some 10, .p (.mov (T 9)), none⟩,
  ⟨some 11, .p (.mov (T 1)), some (10, false)⟩,
  ⟨some 12, .p (.bin .gtr (T 11) (C (.int .i64 16))), some (10, false)⟩,
  ⟨some 13, .p (.pick (T 10) (C (.bool true)) (T 12)), none⟩]
def xq27_1 : List XO := zQO
theorem xq27_1e : E3 xq27_1 zQO := E3.rfl
abbrev zQP : List XO := [
  ⟨some 4, .p (.mov (C (.pointer none))), none⟩,
  ⟨some 5, .p (.mov (C (.int .i64 1))), none⟩]
def xq27_2 : List XO := zQP
theorem xq27_2e : E3 xq27_2 zQP := E3.rfl
abbrev zQQ : List XO := [
  ⟨some 14, .p (.build [(.slice none 0 0)] []), none⟩,
  ⟨some 15, .a (.box (T 14)), none⟩,
  ⟨some 6, .p (.mov (T 15)), none⟩]
def xq27_3 : List XO := zQQ
theorem xq27_3e : E3 xq27_3 zQQ := E3.rfl
abbrev zQR : List XO := [
  ⟨some 16, .p (.mov (T 1)), none⟩,
  ⟨some 17, .p (.mov (C (.int .i64 0))), none⟩]
def xq27_4 : List XO := zQR
theorem xq27_4e : E3 xq27_4 zQR := E3.rfl
abbrev zQS : List XO := [
  ⟨some 18, .p (.bin .lss (T 17) (T 16)), none⟩]
def xq27_5 : List XO := zQS
theorem xq27_5e : E3 xq27_5 zQS := E3.rfl
abbrev zQT : List XO := [
  ⟨some 19, .p (.mov (T 17)), none⟩,
  ⟨some 7, .p (.mov (T 19)), none⟩]
def xq27_6 : List XO := zQT
theorem xq27_6e : E3 xq27_6 zQT := E3.rfl
abbrev zQU : List XO := [
  ⟨some 20, .p (.mov (T 6)), none⟩,
  ⟨some 21, .p (.mov (T 6)), none⟩,
  ⟨some 22, .p (.nilc (T 21)), none⟩,
  ⟨some 23, .p (.faddr 0 (T 22)), none⟩,
  ⟨some 24, .r (.load1 (T 23)), none⟩,
  ⟨some 25, .p (.mov (T 0)), none⟩,
  ⟨some 26, .p (.mov (T 7)), none⟩,
  ⟨some 27, .p (.cint .u8 (T 26)), none⟩,
  ⟨some 28, .a (.bslice [(.int .u8 0)] 1 [(0, 1, (T 27))]), none⟩,
  ⟨some 29, .r (.cb2s (T 28)), none⟩,
  ⟨some 30, .a (.bslice [(.string (zB [])), (.string (zB []))] 2 [(0, 1, (T 25)), (1, 1, (T 29))]), none⟩,
  ⟨some 31, .call (.func 64) [(C (.int .u8 75)), (T 30)], none⟩,
  ⟨some 32, .a (.bslice [(.string (zB []))] 1 [(0, 1, (T 31))]), none⟩,
  ⟨some 33, .e (.append 1 16 (T 24) (T 32)), none⟩,
  ⟨some 34, .p (.nilc (T 20)), none⟩,
  ⟨some 35, .p (.faddr 0 (T 34)), none⟩,
  ⟨none, .e (.store 1 (T 35) (T 33)), none⟩]
def xq27_7 : List XO := zQU
theorem xq27_7e : E3 xq27_7 zQU := E3.rfl
abbrev zQV : List XO := [
  ⟨some 36, .p (.bin .add (T 17) (C (.int .i64 1))), none⟩,
  ⟨some 17, .p (.mov (T 36)), none⟩]
def xq27_8 : List XO := zQV
theorem xq27_8e : E3 xq27_8 zQV := E3.rfl
def zH4 : XC :=
  .seq (.ops xq27_5) (.seq (.cond (T 18) (.skip) (.exit 0)) (.seq (.block 1 (.seq (.ops xq27_6) (.draw xq27_7 [(4, (11, [])), (4, (13, [])), (9, (11, []))]))) (.ops xq27_8)))
def xq27_9 : XC := zH4
theorem xq27_9k {pr : Prog} {k : List KI} {Q : XE → Fr → Heap → Prop} {t : Fr} {h : Heap} (hw : wpk pr zH4 k Q t h) : wpk pr xq27_9 k Q t h := hw
abbrev zQN : List XO := [
  ⟨some 37, .p (.mov (T 6)), none⟩,
  ⟨some 4, .p (.mov (T 37)), none⟩,
  ⟨some 5, .p (.mov (C (.int .i64 0))), none⟩]
def zQM : List XO := zQN
theorem xq27_10e : E3 zQM zQN := E3.rfl
def xq27 : XF := ⟨2, [.tmp 4, .tmp 5],
  .seq (.ops xq27_0) (.seq (.seq (.ops xq27_1) (.cond (T 13) (.seq (.ops xq27_2) (.ret)) (.skip))) (.seq (.ops xq27_3) (.seq (.seq (.ops xq27_4) (.block 0 (.loop xq27_9))) (.seq (.ops zQM) (.ret)))))⟩
def yq27 := PLift.up (And.intro (And.intro (And.intro (@xq27_0e) (@xq27_1e)) (And.intro (@xq27_2e) (And.intro (@xq27_3e) (@xq27_4e)))) (And.intro (And.intro (@xq27_5e) (@xq27_6e)) (And.intro (@xq27_7e) (And.intro (@xq27_8e) (@xq27_10e)))))
theorem cq27 : zb Try.prog Try.f27 = some xq27 := by kernel_rfl
end Go.X
end
