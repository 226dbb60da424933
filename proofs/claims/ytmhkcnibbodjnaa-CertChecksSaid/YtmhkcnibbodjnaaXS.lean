/- Who is in a number's bits; the statement of certificates that show a header. -/
import Derived.Test.YtmhkcnibbodjnaaXR
set_option linter.unusedSimpArgs false
set_option linter.unusedVariables false
set_option maxHeartbeats 2000000
section
open Go Go.X
namespace Go.X
set_option linter.unusedVariables false
theorem and_low {a : Int} {n : Nat} (hn : n < 63) : binX .and (.int .i64 a) (.int .i64 ((2 ^ n - 1 : Nat) : Int)) = some (.int .i64 (a % (2 ^ n : Nat))) := by
  rw [bin_and]
  congr 2
  have hp : (2 : Nat) ^ n < 2 ^ 63 := Nat.pow_lt_pow_right (by decide) hn
  have hpos : 0 < (2 : Nat) ^ n := Nat.pow_pos (by decide)
  have e1 : (BitVec.ofInt IntKind.i64.bits ((2 ^ n - 1 : Nat) : Int)).toNat = 2 ^ n - 1 := by
    show (BitVec.ofInt 64 ((2 ^ n - 1 : Nat) : Int)).toNat = _
    rw [BitVec.toNat_ofInt]
    omega
  have e2 : (BitVec.ofInt IntKind.i64.bits a &&& BitVec.ofInt IntKind.i64.bits ((2 ^ n - 1 : Nat) : Int)).toNat = (BitVec.ofInt IntKind.i64.bits a).toNat % 2 ^ n := by
    rw [BitVec.toNat_and, e1, Nat.and_two_pow_sub_one_eq_mod]
  rw [e2]
  have e3 : (BitVec.ofInt IntKind.i64.bits a).toNat = (a % 18446744073709551616).toNat := by
    show (BitVec.ofInt 64 a).toNat = _
    rw [BitVec.toNat_ofInt]
    rfl
  rw [e3]
  have h64 : (18446744073709551616 : Int) = ((2 ^ n : Nat) : Int) * ((2 ^ (64 - n) : Nat) : Int) := by
    rw [← Int.natCast_mul, ← Nat.pow_add, show n + (64 - n) = 64 by omega]
    rfl
  have h1 : ((a % 18446744073709551616).toNat % 2 ^ n : Nat) = ((a % ((2 ^ n : Nat) : Int)) : Int) := by
    rw [Int.natCast_emod, Int.toNat_of_nonneg (Int.emod_nonneg _ (by decide)), h64, Int.emod_emod_of_dvd _ ⟨_, rfl⟩]
  rw [h1, wrap_i64]
  · have := Int.emod_nonneg a (b := ((2 ^ n : Nat) : Int)) (by omega); omega
  · have := Int.emod_lt_of_pos a (b := ((2 ^ n : Nat) : Int)) (by omega); omega
theorem and_65535 {a : Int} : binX .and (.int .i64 a) (.int .i64 65535) = some (.int .i64 (a % 65536)) := and_low (n := 16) (by decide)
theorem and_1 {a : Int} : binX .and (.int .i64 a) (.int .i64 1) = some (.int .i64 (a % 2)) := and_low (n := 1) (by decide)
def bitI (a : Int) (i : Nat) : Bool := (a / (2 ^ i : Nat)) % 2 == 1
theorem shr_bit {a : Int} {i : Nat} (hi : i < 64) : binX .shr (.int .i64 a) (uw .u64 i) = some (.int .i64 (a / (2 ^ i : Nat))) := by
  have e : uw .u64 i = .int .u64 (i : Int) := (zBD (by omega)).symm
  rw [e, bin_shr (by omega), Int.toNat_natCast]
  have h1 : min i IntKind.i64.bits = i := Nat.min_eq_left (by show i ≤ 64; omega)
  rw [h1]
  congr 2
  rw [Int.fdiv_eq_ediv_of_nonneg _ (Int.le_of_lt (Int.pow_pos (by decide)))]
  congr 1
theorem bitI_mod {a : Int} {i : Nat} (hi : i < 16) : bitI (a % 65536) i = bitI a i := by
  have : i = 0 ∨ i = 1 ∨ i = 2 ∨ i = 3 ∨ i = 4 ∨ i = 5 ∨ i = 6 ∨ i = 7 ∨ i = 8 ∨ i = 9 ∨ i = 10 ∨ i = 11 ∨ i = 12 ∨ i = 13 ∨ i = 14 ∨ i = 15 := by omega
  rcases this with h | h | h | h | h | h | h | h | h | h | h | h | h | h | h | h <;>
  · subst h
    unfold bitI
    congr 1
    simp only [Nat.reducePow]
    omega
def zt (a : Int) (n : Nat) : List Int := ((List.range n).filter (bitI a)).map fun i : Nat => (i : Int)
theorem bitsI_succ (a : Int) (n : Nat) : zt a (n + 1) = zt a n ++ (if bitI a n then [(n : Int)] else []) := by
  unfold zt
  rw [List.range_succ, List.filter_append, List.map_append]
  cases h : bitI a n <;> simp [List.filter, h]
theorem bitsI_len (a : Int) : ∀ n, (zt a n).length ≤ n
  | 0 => by simp [zt]
  | n + 1 => by
    rw [bitsI_succ]
    have := bitsI_len a n
    split <;> simp <;> omega
theorem bitsI_mem {a : Int} {n : Nat} {x : Int} : x ∈ zt a n ↔ ∃ i : Nat, i < n ∧ bitI a i = true ∧ x = (i : Int) := by
  unfold zt
  simp only [List.mem_map, List.mem_filter, List.mem_range]
  constructor
  · rintro ⟨i, ⟨h1, h2⟩, rfl⟩; exact ⟨i, h1, h2, rfl⟩
  · rintro ⟨i, h1, h2, rfl⟩; exact ⟨i, ⟨h1, h2⟩, rfl⟩
theorem bitsI_range {a : Int} {n : Nat} (hn : n ≤ 16) : ∀ x ∈ zt a n, -9223372036854775808 ≤ x ∧ x < 9223372036854775808 := by
  intro x hx
  obtain ⟨i, h, _, rfl⟩ := bitsI_mem.1 hx
  omega
theorem bitsI_mod {a : Int} {n : Nat} (hn : n ≤ 16) : zt (a % 65536) n = zt a n := by
  unfold zt
  congr 1
  apply List.filter_congr
  intro i hi
  rw [List.mem_range] at hi
  exact bitI_mod (by omega)
theorem bitsI_sorted (a : Int) (n : Nat) : (zt a n).Pairwise (· < ·) := by
  unfold zt
  rw [List.pairwise_map]
  refine List.Pairwise.imp (R := (· < ·)) (by intro x y h; omega) ?_
  exact List.Pairwise.filter _ List.pairwise_lt_range
end Go.X
end
section
open Go Go.X
namespace Go.X
set_option linter.unusedVariables false
def RdInts (h : Heap) (v : Value) (l : List Int) : Prop := ∀ h', Grows h h' → zAC h' v = some l
theorem RdInts.grow {h h' : Heap} {v : Value} {l : List Int} (hr : RdInts h v l) (g : Grows h h') : RdInts h' v l := fun h2 g2 => hr h2 (g.trans g2)
theorem RdInts.now {h : Heap} {v : Value} {l : List Int} (hr : RdInts h v l) : zAC h v = some l := hr h (Grows.refl h)
theorem Own.ints {h : Heap} {S : Nat → Prop} {v : Value} {n : Nat} {l : List Int} (ho : Own h S 1 v n (zAu l)) (hb : ∀ x ∈ l, -9223372036854775808 ≤ x ∧ x < 9223372036854775808) : zAC h v = some l := by
  obtain ⟨a, cap, rfl, hs⟩ := ho.shape
  by_cases h0 : n = 0
  · subst h0
    have := ho.nil_of
    obtain rfl : l = [] := by cases l with | nil => rfl | cons x l => simp [zAu] at this
    cases a <;> simp [zAC]
  · obtain ⟨B, off, sp, rfl, h1, _⟩ := hs h0
    rw [Nat.mul_one] at h1
    simp only [zAC]
    rw [if_neg h0]
    simp only [h1, intCells_cells hb]
theorem Own.rdInts {h : Heap} {S : Nat → Prop} {v : Value} {n : Nat} {l : List Int} (ho : Own h S 1 v n (zAu l)) (hb : ∀ x ∈ l, -9223372036854775808 ≤ x ∧ x < 9223372036854775808) : RdInts h v l := fun _ g => (ho.grow g).ints hb
theorem fill_int1 {a : Int} : zz [.int .i64 0] [(0, 1, .int .i64 a)] = some [.int .i64 a] := rfl
theorem Own.pushI {g : Heap} {S : Nat → Prop} {v : Value} {n : Nat} {q : List Int} (hO : Own g S 1 v n (zAu q)) (x : Int) (hroom : (n + 1) * 8 ≤ zU) :
    ∃ v' g', zAr (g.new [.int .i64 x]) 1 8 v (.slice (some ⟨g.next, 0, none⟩) 1 1) = some (v', g') ∧ Own g' (fun A => S A ∨ g.next ≤ A) 1 v' (n + 1) (zAu (q ++ [x])) ∧ Keeps S g g' := by
  have hO1 := hO.grow (Grows.new (l := [.int .i64 x]))
  have hs1 := (Var.new_self (h := g) (l := [.int .i64 x])).src (n := 1) (esz := 1) (bytes := 8) (s := v) (sp := none) (c := 1) rfl (by decide)
  obtain ⟨v', g2, e2, hO2, k2⟩ := hO1.append (bytes := 8) (m := 1) (new := [.int .i64 x]) rfl rfl (by decide) (by decide) hroom
  have hk : Keeps S g g2 := (Keeps.new (W := S)).trans k2 (fun _ _ e => e)
  refine ⟨v', g2, by rw [hs1, e2], ?_, hk⟩
  have e : zAu q ++ [.int .i64 x] = zAu (q ++ [x]) := by simp [zAu]
  rw [e] at hO2
  exact hO2.mono fun A hA => hA.imp id fun q => by
    have : (g.new [.int .i64 x]).next = g.next + 1 := rfl
    omega
theorem list_run {pr : Prog} (hn : pr.prim 47 = none) (hc : pr.code 47 = some xq47) {h : Heap} {a : Int} :
    ∃ v h', cfi pr 47 [.int .i64 a] h = some (v, h') ∧ RdInts h' v (zt a 16) ∧ Grows h h' := by
  have hr64 : zU = 140737488355328 := rfl
  have : ∃ v h', cfi pr 47 [.int .i64 a] h = some (v, h') ∧ Own h' (fun A => h.next ≤ A) 1 v (zt a 16).length (zAu (zt a 16)) ∧ Grows h h' := by
    refine zAt hn hc rfl ?_
    unfold xq47
    dsimp only [zd]
    refine wpk.out (k := []) ?_
    (repeat (first | refine zS ?_ | refine zL ?_ | refine zR ?_ | refine zE ?_ | refine zC ?_ | refine zJ ?_ | refine zK ?_ | refine zP ?_ | refine zF ?_ | refine zH ?_ | refine zG ?_ | refine zI (by decide) ?_ | refine zQ ?_ | ((first | refine zD ?_ | refine zN ?_ | refine zT rfl rfl ?_ | refine zO rfl ?_ | refine zM ?_); simp only [yq47.down, zA, lemS.down, lemC.down, Int.reduceBEq, Nat.reduceAdd, Nat.reduceLeDiff, reduceIte, Nat.reduceEqDiff, Int.reduceLT, Int.reduceLE, Int.reduceGT, Int.reduceGE, Int.reduceEq, Int.reduceAdd, Int.reduceSub, Int.reduceMul, reduceCtorEq, lemH.down])))
    have hO : Own (h.new []) (fun A => h.next ≤ A) 1 (.slice (some ⟨h.next, 0, none⟩) 0 0) 0 (zAu []) := (Own.newSlice (sp := none) rfl (.inl rfl)).mono fun A hA => Nat.le_of_eq hA.symm
    have gg : Grows h (h.new []) := Grows.new
    generalize h.new [] = h1 at *
    refine zAA (fun m t g => ∃ i v, m = 16 - i ∧ i ≤ 16 ∧ Own g (fun A => h.next ≤ A) 1 v (zt a i).length (zAu (zt a i)) ∧ Grows h g ∧ t.get 0 = .int .i64 a ∧ t.get 3 = v ∧ t.get 4 = .int .i64 (i : Int)) ?_ 16 _ _ ⟨0, _, rfl, by omega, hO, gg, by simp only [yq47.down, zA, lemS.down, lemC.down, Int.reduceBEq, Nat.reduceAdd, Nat.reduceLeDiff, reduceIte, Nat.reduceEqDiff, Int.reduceLT, Int.reduceLE, Int.reduceGT, Int.reduceGE, Int.reduceEq, Int.reduceAdd, Int.reduceSub, Int.reduceMul, reduceCtorEq], by simp only [yq47.down, zA, lemS.down, lemC.down, Int.reduceBEq, Nat.reduceAdd, Nat.reduceLeDiff, reduceIte, Nat.reduceEqDiff, Int.reduceLT, Int.reduceLE, Int.reduceGT, Int.reduceGE, Int.reduceEq, Int.reduceAdd, Int.reduceSub, Int.reduceMul, reduceCtorEq], by (simp only [yq47.down, zA, lemS.down, lemC.down, Int.reduceBEq, Nat.reduceAdd, Nat.reduceLeDiff, reduceIte, Nat.reduceEqDiff, Int.reduceLT, Int.reduceLE, Int.reduceGT, Int.reduceGE, Int.reduceEq, Int.reduceAdd, Int.reduceSub, Int.reduceMul, reduceCtorEq]) <;> rfl⟩
    rintro m t g ⟨i, v, rfl, hi, o3, gg, t0, t3, t4⟩ hnext
    refine xq47_7k ?_
    dsimp only [xq47_7b]
    (repeat (first | refine zS ?_ | refine zL ?_ | refine zR ?_ | refine zE ?_ | refine zC ?_ | refine zJ ?_ | refine zK ?_ | refine zP ?_ | refine zF ?_ | refine zH ?_ | refine zG ?_ | refine zI (by decide) ?_ | refine zQ ?_ | ((first | refine zD ?_ | refine zN ?_ | refine zT rfl rfl ?_ | refine zO rfl ?_ | refine zM ?_); simp only [yq47.down, zA, lemS.down, lemC.down, Int.reduceBEq, Nat.reduceAdd, Nat.reduceLeDiff, reduceIte, Nat.reduceEqDiff, Int.reduceLT, Int.reduceLE, Int.reduceGT, Int.reduceGE, Int.reduceEq, Int.reduceAdd, Int.reduceSub, Int.reduceMul, reduceCtorEq, lemH.down, t0, t3, t4])))
    refine ⟨fun hlt => ?_, fun hge => ?_⟩
    · have hi' : i < 16 := by omega
      have w1 : IntKind.i64.wrap ((i : Int) + 1) = ((i + 1 : Nat) : Int) := by rw [wrap_i64 (by omega) (by omega)]; omega
      have ci : zAm .u64 (.int .i64 (i : Int)) = some (uw .u64 i) := zBI rfl
      have sh := shr_bit (a := a) (i := i) (by omega)
      have an := and_1 (a := a / (2 ^ i : Nat))
      have hb := bitsI_len a i
      have hs := bitsI_succ a i
      by_cases c : bitI a i = true
      · have d : ((a / (2 ^ i : Nat)) % 2 == 1) = true := c
        obtain ⟨v2, h2, e2, o2, k2⟩ := o3.pushI (i : Int) (by omega)
        rw [if_pos c] at hs
        (repeat (first | refine zS ?_ | refine zL ?_ | refine zR ?_ | refine zE ?_ | refine zC ?_ | refine zJ ?_ | refine zK ?_ | refine zP ?_ | refine zF ?_ | refine zH ?_ | refine zG ?_ | refine zI (by decide) ?_ | refine zQ ?_ | ((first | refine zD ?_ | refine zN ?_ | refine zT rfl rfl ?_ | refine zO rfl ?_ | refine zM ?_); simp only [yq47.down, zA, lemS.down, lemC.down, Int.reduceBEq, Nat.reduceAdd, Nat.reduceLeDiff, reduceIte, Nat.reduceEqDiff, Int.reduceLT, Int.reduceLE, Int.reduceGT, Int.reduceGE, Int.reduceEq, Int.reduceAdd, Int.reduceSub, Int.reduceMul, reduceCtorEq, lemH.down, t0, t3, t4, p_cint, ci, sh, an, d, fill_int1, e2, w1])))
        refine hnext (16 - (i + 1)) _ _ (by omega) ⟨i + 1, v2, rfl, by omega, ?_, gg.then k2 (fun A hA q => by omega), by simp only [yq47.down, zA, lemS.down, lemC.down, Int.reduceBEq, Nat.reduceAdd, Nat.reduceLeDiff, reduceIte, Nat.reduceEqDiff, Int.reduceLT, Int.reduceLE, Int.reduceGT, Int.reduceGE, Int.reduceEq, Int.reduceAdd, Int.reduceSub, Int.reduceMul, reduceCtorEq, t0], by simp only [yq47.down, zA, lemS.down, lemC.down, Int.reduceBEq, Nat.reduceAdd, Nat.reduceLeDiff, reduceIte, Nat.reduceEqDiff, Int.reduceLT, Int.reduceLE, Int.reduceGT, Int.reduceGE, Int.reduceEq, Int.reduceAdd, Int.reduceSub, Int.reduceMul, reduceCtorEq], by simp only [yq47.down, zA, lemS.down, lemC.down, Int.reduceBEq, Nat.reduceAdd, Nat.reduceLeDiff, reduceIte, Nat.reduceEqDiff, Int.reduceLT, Int.reduceLE, Int.reduceGT, Int.reduceGE, Int.reduceEq, Int.reduceAdd, Int.reduceSub, Int.reduceMul, reduceCtorEq]⟩
        rw [hs, List.length_append]
        have := gg.next
        exact o2.mono fun A hA => by rcases hA with q | q <;> omega
      · have d : ((a / (2 ^ i : Nat)) % 2 == 1) = false := by simpa [bitI] using c
        rw [if_neg c, List.append_nil] at hs
        (repeat (first | refine zS ?_ | refine zL ?_ | refine zR ?_ | refine zE ?_ | refine zC ?_ | refine zJ ?_ | refine zK ?_ | refine zP ?_ | refine zF ?_ | refine zH ?_ | refine zG ?_ | refine zI (by decide) ?_ | refine zQ ?_ | ((first | refine zD ?_ | refine zN ?_ | refine zT rfl rfl ?_ | refine zO rfl ?_ | refine zM ?_); simp only [yq47.down, zA, lemS.down, lemC.down, Int.reduceBEq, Nat.reduceAdd, Nat.reduceLeDiff, reduceIte, Nat.reduceEqDiff, Int.reduceLT, Int.reduceLE, Int.reduceGT, Int.reduceGE, Int.reduceEq, Int.reduceAdd, Int.reduceSub, Int.reduceMul, reduceCtorEq, lemH.down, t0, t3, t4, p_cint, ci, sh, an, d, w1])))
        exact hnext (16 - (i + 1)) _ _ (by omega) ⟨i + 1, v, rfl, by omega, by rw [hs]; exact o3, gg, by simp only [yq47.down, zA, lemS.down, lemC.down, Int.reduceBEq, Nat.reduceAdd, Nat.reduceLeDiff, reduceIte, Nat.reduceEqDiff, Int.reduceLT, Int.reduceLE, Int.reduceGT, Int.reduceGE, Int.reduceEq, Int.reduceAdd, Int.reduceSub, Int.reduceMul, reduceCtorEq, t0], by simp only [yq47.down, zA, lemS.down, lemC.down, Int.reduceBEq, Nat.reduceAdd, Nat.reduceLeDiff, reduceIte, Nat.reduceEqDiff, Int.reduceLT, Int.reduceLE, Int.reduceGT, Int.reduceGE, Int.reduceEq, Int.reduceAdd, Int.reduceSub, Int.reduceMul, reduceCtorEq, t3], by simp only [yq47.down, zA, lemS.down, lemC.down, Int.reduceBEq, Nat.reduceAdd, Nat.reduceLeDiff, reduceIte, Nat.reduceEqDiff, Int.reduceLT, Int.reduceLE, Int.reduceGT, Int.reduceGE, Int.reduceEq, Int.reduceAdd, Int.reduceSub, Int.reduceMul, reduceCtorEq]⟩
    · obtain rfl : i = 16 := by omega
      (repeat (first | refine zS ?_ | refine zL ?_ | refine zR ?_ | refine zE ?_ | refine zC ?_ | refine zJ ?_ | refine zK ?_ | refine zP ?_ | refine zF ?_ | refine zH ?_ | refine zG ?_ | refine zI (by decide) ?_ | refine zQ ?_ | ((first | refine zD ?_ | refine zN ?_ | refine zT rfl rfl ?_ | refine zO rfl ?_ | refine zM ?_); simp only [yq47.down, zA, lemS.down, lemC.down, Int.reduceBEq, Nat.reduceAdd, Nat.reduceLeDiff, reduceIte, Nat.reduceEqDiff, Int.reduceLT, Int.reduceLE, Int.reduceGT, Int.reduceGE, Int.reduceEq, Int.reduceAdd, Int.reduceSub, Int.reduceMul, reduceCtorEq, lemH.down, t0, t3, t4])))
      exact ⟨.inr rfl, v, by simp only [yq47.down, zA, lemS.down, lemC.down, Int.reduceBEq, Nat.reduceAdd, Nat.reduceLeDiff, reduceIte, Nat.reduceEqDiff, Int.reduceLT, Int.reduceLE, Int.reduceGT, Int.reduceGE, Int.reduceEq, Int.reduceAdd, Int.reduceSub, Int.reduceMul, reduceCtorEq], o3, gg⟩
  obtain ⟨v, h', e, o, g⟩ := this
  exact ⟨v, h', e, o.rdInts (bitsI_range (by omega)), g⟩
end Go.X
end
section
open Go Go.X
namespace Go.X
set_option linter.unusedVariables false
def zr (x : Hdr) (l : List Int) : TagL := l.map fun i => (i, tagC i.toNat x)
theorem zBB (x : Hdr) (l : List Int) : (zr x l).length = l.length := List.length_map ..
theorem tagsP_fst (x : Hdr) (l : List Int) : (zr x l).map (·.1) = l := by simp [zr, Function.comp_def]
theorem tagsP_sorted {x : Hdr} {l : List Int} (h : l.Pairwise (· < ·)) : zBC (zr x l) := by
  unfold zBC zr
  rw [List.pairwise_map]
  exact h
theorem tagsP_inI {x : Hdr} {l : List Int} (h : ∀ i ∈ l, inI i) : ∀ q ∈ zr x l, inI q.1 := by
  intro q hq
  unfold zr at hq
  rw [List.mem_map] at hq
  obtain ⟨i, hi, rfl⟩ := hq
  exact h i hi
theorem placeT_front {l : TagL} {r : Int} (h : ∀ y ∈ l, ¬ y.1 < r) : zAS l r = 0 := by
  cases l with
  | nil => rfl
  | cons y l =>
    unfold zAS
    have := h y (by simp)
    rw [List.takeWhile_cons_of_neg (by simpa using this)]
    rfl
theorem addT_front {l : TagL} {q : Int × List UInt8} (h : ∀ y ∈ l, q.1 < y.1) : addT l q = q :: l := by
  have hp : zAS l q.1 = 0 := placeT_front fun y hy => by have := h y hy; omega
  have hi : isT l q.1 = false := by
    unfold isT
    rw [hp]
    cases l with
    | nil => rfl
    | cons y l =>
      have := h y (by simp)
      have e : ((y :: l).getD 0 (0, [])).1 = y.1 := rfl
      rw [e]
      have : (y.1 == q.1) = false := by rw [beq_eq_false_iff_ne]; omega
      rw [this, Bool.and_false]
  unfold addT
  rw [hi, hp]
  rfl
theorem addT_head {l : TagL} {r : Int} {t u : List UInt8} (h : ∀ y ∈ l, r < y.1) : addT ((r, t) :: l) (r, u) = (r, t) :: l := by
  have hp : zAS ((r, t) :: l) r = 0 := placeT_front fun y hy => by
    rcases List.mem_cons.1 hy with rfl | hy
    · exact Int.lt_irrefl _
    · have := h y hy; omega
  have hi : isT ((r, t) :: l) r = true := by
    unfold isT
    rw [hp]
    simp
  unfold addT
  show (if isT ((r, t) :: l) r = true then _ else _) = _
  rw [if_pos hi]
theorem tagsP_getD {x : Hdr} {l : List Int} {j : Nat} (hj : j < l.length) : (zr x l).getD j (0, []) = (l.getD j 0, tagC (l.getD j 0).toNat x) := by
  unfold zr
  simp [List.getD_eq_getElem?_getD, List.getElem?_eq_getElem hj]
theorem sorted_getD {l : List Int} (h : l.Pairwise (· < ·)) {i j : Nat} (hij : i < j) (hj : j < l.length) : l.getD i 0 < l.getD j 0 := by
  have := (List.pairwise_iff_getElem.1 h) i j (by omega) hj hij
  simpa [List.getD_eq_getElem?_getD, List.getElem?_eq_getElem hj, List.getElem?_eq_getElem (show i < l.length by omega)] using this
theorem getD_mem {l : List Int} {j : Nat} (hj : j < l.length) : l.getD j 0 ∈ l := by
  rw [List.getD_eq_getElem?_getD, List.getElem?_eq_getElem hj]
  exact List.getElem_mem hj
def Few (l : List Int) : Prop := l.Pairwise (· < ·) ∧ ∀ x ∈ l, 0 ≤ x ∧ x < 16
theorem few_bits (a : Int) : Few (zt a 16) := ⟨bitsI_sorted a 16, fun x hx => by
  obtain ⟨i, h, _, rfl⟩ := bitsI_mem.1 hx
  omega⟩
theorem Few.at {l : List Int} (h : Few l) {j : Nat} (hj : j < l.length) : ∃ k : Nat, k < 16 ∧ l.getD j 0 = (k : Int) := by
  have := h.2 _ (getD_mem hj)
  exact ⟨(l.getD j 0).toNat, by omega, by omega⟩
theorem fewI_ok {l : List Int} (h : Few l) {n j : Nat} (hj : j < l.length) : zAD zAg (zZ n) (zr (zZ n) l) j = true := by
  obtain ⟨k, hk, e⟩ := h.at hj
  unfold zAD
  rw [tagsP_getD hj, e]
  have g : goodP zAg (zZ n) (k : Int) (tagC (k : Int).toNat (zZ n)) = true := by rw [Int.toNat_natCast]; exact zCd hk
  rw [g, Bool.and_true]
  by_cases h0 : 0 < j
  · rw [tagsP_getD (by omega)]
    have := sorted_getD h.1 (i := j - 1) (j := j) (by omega) hj
    have : decide (((l.getD (j - 1) 0, tagC (l.getD (j - 1) 0).toNat (zZ n)).1 : Int) ≥ ((k : Int), tagC (k : Int).toNat (zZ n)).1) = false := decide_eq_false (by
      show ¬ (l.getD (j - 1) 0 ≥ (k : Int))
      omega)
    rw [this, Bool.and_false]
    rfl
  · rw [decide_eq_false h0]
    rfl
theorem few_check {l : List Int} (h : Few l) (n : Nat) (ms : List Int) : zAl zAg (zZ n) (zr (zZ n) l) ms = if zAX ms = false then 1 else if mostP ms l then 0 else 170 := by
  unfold zAl
  rw [headE17, tagsP_fst, zBB]
  have ha : (List.range l.length).all (zAD zAg (zZ n) (zr (zZ n) l)) = true := by
    rw [List.all_eq_true]
    intro j hj
    exact fewI_ok h (by simpa using hj)
  rw [ha]
  rfl
theorem few_members {l : List Int} (h : Few l) : zAX l = decide (1 ≤ l.length) := by
  refine membersP_good fun j hj => ?_
  obtain ⟨k, hk, e⟩ := h.at hj
  unfold memAt
  rw [e]
  have d1 : decide ((k : Int) < 0) = false := decide_eq_false (by omega)
  have d2 : decide ((k : Int) ≥ 16) = false := decide_eq_false (by omega)
  rw [d1, d2]
  by_cases h0 : 0 < j
  · have := sorted_getD h.1 (i := j - 1) (j := j) (by omega) hj
    have : decide (l.getD (j - 1) 0 ≥ (k : Int)) = false := decide_eq_false (by omega)
    rw [this, Bool.and_false]
    rfl
  · rw [decide_eq_false h0]
    rfl
theorem check_bad {x : Hdr} {l : TagL} {ms : List Int} {j : Nat} (hm : zAX ms = true) (hx : zAL x = 0) (hj : j < l.length) (hb : zAD zAg x l j = false) : zAl zAg x l ms = 170 := by
  unfold zAl
  have ha : (List.range l.length).all (zAD zAg x l) = false := by
    rw [List.all_eq_false]
    exact ⟨j, by simpa using hj, by simp [hb]⟩
  rw [hm, hx, ha]
  rfl
theorem check_zero {l : TagL} {ms : List Int} (hm : zAX ms = true) : zAl zAg ⟨0, [], [], [], []⟩ l ms = 80 := by
  unfold zAl
  have e : zAL ⟨0, [], [], [], []⟩ = 80 := by decide
  rw [hm, e]
  rfl
def zAk (w : Int) (l : List Int) : Nat := (l.filter fun x => bitI w x.toNat).length
theorem bothN_cons (w : Int) (x : Int) (l : List Int) : zAk w (x :: l) = zAk w l + (if bitI w x.toNat then 1 else 0) := by
  unfold zAk
  cases h : bitI w x.toNat <;> simp [List.filter, h]
theorem bothN_le (w : Int) (l : List Int) : zAk w l ≤ l.length := List.length_filter_le ..
theorem both_eq (w s : Int) : ((zt w 16).filter fun m => (zt s 16).contains m).length = zAk w (zt s 16) := by
  unfold zAk
  have e1 : (zt w 16).filter (fun m => (zt s 16).contains m) = (((List.range 16).filter (bitI w)).filter (bitI s)).map fun i : Nat => (i : Int) := by
    show (List.map _ _).filter _ = _
    rw [List.filter_map]
    congr 1
    apply List.filter_congr
    intro i hi
    have hi : i < 16 := by
      rw [List.mem_filter, List.mem_range] at hi
      exact hi.1
    simp only [Function.comp_apply]
    cases h : bitI s i
    · rw [Bool.eq_false_iff]
      intro hc
      rw [List.contains_iff_mem, bitsI_mem] at hc
      obtain ⟨k, _, hk, e⟩ := hc
      obtain rfl : i = k := by omega
      rw [h] at hk
      exact absurd hk (by decide)
    · rw [List.contains_iff_mem, bitsI_mem]
      exact ⟨i, hi, h, rfl⟩
  have e2 : (zt s 16).filter (fun x => bitI w x.toNat) = (((List.range 16).filter (bitI s)).filter (bitI w)).map fun i : Nat => (i : Int) := by
    show (List.map _ _).filter _ = _
    rw [List.filter_map]
    congr 1
  rw [e1, e2, List.length_map, List.length_map, List.filter_filter, List.filter_filter]
  congr 1
  apply List.filter_congr
  intro i _
  exact Bool.and_comm _ _
def want17 (w s : Int) : Nat := if (zt w 16).length = 0 then 1 else if 2 * zAk w (zt s 16) ≤ (zt w 16).length then 170 else 0
theorem want17_ok (w s : Int) (n : Nat) : zAl zAg (zZ n) (zr (zZ n) (zt s 16)) (zt w 16) = want17 w s := by
  rw [few_check (few_bits s), few_members (few_bits w)]
  unfold want17 mostP
  rw [both_eq]
  generalize (zt w 16).length = a
  generalize zAk w (zt s 16) = b
  by_cases h0 : a = 0
  · subst h0
    rfl
  · rw [if_neg (by simpa using h0), if_neg h0]
    have d1 : decide (0 < a) = true := decide_eq_true (by omega)
    rw [d1, Bool.true_and]
    by_cases h1 : 2 * b ≤ a
    · rw [if_pos h1, if_neg]
      simp only [decide_eq_true_eq]
      omega
    · rw [if_neg h1, if_pos]
      simp only [decide_eq_true_eq]
      omega
def turnB (t : List UInt8) : List UInt8 := (t.getD 0 0 ^^^ 1) :: t.drop 1
theorem turnB_ne {t : List UInt8} (h : t.length = 32) : turnB t ≠ t := by
  cases t with
  | nil => simp at h
  | cons b t =>
    intro e
    have e : (b ^^^ 1) :: t = b :: t := e
    have e1 : b ^^^ 1 = b := (List.cons.inj e).1
    have : b ^^^ (b ^^^ 1) = b ^^^ b := by rw [e1]
    rw [← UInt8.xor_assoc, UInt8.xor_self, UInt8.zero_xor] at this
    exact absurd this (by decide)
theorem getD_set {l : TagL} {j : Nat} {q : Int × List UInt8} (hj : j < l.length) : (l.set j q).getD j (0, []) = q := by
  rw [List.getD_eq_getElem?_getD, List.getElem?_set_self hj]
  rfl
theorem few_turned {l : List Int} (h : Few l) {n j : Nat} (hj : j < l.length) {ms : List Int} (hm : zAX ms = true) : zAl zAg (zZ n) ((zr (zZ n) l).set j (l.getD j 0, turnB (tagC (l.getD j 0).toNat (zZ n)))) ms = 170 := by
  obtain ⟨k, hk, e⟩ := h.at hj
  refine check_bad (j := j) hm (headE17 n) (by rw [List.length_set, zBB]; exact hj) ?_
  unfold zAD
  rw [getD_set (by rw [zBB]; exact hj), e, Int.toNat_natCast, good17 hk]
  have : (tagC k (zZ n) == turnB (tagC k (zZ n))) = false := by
    rw [beq_eq_false_iff_ne]
    exact fun e => turnB_ne (tagC_len _ _) e.symm
  rw [this, Bool.and_false]
theorem few_twice {l : List Int} (h : Few l) {n j : Nat} (hj : j < l.length) {ms : List Int} (hm : zAX ms = true) : zAl zAg (zZ n) (zr (zZ n) l ++ [(l.getD j 0, tagC (l.getD j 0).toNat (zZ n))]) ms = 170 := by
  refine check_bad (j := l.length) hm (headE17 n) (by rw [List.length_append, zBB]; exact Nat.lt_succ_self _) ?_
  have e1 : (zr (zZ n) l ++ [(l.getD j 0, tagC (l.getD j 0).toNat (zZ n))]).getD l.length (0, []) = (l.getD j 0, tagC (l.getD j 0).toNat (zZ n)) := by
    rw [List.getD_eq_getElem?_getD, List.getElem?_append_right (by rw [zBB]; exact Nat.le_refl _), zBB, Nat.sub_self]
    rfl
  have e2 : (zr (zZ n) l ++ [(l.getD j 0, tagC (l.getD j 0).toNat (zZ n))]).getD (l.length - 1) (0, []) = (l.getD (l.length - 1) 0, tagC (l.getD (l.length - 1) 0).toNat (zZ n)) := by
    rw [List.getD_eq_getElem?_getD, List.getElem?_append_left (by rw [zBB]; omega), ← List.getD_eq_getElem?_getD, tagsP_getD (by omega)]
  unfold zAD
  rw [e1, e2]
  have hle : l.getD (l.length - 1) 0 ≥ l.getD j 0 := by
    by_cases q : j = l.length - 1
    · rw [q]; exact Int.le_refl _
    · have := sorted_getD h.1 (i := j) (j := l.length - 1) (by omega) (by omega)
      omega
  have d1 : decide (0 < l.length) = true := decide_eq_true (by omega)
  have d2 : decide ((l.getD (l.length - 1) 0, tagC (l.getD (l.length - 1) 0).toNat (zZ n)).1 ≥ (l.getD j 0, tagC (l.getD j 0).toNat (zZ n)).1) = true := decide_eq_true hle
  rw [d1, d2]
  rfl
theorem drop_cons {l : List Int} {j : Nat} (hj : j < l.length) : l.drop j = l.getD j 0 :: l.drop (j + 1) := by
  rw [List.drop_eq_getElem_cons hj, List.getD_eq_getElem?_getD, List.getElem?_eq_getElem hj]
  rfl
theorem Few.drop {l : List Int} (h : Few l) (j : Nat) : Few (l.drop j) := ⟨h.1.drop, fun x hx => h.2 x (List.mem_of_mem_drop hx)⟩
theorem Few.lt_drop {l : List Int} (h : Few l) {j : Nat} (hj : j < l.length) : ∀ y ∈ l.drop (j + 1), l.getD j 0 < y := by
  have := (h.drop j).1
  rw [drop_cons hj] at this
  exact (List.pairwise_cons.1 this).1
theorem add_down {x : Hdr} {l : List Int} (h : Few l) {j : Nat} (hj : j < l.length) {t : List UInt8} (ht : t = tagC (l.getD j 0).toNat x) : addT (zr x (l.drop (j + 1))) (l.getD j 0, t) = zr x (l.drop j) := by
  rw [drop_cons hj, ht]
  exact addT_front fun y hy => by
    unfold zr at hy
    rw [List.mem_map] at hy
    obtain ⟨i, hi, rfl⟩ := hy
    exact h.lt_drop hj i hi
theorem add_again {x : Hdr} {l : List Int} (h : Few l) {j : Nat} (hj : j < l.length) {t : List UInt8} : addT (zr x (l.drop j)) (l.getD j 0, t) = zr x (l.drop j) := by
  rw [drop_cons hj]
  exact addT_head fun y hy => by
    have hy : y ∈ zr x (l.drop (j + 1)) := hy
    unfold zr at hy
    rw [List.mem_map] at hy
    obtain ⟨i, hi, rfl⟩ := hy
    exact h.lt_drop hj i hi
end Go.X
end
section
open Go Go.X
namespace Go.X
set_option linter.unusedVariables false
theorem cellsOfTags_set : ∀ {L : TagL} {j : Nat} {u : List UInt8}, j < L.length → putN (zg L) (j * 2 + 1) [.string (zB u)] = zg (L.set j ((L.getD j (0, [])).1, u))
  | q :: L, 0, u, _ => rfl
  | q :: L, j + 1, u, hj => by
    have ih := cellsOfTags_set (L := L) (j := j) (u := u) (by simpa using hj)
    have e1 : zg (q :: L) = .int .i64 q.1 :: .string (zB q.2) :: zg L := rfl
    have e2 : (q :: L).set (j + 1) (((q :: L).getD (j + 1) (0, [])).1, u) = q :: L.set j ((L.getD j (0, [])).1, u) := rfl
    have e3 : ∀ M, zg (q :: M) = .int .i64 q.1 :: .string (zB q.2) :: zg M := fun _ => rfl
    rw [e1, e2, e3, ← ih]
    have e4 : (j + 1) * 2 + 1 = (j * 2 + 1) + 1 + 1 := by omega
    rw [e4]
    unfold putN
    have e5 : ∀ x, (j * 2 + 1) + 1 + 1 + x = (j * 2 + 1 + x) + 1 + 1 := fun x => by omega
    rw [e5]
    simp only [List.take_succ_cons, List.drop_succ_cons, List.cons_append]
theorem Own.setTag {h : Heap} {S : Nat → Prop} {v : Value} {L : TagL} (ho : Own h S 2 v L.length (zg L)) (hb : ∀ q ∈ L, inI q.1) {j : Nat} (hj : j < L.length) (u : List UInt8) :
    ∃ B o h', (∀ k : IntKind, zAf 2 v (.int k (j : Int)) = some (.pointer (some ⟨B, o, none⟩))) ∧ zAG h 1 (.pointer (some ⟨B, o + 1, none⟩)) (.string (zB u)) = some (.tuple #[], h') ∧ Own h' S 2 v L.length (zg (L.set j ((L.getD j (0, [])).1, u))) ∧ Keeps S h h' ∧
      ∀ h2, Grows h2 h → RdTags h2 v L → ∀ sp, h2.load ⟨B, o + 1, sp⟩ = some (.string (zB (L.getD j (0, [])).2)) := by
  obtain ⟨B, off, sp, cap, h', rfl, st, o2, k2⟩ := ho.putAt (by omega) (k := j * 2 + 1) (vs := [.string (zB u)]) (by show j * 2 + 1 + 1 ≤ L.length * 2; omega) rfl
  have ia : ∀ k : IntKind, zAf 2 (.slice (some ⟨B, off, sp⟩) L.length cap) (.int k (j : Int)) = some (.pointer (some ⟨B, off + j * 2, none⟩)) := fun k => iaddrSV_at hj
  refine ⟨B, off + j * 2, h', ia, ?_, by rw [← cellsOfTags_set hj]; exact o2, k2, fun h2 _ hr sp => ?_⟩
  · rw [zX rfl]
    rw [← Nat.add_assoc] at st
    show (match h.store ⟨B, off + j * 2 + 1, none⟩ [.string (zB u)] with | some h' => some (Value.tuple #[], h') | none => none) = _
    rw [st]
  · obtain ⟨_, a', cap', e, hel⟩ := zBH hr.now
    cases e
    obtain ⟨B', o', ia', _, _, ld⟩ := hel j hj
    have := (ia .i64).symm.trans (ia' .i64)
    simp only [Option.some.injEq, Value.pointer.injEq, Addr.mk.injEq, and_true] at this
    obtain ⟨rfl, rfl⟩ := this
    exact ld sp
theorem Own.pushTag {g : Heap} {S : Nat → Prop} {v : Value} {n : Nat} {q : TagL} (hO : Own g S 2 v n (zg q)) (x : Int × List UInt8) (hroom : (n + 1) * 24 ≤ zU) :
    ∃ v' g', zAr (g.new [.int .i64 x.1, .string (zB x.2)]) 2 24 v (.slice (some ⟨g.next, 0, none⟩) 1 1) = some (v', g') ∧ Own g' (fun A => S A ∨ g.next ≤ A) 2 v' (n + 1) (zg (q ++ [x])) ∧ Keeps S g g' := by
  have hO1 := hO.grow (Grows.new (l := [.int .i64 x.1, .string (zB x.2)]))
  have hs1 := (Var.new_self (h := g) (l := [.int .i64 x.1, .string (zB x.2)])).src (n := 1) (esz := 2) (bytes := 24) (s := v) (sp := none) (c := 1) rfl (by decide)
  obtain ⟨v', g2, e2, hO2, k2⟩ := hO1.append (bytes := 24) (m := 1) (new := [.int .i64 x.1, .string (zB x.2)]) rfl rfl (by decide) (by decide) hroom
  have hk : Keeps S g g2 := (Keeps.new (W := S)).trans k2 (fun _ _ e => e)
  refine ⟨v', g2, by rw [hs1, e2], ?_, hk⟩
  have e : zg q ++ [.int .i64 x.1, .string (zB x.2)] = zg (q ++ [x]) := by rw [zCs]; rfl
  rw [e] at hO2
  exact hO2.mono fun A hA => hA.imp id fun q => by
    have : (g.new [.int .i64 x.1, .string (zB x.2)]).next = g.next + 1 := rfl
    omega
theorem RdTags.elim {h : Heap} {v : Value} {l : TagL} (hr : RdTags h v l) {i : Nat} (hi : i < l.length) : ∃ B o, (∀ k : IntKind, zAf 2 v (.int k (i : Int)) = some (.pointer (some ⟨B, o, none⟩))) ∧ ∀ h', Grows h h' → (∀ sp, h'.loadN ⟨B, o, sp⟩ 2 = some [.int .i64 (l.getD i (0, [])).1, .string (zB (l.getD i (0, [])).2)]) ∧ (∀ sp, h'.load ⟨B, o, sp⟩ = some (.int .i64 (l.getD i (0, [])).1)) ∧ (∀ sp, h'.load ⟨B, o + 1, sp⟩ = some (.string (zB (l.getD i (0, [])).2))) := by
  obtain ⟨hb, a, cap, rfl, hel⟩ := zBH hr.now
  obtain ⟨B, o, ia, _⟩ := hel i hi
  refine ⟨B, o, ia, fun h' g => ?_⟩
  obtain ⟨_, a', cap', e, hel'⟩ := zBH (hr h' g)
  cases e
  obtain ⟨B', o', ia', ld'⟩ := hel' i hi
  have := (ia .i64).symm.trans (ia' .i64)
  simp only [Option.some.injEq, Value.pointer.injEq, Addr.mk.injEq, and_true] at this
  obtain ⟨rfl, rfl⟩ := this
  exact ld'
theorem byte_cell1 {p : Nat} (hp : p < 256) {h : Heap} : cb2sV (h.new [uw .u8 p]) (.slice (some ⟨h.next, 0, none⟩) 1 1) = some (.string (zB [UInt8.ofNat p])) := by
  have e : [uw .u8 p] = zV [UInt8.ofNat p] := by
    simp only [zV, List.map_cons, List.map_nil, uw, u8_bits]
    congr 2
  rw [e]
  exact Var.cb2s Var.new_self rfl
theorem turn_byte (t : List UInt8) : [UInt8.ofNat ((t.getD 0 0).toNat ^^^ 1)] ++ t.drop 1 = turnB t := by
  have : UInt8.ofNat ((t.getD 0 0).toNat ^^^ 1) = t.getD 0 0 ^^^ 1 := UInt8.toNat_inj.1 (by
    rw [UInt8.toNat_xor, UInt8.toNat_ofNat', Nat.mod_eq_of_lt]
    · rfl
    · exact Nat.xor_lt_two_pow (n := 8) (UInt8.toNat_lt _) (by decide))
  rw [this]
  rfl
end Go.X
end
section
open Go Go.X
namespace Go.X
set_option linter.unusedVariables false
structure Law17b (pr : Prog) : Prop where
  law : Law17 pr
  aw : pr.prim 44 = some (zb trueS)
  list : pr.prim 47 = none
  listC : pr.code 47 = some xq47
theorem RdInts.elim {h : Heap} {v : Value} {l : List Int} (hr : RdInts h v l) : (∀ x ∈ l, -9223372036854775808 ≤ x ∧ x < 9223372036854775808) ∧ ∃ a cap, v = .slice a l.length cap ∧ ∀ i, i < l.length → ∃ B o, (∀ k : IntKind, zAf 1 v (.int k (i : Int)) = some (.pointer (some ⟨B, o, none⟩))) ∧ ∀ h', Grows h h' → ∀ sp, h'.load ⟨B, o, sp⟩ = some (.int .i64 (l.getD i 0)) := by
  obtain ⟨hb, a, cap, rfl, hel⟩ := zBd hr.now
  refine ⟨hb, a, cap, rfl, fun i hi => ?_⟩
  obtain ⟨B, o, ia, ld⟩ := hel i hi
  refine ⟨B, o, ia, fun h' g sp => ?_⟩
  obtain ⟨_, a', cap', e, hel'⟩ := zBd (hr h' g)
  obtain ⟨B', o', ia', ld'⟩ := hel' i hi
  have := (ia .i64).symm.trans (ia' .i64)
  simp only [Option.some.injEq, Value.pointer.injEq, Addr.mk.injEq, and_true] at this
  obtain ⟨rfl, rfl⟩ := this
  exact ld'
theorem hd_var {g : Heap} {x : Hdr} {mv : Value} (hm : oneC mv = true) : ∃ g1 g2, g.new [.int .u64 0, .string (zB []), .string (zB []), .string (zB []), .slice none 0 0] = g1 ∧ zAG g1 5 (.pointer (some ⟨g.next, 0, none⟩)) (.agg (ze x mv).toArray) = some (.tuple #[], g2) ∧ Var g2 g.next (ze x mv) ∧ Grows g g2 ∧ g2.next = g.next + 1 := by
  have v0 : Var (g.new [.int .u64 0, .string (zB []), .string (zB []), .string (zB []), .slice none 0 0]) g.next [.int .u64 0, .string (zB []), .string (zB []), .string (zB []), .slice none 0 0] := Var.new_self
  exact ⟨_, _, rfl, v0.storeAll rfl rfl (by decide) (by simp [ze, hm]; exact ⟨rfl, rfl, rfl, rfl⟩), v0.wr, Grows.new.wr (Nat.le_refl _), rfl⟩
theorem rem16 (n : Nat) : binX .rem (.int .u64 (n : Int)) (.int .u64 16) = some (.int .u64 ((n % 16 : Nat) : Int)) := rem_nat (k := .u64) (a := n) (b := 16) (by decide)
theorem tagged17 {n : Nat} {l : List Int} (h : Few l) {j : Nat} (hj : j < l.length) : ∃ k : Nat, k < 16 ∧ l.getD j 0 = (k : Int) ∧ signP zAg (l.getD j 0) (zZ n) = ((l.getD j 0, tagC (l.getD j 0).toNat (zZ n)), 0) := by
  obtain ⟨k, hk, e⟩ := h.at hj
  refine ⟨k, hk, e, ?_⟩
  rw [e, sign17 hk, Int.toNat_natCast]
theorem few_inI {l : List Int} (h : Few l) : ∀ i ∈ l, inI i := fun i hi => by
  have := h.2 i hi
  constructor <;> omega
set_option maxRecDepth 100000 in
set_option maxHeartbeats 4000000 in
theorem CertChecks_ok (pr : Prog) (T : Law17b pr) (w s : Int) (n : Nat) (hn : n < 18446744073709551616) (h : Heap) : Comes pr xq12 [.int .i64 w, .int .i64 s, .int .u64 (n : Int)] h (.bool true) := by
  apply Comes.of
  unfold xq12
  dsimp only [zd]
  have hr64 : zU = 140737488355328 := rfl
  have aw := fun g : Heap => zf (h := g) T.aw (s := trueS) (args := []) rfl
  have rm := rem16 n
  have wn : IntKind.i64.wrap ((n % 16 : Nat) : Int) = ((n % 16 : Nat) : Int) := wrap_i64 (by omega) (by omega)
  have an1 := and_65535 (a := w)
  have an2 := and_65535 (a := s)
  obtain ⟨v8, h1, e1, r8, g1⟩ := list_run T.list T.listC (h := h) (a := w % 65536)
  rw [bitsI_mod (by omega)] at r8
  obtain ⟨v9, h2, e2, r9, g2⟩ := list_run T.list T.listC (h := h1) (a := s % 65536)
  rw [bitsI_mod (by omega)] at r9
  obtain ⟨mv, hA, e3, x3, g3⟩ := header17 T.law.cert h2 n hn
  obtain ⟨q4, h4, a4, st4, v4, g4, n4⟩ := hd_var (g := hA) (x := zZ n) (mv := mv) (intsAt_one x3.now.2.1).2
  obtain ⟨q5, h5, a5, st5, v5, g5, n5⟩ := cert_var (g := h4) rdTags_nil
  have rr8 := r8.grow (g2.trans g3)
  have rr9 := r9.grow g3
  have f9 := few_bits s
  have hb8 := bitsI_len w 16
  have hb9 := bitsI_len s 16
  have hwant := want17_ok w s n
  have hbm : zAk w (zt s 16) ≤ (zt w 16).length := by rw [← both_eq]; exact List.length_filter_le ..
  have hw1 : (zt w 16).length ≠ 0 → zAX (zt w 16) = true := fun q => by rw [few_members (few_bits w)]; exact decide_eq_true (by omega)
  unfold want17 at hwant
  generalize zt w 16 = ms at *
  generalize zt s 16 = l at *
  obtain ⟨b8, a8, c8, rfl, el8⟩ := rr8.elim
  obtain ⟨b9, a9, c9, rfl, el9⟩ := rr9.elim
  have w0 : IntKind.i64.wrap ((l.length : Int) - 1) = (l.length : Int) - 1 := wrap_i64 (by omega) (by omega)
  have nA : h4.next = hA.next + 1 := n4
  rw [nA] at st5 v5
  (repeat (first | refine zS ?_ | refine zL ?_ | refine zR ?_ | refine zE ?_ | refine zC ?_ | refine zJ ?_ | refine zK ?_ | refine zP ?_ | refine zF ?_ | refine zH ?_ | refine zG ?_ | refine zI (by decide) ?_ | refine zQ ?_ | ((first | refine zD ?_ | refine zN ?_ | refine zT rfl rfl ?_ | refine zO rfl ?_ | refine zM ?_); simp only [yq12.down, zA, lemS.down, lemC.down, Int.reduceBEq, Nat.reduceAdd, Nat.reduceLeDiff, reduceIte, Nat.reduceEqDiff, Int.reduceLT, Int.reduceLE, Int.reduceGT, Int.reduceGE, Int.reduceEq, Int.reduceAdd, Int.reduceSub, Int.reduceMul, reduceCtorEq, lemH.down, aw, an1, an2, e1, e2, rm, wn, e3, a4, st4, zB7, nA, a5, st5, w0])))
  have gA := g4.trans g5
  have vH := v4.grow g5
  refine zAA (fun m t g => ∃ v L, m ≤ l.length ∧ L = l.drop m ∧ Grows hA g ∧ hA.next + 2 ≤ g.next ∧ Var g hA.next (ze (zZ n) mv) ∧ Var g (hA.next + 1) [v] ∧ Own g (fun A => hA.next + 2 ≤ A) 2 v L.length (zg (zr (zZ n) L)) ∧ t.get 0 = .int .i64 w ∧ t.get 7 = .int .i64 ((n % 16 : Nat) : Int) ∧ t.get 8 = .slice a8 ms.length c8 ∧ t.get 9 = .slice a9 l.length c9 ∧ t.get 10 = .pointer (some ⟨hA.next, 0, none⟩) ∧ t.get 11 = .pointer (some ⟨hA.next + 1, 0, none⟩) ∧ t.get 12 = .int .i64 (zAk w L : Int) ∧ t.get 13 = .int .i64 ((m : Int) - 1)) ?_ l.length _ _
    ⟨_, [], Nat.le_refl _, by simp, gA, by omega, vH, v5, Own.nil, by simp only [yq12.down, zA, lemS.down, lemC.down, Int.reduceBEq, Nat.reduceAdd, Nat.reduceLeDiff, reduceIte, Nat.reduceEqDiff, Int.reduceLT, Int.reduceLE, Int.reduceGT, Int.reduceGE, Int.reduceEq, Int.reduceAdd, Int.reduceSub, Int.reduceMul, reduceCtorEq], by simp only [yq12.down, zA, lemS.down, lemC.down, Int.reduceBEq, Nat.reduceAdd, Nat.reduceLeDiff, reduceIte, Nat.reduceEqDiff, Int.reduceLT, Int.reduceLE, Int.reduceGT, Int.reduceGE, Int.reduceEq, Int.reduceAdd, Int.reduceSub, Int.reduceMul, reduceCtorEq], by simp only [yq12.down, zA, lemS.down, lemC.down, Int.reduceBEq, Nat.reduceAdd, Nat.reduceLeDiff, reduceIte, Nat.reduceEqDiff, Int.reduceLT, Int.reduceLE, Int.reduceGT, Int.reduceGE, Int.reduceEq, Int.reduceAdd, Int.reduceSub, Int.reduceMul, reduceCtorEq], by simp only [yq12.down, zA, lemS.down, lemC.down, Int.reduceBEq, Nat.reduceAdd, Nat.reduceLeDiff, reduceIte, Nat.reduceEqDiff, Int.reduceLT, Int.reduceLE, Int.reduceGT, Int.reduceGE, Int.reduceEq, Int.reduceAdd, Int.reduceSub, Int.reduceMul, reduceCtorEq], by simp only [yq12.down, zA, lemS.down, lemC.down, Int.reduceBEq, Nat.reduceAdd, Nat.reduceLeDiff, reduceIte, Nat.reduceEqDiff, Int.reduceLT, Int.reduceLE, Int.reduceGT, Int.reduceGE, Int.reduceEq, Int.reduceAdd, Int.reduceSub, Int.reduceMul, reduceCtorEq], by simp only [yq12.down, zA, lemS.down, lemC.down, Int.reduceBEq, Nat.reduceAdd, Nat.reduceLeDiff, reduceIte, Nat.reduceEqDiff, Int.reduceLT, Int.reduceLE, Int.reduceGT, Int.reduceGE, Int.reduceEq, Int.reduceAdd, Int.reduceSub, Int.reduceMul, reduceCtorEq], by (simp only [yq12.down, zA, lemS.down, lemC.down, Int.reduceBEq, Nat.reduceAdd, Nat.reduceLeDiff, reduceIte, Nat.reduceEqDiff, Int.reduceLT, Int.reduceLE, Int.reduceGT, Int.reduceGE, Int.reduceEq, Int.reduceAdd, Int.reduceSub, Int.reduceMul, reduceCtorEq]) <;> rfl, by (simp only [yq12.down, zA, lemS.down, lemC.down, Int.reduceBEq, Nat.reduceAdd, Nat.reduceLeDiff, reduceIte, Nat.reduceEqDiff, Int.reduceLT, Int.reduceLE, Int.reduceGT, Int.reduceGE, Int.reduceEq, Int.reduceAdd, Int.reduceSub, Int.reduceMul, reduceCtorEq]) <;> rfl⟩
  rintro m t g ⟨v, L, hm, rfl, gg, gn, vh, vc, oc, t0, t7, t8, t9, t10, t11, t12, t13⟩ hnext
  refine xq12_16k ?_
  dsimp only [xq12_16b]
  (repeat (first | refine zS ?_ | refine zL ?_ | refine zR ?_ | refine zE ?_ | refine zC ?_ | refine zJ ?_ | refine zK ?_ | refine zP ?_ | refine zF ?_ | refine zH ?_ | refine zG ?_ | refine zI (by decide) ?_ | refine zQ ?_ | ((first | refine zD ?_ | refine zN ?_ | refine zT rfl rfl ?_ | refine zO rfl ?_ | refine zM ?_); simp only [yq12.down, zA, lemS.down, lemC.down, Int.reduceBEq, Nat.reduceAdd, Nat.reduceLeDiff, reduceIte, Nat.reduceEqDiff, Int.reduceLT, Int.reduceLE, Int.reduceGT, Int.reduceGE, Int.reduceEq, Int.reduceAdd, Int.reduceSub, Int.reduceMul, reduceCtorEq, lemH.down, t0, t7, t8, t9, t10, t11, t12, t13])))
  refine ⟨fun hge => ?_, fun hlt => ?_⟩
  · obtain ⟨j, rfl⟩ : ∃ j, m = j + 1 := ⟨m - 1, by omega⟩
    have hj : j < l.length := by omega
    have ej : ((j + 1 : Nat) : Int) - 1 = (j : Int) := by omega
    rw [ej] at t13
    obtain ⟨k, hk, ek, sg⟩ := tagged17 (n := n) f9 hj
    obtain ⟨B, o, ia, ld⟩ := el9 j hj
    obtain ⟨g1, e1, r1, gg1⟩ := ring17 T.law.cert g
    have gA1 := gg.trans gg1
    have p0 := ld g gg
    have p1 := ld g1 gA1
    have q0 : ∀ sp, g.loadN ⟨hA.next, 0, sp⟩ 5 = some (ze (zZ n) mv) := fun sp => vh.loadAll rfl
    have q1 : ∀ sp, g1.loadN ⟨hA.next, 0, sp⟩ 5 = some (ze (zZ n) mv) := fun sp => (vh.grow gg1).loadAll rfl
    have s1 := zu T.law.cert.sign (signG_at (i := l.getD j 0) r1.now zBR (x3.grow gA1).now)
    rw [sg] at s1
    have s1 : cfi pr 41 [.pointer (some ⟨g.next, 0, none⟩), .int .i64 (l.getD j 0), .agg (ze (zZ n) mv).toArray] g1 = some (.tuple #[tagV (l.getD j 0) (tagC (l.getD j 0).toNat (zZ n)), .int .i64 0], g1) := s1
    obtain ⟨tg, htg⟩ : ∃ tg, tagC (l.getD j 0).toNat (zZ n) = tg := ⟨_, rfl⟩
    rw [htg] at s1
    obtain ⟨q2, g2, a2, st2, v2, gg2, n2⟩ := tag_var (g := g1) (r := l.getD j 0) (t := tg)
    have gB := gg1.trans gg2
    have gA2 := gg.trans gB
    have hin : inI (l.getD j 0) := few_inI f9 _ (getD_mem hj)
    have hinL : ∀ m, ∀ q ∈ zr (zZ n) (l.drop m), inI q.1 := fun m => tagsP_inI (few_inI (f9.drop m))
    have rc : RdTags g2 v (zr (zZ n) (l.drop (j + 1))) := (oc.rdTags (hinL _)).grow gB
    have hlen : ∀ m, (zr (zZ n) (l.drop m)).length ≤ 1000000 := fun m => by rw [zBB, List.length_drop]; omega
    obtain ⟨v3, g3, e3', o3, gg3⟩ := Add_own T.law.add rc (tagsP_sorted (f9.drop _).1) (hlen _) (t := tg) hin
    rw [add_down f9 hj htg.symm] at o3
    have v2b := v2.grow gg3
    have p2 : ∀ sp, g2.loadN ⟨g1.next, 0, sp⟩ 2 = some [.int .i64 (l.getD j 0), .string (zB tg)] := fun sp => v2.loadAll rfl
    have p3 : ∀ sp, g3.loadN ⟨g1.next, 0, sp⟩ 2 = some [.int .i64 (l.getD j 0), .string (zB tg)] := fun sp => v2b.loadAll rfl
    have c2 : ∀ sp, g2.loadN ⟨hA.next + 1, 0, sp⟩ 1 = some [v] := fun sp => (vc.grow gB).loadAll rfl
    obtain ⟨v4', g4', e4', o4, gg4⟩ := Add_own T.law.add (o3.rdTags (hinL _)) (tagsP_sorted (f9.drop _).1) (hlen _) (t := tg) hin
    rw [add_again f9 hj] at o4
    have gC := gB.trans (gg3.trans gg4)
    have vcN := vc.grow gC
    have st5 : zAG g4' 1 (.pointer (some ⟨hA.next + 1, 0, none⟩)) (.agg [v4'].toArray) = some (.tuple #[], g4'.wr (hA.next + 1) [v4']) := vcN.storeAll rfl rfl (by decide) (by simp [o4.one])
    have pw : ∀ sp, (g4'.wr (hA.next + 1) [v4']).load ⟨B, o, sp⟩ = some (.int .i64 (l.getD j 0)) := ld _ ((gg.trans gC).wr (by omega))
    have ci : zAm .u64 (.int .i64 (k : Int)) = some (uw .u64 k) := zBI rfl
    have sh := shr_bit (a := w) (i := k) (by omega)
    have an := and_1 (a := w / (2 ^ k : Nat))
    have e3' : cfi pr 48 [.agg [v].toArray, .agg [.int .i64 (l.getD j 0), .string (zB tg)].toArray] g2 = some (.agg [v3].toArray, g3) := e3'
    have e4' : cfi pr 48 [.agg [v3].toArray, .agg [.int .i64 (l.getD j 0), .string (zB tg)].toArray] g3 = some (.agg [v4'].toArray, g4') := e4'
    have wj : IntKind.i64.wrap ((j : Int) - 1) = (j : Int) - 1 := wrap_i64 (by omega) (by omega)
    have hbn := bothN_cons w (l.getD j 0) (l.drop (j + 1))
    rw [← drop_cons hj, ek, Int.toNat_natCast] at hbn
    have hble := bothN_le w (l.drop (j + 1))
    rw [List.length_drop] at hble
    have wb : IntKind.i64.wrap ((zAk w (l.drop (j + 1)) : Int) + 1) = ((zAk w (l.drop (j + 1)) + 1 : Nat) : Int) := by rw [wrap_i64 (by omega) (by omega)]; omega
    have gn2 := gC.next
    have n4x : (zr (zZ n) (l.drop j)).length = (l.drop j).length := zBB _ _
    have fin := fun (t' : Fr) (b0 : t'.get 0 = .int .i64 w) (b7 : t'.get 7 = .int .i64 ((n % 16 : Nat) : Int)) (b8 : t'.get 8 = .slice a8 ms.length c8) (b9 : t'.get 9 = .slice a9 l.length c9) (b10 : t'.get 10 = .pointer (some ⟨hA.next, 0, none⟩)) (b11 : t'.get 11 = .pointer (some ⟨hA.next + 1, 0, none⟩)) (b12 : t'.get 12 = .int .i64 (zAk w (l.drop j) : Int)) (b13 : t'.get 13 = .int .i64 ((j : Int) - 1)) =>
      hnext j t' (g4'.wr (hA.next + 1) [v4']) (by omega) ⟨v4', l.drop j, by omega, rfl, (gg.trans gC).wr (by omega), by show hA.next + 2 ≤ g4'.next; omega, (vh.grow gC).wr_ne (by omega), vcN.wr, by
        rw [n4x] at o4
        have q3 := gg3.next
        have q2 := gB.next
        exact (o4.keep Keeps.wr (fun A hA e => by omega)).mono (fun A hA => by omega), b0, b7, b8, b9, b10, b11, b12, b13⟩
    (repeat (first | refine zS ?_ | refine zL ?_ | refine zR ?_ | refine zE ?_ | refine zC ?_ | refine zJ ?_ | refine zK ?_ | refine zP ?_ | refine zF ?_ | refine zH ?_ | refine zG ?_ | refine zI (by decide) ?_ | refine zQ ?_ | ((first | refine zD ?_ | refine zN ?_ | refine zT rfl rfl ?_ | refine zO rfl ?_ | refine zM ?_); simp only [yq12.down, zA, lemS.down, lemC.down, Int.reduceBEq, Nat.reduceAdd, Nat.reduceLeDiff, reduceIte, Nat.reduceEqDiff, Int.reduceLT, Int.reduceLE, Int.reduceGT, Int.reduceGE, Int.reduceEq, Int.reduceAdd, Int.reduceSub, Int.reduceMul, reduceCtorEq, lemH.down, t0, t7, t8, t9, t10, t11, t12, t13, zAJ, ia, e1, p0, p1, q0, q1, s1, a2, st2])))
    refine ⟨?_, ?_, ?_⟩
    · (refine zAQ rfl rfl rfl ?_ ?_ <;> simp only [yq12.down, zA, lemS.down, lemC.down, Int.reduceBEq, Nat.reduceAdd, Nat.reduceLeDiff, reduceIte, Nat.reduceEqDiff, Int.reduceLT, Int.reduceLE, Int.reduceGT, Int.reduceGE, Int.reduceEq, Int.reduceAdd, Int.reduceSub, Int.reduceMul, reduceCtorEq, p0, p1, zp, zn, zq, zo, zk, Option.isSome_some])
    · (refine zAQ rfl rfl rfl ?_ ?_ <;> simp only [yq12.down, zA, lemS.down, lemC.down, Int.reduceBEq, Nat.reduceAdd, Nat.reduceLeDiff, reduceIte, Nat.reduceEqDiff, Int.reduceLT, Int.reduceLE, Int.reduceGT, Int.reduceGE, Int.reduceEq, Int.reduceAdd, Int.reduceSub, Int.reduceMul, reduceCtorEq, t10, q0, q1, zp, zn, zq, zo, zk, Option.isSome_some])
    (repeat (first | refine zS ?_ | refine zL ?_ | refine zR ?_ | refine zE ?_ | refine zC ?_ | refine zJ ?_ | refine zK ?_ | refine zP ?_ | refine zF ?_ | refine zH ?_ | refine zG ?_ | refine zI (by decide) ?_ | refine zQ ?_ | ((first | refine zD ?_ | refine zN ?_ | refine zO rfl ?_ | refine zM ?_); simp only [yq12.down, zA, lemS.down, lemC.down, Int.reduceBEq, Nat.reduceAdd, Nat.reduceLeDiff, reduceIte, Nat.reduceEqDiff, Int.reduceLT, Int.reduceLE, Int.reduceGT, Int.reduceGE, Int.reduceEq, Int.reduceAdd, Int.reduceSub, Int.reduceMul, reduceCtorEq, lemH.down, t0, t7, t8, t9, t10, t11, t12, t13, c2, p2, e3', p3, e4', st5])))
    refine ⟨?_, ?_⟩
    · (refine zAQ rfl rfl rfl ?_ ?_ <;> simp only [yq12.down, zA, lemS.down, lemC.down, Int.reduceBEq, Nat.reduceAdd, Nat.reduceLeDiff, reduceIte, Nat.reduceEqDiff, Int.reduceLT, Int.reduceLE, Int.reduceGT, Int.reduceGE, Int.reduceEq, Int.reduceAdd, Int.reduceSub, Int.reduceMul, reduceCtorEq, p2, p3, zp, zn, zq, zo, zk, Option.isSome_some])
    by_cases d : bitI w k = true
    · rw [if_pos d] at hbn
      have d' : ((w / ((2 ^ k : Nat) : Int)) % 2 == 1) = true := d
      (repeat (first | refine zS ?_ | refine zL ?_ | refine zR ?_ | refine zE ?_ | refine zC ?_ | refine zJ ?_ | refine zK ?_ | refine zP ?_ | refine zF ?_ | refine zH ?_ | refine zG ?_ | refine zI (by decide) ?_ | refine zQ ?_ | ((first | refine zD ?_ | refine zN ?_ | refine zT rfl rfl ?_ | refine zO rfl ?_ | refine zM ?_); simp only [yq12.down, zA, lemS.down, lemC.down, Int.reduceBEq, Nat.reduceAdd, Nat.reduceLeDiff, reduceIte, Nat.reduceEqDiff, Int.reduceLT, Int.reduceLE, Int.reduceGT, Int.reduceGE, Int.reduceEq, Int.reduceAdd, Int.reduceSub, Int.reduceMul, reduceCtorEq, lemH.down, t0, t7, t8, t9, t10, t11, t12, t13, st5, zAJ, ia, pw, ek, p_cint, ci, sh, an, d', wb, wj])))
      exact fin _ (by simp only [yq12.down, zA, lemS.down, lemC.down, Int.reduceBEq, Nat.reduceAdd, Nat.reduceLeDiff, reduceIte, Nat.reduceEqDiff, Int.reduceLT, Int.reduceLE, Int.reduceGT, Int.reduceGE, Int.reduceEq, Int.reduceAdd, Int.reduceSub, Int.reduceMul, reduceCtorEq, t0]) (by simp only [yq12.down, zA, lemS.down, lemC.down, Int.reduceBEq, Nat.reduceAdd, Nat.reduceLeDiff, reduceIte, Nat.reduceEqDiff, Int.reduceLT, Int.reduceLE, Int.reduceGT, Int.reduceGE, Int.reduceEq, Int.reduceAdd, Int.reduceSub, Int.reduceMul, reduceCtorEq, t7]) (by simp only [yq12.down, zA, lemS.down, lemC.down, Int.reduceBEq, Nat.reduceAdd, Nat.reduceLeDiff, reduceIte, Nat.reduceEqDiff, Int.reduceLT, Int.reduceLE, Int.reduceGT, Int.reduceGE, Int.reduceEq, Int.reduceAdd, Int.reduceSub, Int.reduceMul, reduceCtorEq, t8]) (by simp only [yq12.down, zA, lemS.down, lemC.down, Int.reduceBEq, Nat.reduceAdd, Nat.reduceLeDiff, reduceIte, Nat.reduceEqDiff, Int.reduceLT, Int.reduceLE, Int.reduceGT, Int.reduceGE, Int.reduceEq, Int.reduceAdd, Int.reduceSub, Int.reduceMul, reduceCtorEq, t9]) (by simp only [yq12.down, zA, lemS.down, lemC.down, Int.reduceBEq, Nat.reduceAdd, Nat.reduceLeDiff, reduceIte, Nat.reduceEqDiff, Int.reduceLT, Int.reduceLE, Int.reduceGT, Int.reduceGE, Int.reduceEq, Int.reduceAdd, Int.reduceSub, Int.reduceMul, reduceCtorEq, t10]) (by simp only [yq12.down, zA, lemS.down, lemC.down, Int.reduceBEq, Nat.reduceAdd, Nat.reduceLeDiff, reduceIte, Nat.reduceEqDiff, Int.reduceLT, Int.reduceLE, Int.reduceGT, Int.reduceGE, Int.reduceEq, Int.reduceAdd, Int.reduceSub, Int.reduceMul, reduceCtorEq, t11]) (by rw [hbn]; simp only [yq12.down, zA, lemS.down, lemC.down, Int.reduceBEq, Nat.reduceAdd, Nat.reduceLeDiff, reduceIte, Nat.reduceEqDiff, Int.reduceLT, Int.reduceLE, Int.reduceGT, Int.reduceGE, Int.reduceEq, Int.reduceAdd, Int.reduceSub, Int.reduceMul, reduceCtorEq]) (by simp only [yq12.down, zA, lemS.down, lemC.down, Int.reduceBEq, Nat.reduceAdd, Nat.reduceLeDiff, reduceIte, Nat.reduceEqDiff, Int.reduceLT, Int.reduceLE, Int.reduceGT, Int.reduceGE, Int.reduceEq, Int.reduceAdd, Int.reduceSub, Int.reduceMul, reduceCtorEq])
    · rw [if_neg d, Nat.add_zero] at hbn
      have d' : ((w / ((2 ^ k : Nat) : Int)) % 2 == 1) = false := by simpa [bitI] using d
      (repeat (first | refine zS ?_ | refine zL ?_ | refine zR ?_ | refine zE ?_ | refine zC ?_ | refine zJ ?_ | refine zK ?_ | refine zP ?_ | refine zF ?_ | refine zH ?_ | refine zG ?_ | refine zI (by decide) ?_ | refine zQ ?_ | ((first | refine zD ?_ | refine zN ?_ | refine zT rfl rfl ?_ | refine zO rfl ?_ | refine zM ?_); simp only [yq12.down, zA, lemS.down, lemC.down, Int.reduceBEq, Nat.reduceAdd, Nat.reduceLeDiff, reduceIte, Nat.reduceEqDiff, Int.reduceLT, Int.reduceLE, Int.reduceGT, Int.reduceGE, Int.reduceEq, Int.reduceAdd, Int.reduceSub, Int.reduceMul, reduceCtorEq, lemH.down, t0, t7, t8, t9, t10, t11, t12, t13, st5, zAJ, ia, pw, ek, p_cint, ci, sh, an, d', wj])))
      exact fin _ (by simp only [yq12.down, zA, lemS.down, lemC.down, Int.reduceBEq, Nat.reduceAdd, Nat.reduceLeDiff, reduceIte, Nat.reduceEqDiff, Int.reduceLT, Int.reduceLE, Int.reduceGT, Int.reduceGE, Int.reduceEq, Int.reduceAdd, Int.reduceSub, Int.reduceMul, reduceCtorEq, t0]) (by simp only [yq12.down, zA, lemS.down, lemC.down, Int.reduceBEq, Nat.reduceAdd, Nat.reduceLeDiff, reduceIte, Nat.reduceEqDiff, Int.reduceLT, Int.reduceLE, Int.reduceGT, Int.reduceGE, Int.reduceEq, Int.reduceAdd, Int.reduceSub, Int.reduceMul, reduceCtorEq, t7]) (by simp only [yq12.down, zA, lemS.down, lemC.down, Int.reduceBEq, Nat.reduceAdd, Nat.reduceLeDiff, reduceIte, Nat.reduceEqDiff, Int.reduceLT, Int.reduceLE, Int.reduceGT, Int.reduceGE, Int.reduceEq, Int.reduceAdd, Int.reduceSub, Int.reduceMul, reduceCtorEq, t8]) (by simp only [yq12.down, zA, lemS.down, lemC.down, Int.reduceBEq, Nat.reduceAdd, Nat.reduceLeDiff, reduceIte, Nat.reduceEqDiff, Int.reduceLT, Int.reduceLE, Int.reduceGT, Int.reduceGE, Int.reduceEq, Int.reduceAdd, Int.reduceSub, Int.reduceMul, reduceCtorEq, t9]) (by simp only [yq12.down, zA, lemS.down, lemC.down, Int.reduceBEq, Nat.reduceAdd, Nat.reduceLeDiff, reduceIte, Nat.reduceEqDiff, Int.reduceLT, Int.reduceLE, Int.reduceGT, Int.reduceGE, Int.reduceEq, Int.reduceAdd, Int.reduceSub, Int.reduceMul, reduceCtorEq, t10]) (by simp only [yq12.down, zA, lemS.down, lemC.down, Int.reduceBEq, Nat.reduceAdd, Nat.reduceLeDiff, reduceIte, Nat.reduceEqDiff, Int.reduceLT, Int.reduceLE, Int.reduceGT, Int.reduceGE, Int.reduceEq, Int.reduceAdd, Int.reduceSub, Int.reduceMul, reduceCtorEq, t11]) (by rw [hbn]; simp only [yq12.down, zA, lemS.down, lemC.down, Int.reduceBEq, Nat.reduceAdd, Nat.reduceLeDiff, reduceIte, Nat.reduceEqDiff, Int.reduceLT, Int.reduceLE, Int.reduceGT, Int.reduceGE, Int.reduceEq, Int.reduceAdd, Int.reduceSub, Int.reduceMul, reduceCtorEq, t12]) (by simp only [yq12.down, zA, lemS.down, lemC.down, Int.reduceBEq, Nat.reduceAdd, Nat.reduceLeDiff, reduceIte, Nat.reduceEqDiff, Int.reduceLT, Int.reduceLE, Int.reduceGT, Int.reduceGE, Int.reduceEq, Int.reduceAdd, Int.reduceSub, Int.reduceMul, reduceCtorEq])
  · obtain rfl : m = 0 := by omega
    have w2 : IntKind.i64.wrap (2 * (zAk w (l.drop 0) : Int)) = 2 * (zAk w (l.drop 0) : Int) := by
      have := bothN_le w (l.drop 0)
      rw [List.length_drop] at this
      exact wrap_i64 (by omega) (by omega)
    rw [List.drop_zero] at *
    have gA' := gA
    have hg0 : Grows h hA := (g1.trans g2).trans g3
    obtain ⟨av, cv, rfl, _⟩ := oc.shape
    have hinL : ∀ q ∈ zr (zZ n) l, inI q.1 := tagsP_inI (few_inI f9)
    have hlenL : (zr (zZ n) l).length ≤ 1000000 := by rw [zBB]; omega
    have rc : RdTags g (.slice av l.length cv) (zr (zZ n) l) := oc.rdTags hinL
    have c0 : ∀ sp, g.load ⟨hA.next + 1, 0, sp⟩ = some (.slice av l.length cv) := fun sp => vc.load
    obtain ⟨k1, er1, rr1, gr1⟩ := ring17 T.law.cert g
    have gk1 := gg.trans gr1
    have q0 : ∀ sp, g.loadN ⟨hA.next, 0, sp⟩ 5 = some (ze (zZ n) mv) := fun sp => vh.loadAll rfl
    have q1 : ∀ sp, k1.loadN ⟨hA.next, 0, sp⟩ 5 = some (ze (zZ n) mv) := fun sp => (vh.grow gr1).loadAll rfl
    have p0 : ∀ sp, g.loadN ⟨hA.next + 1, 0, sp⟩ 1 = some [.slice av l.length cv] := fun sp => vc.loadAll rfl
    have p1 : ∀ sp, k1.loadN ⟨hA.next + 1, 0, sp⟩ 1 = some [.slice av l.length cv] := fun sp => (vc.grow gr1).loadAll rfl
    have ck1 := zu T.law.check (zBs rr1.now zBR (x3.grow gk1).now (rc.grow gr1).now hlenL (rr8.grow gk1).now (by omega))
    rw [hwant] at ck1
    by_cases hms : ms.length = 0
    · rw [if_pos hms] at ck1
      have d1 : decide (2 * (zAk w l : Int) ≤ (ms.length : Int)) = true := decide_eq_true (by omega)
      have d2 : ((ms.length : Int) == 0) = true := by rw [hms]; rfl
      (repeat (first | refine zS ?_ | refine zL ?_ | refine zR ?_ | refine zE ?_ | refine zC ?_ | refine zJ ?_ | refine zK ?_ | refine zP ?_ | refine zF ?_ | refine zH ?_ | refine zG ?_ | refine zI (by decide) ?_ | refine zQ ?_ | ((first | refine zD ?_ | refine zN ?_ | refine zO rfl ?_ | refine zM ?_); simp only [yq12.down, zA, lemS.down, lemC.down, Int.reduceBEq, Nat.reduceAdd, Nat.reduceLeDiff, reduceIte, Nat.reduceEqDiff, Int.reduceLT, Int.reduceLE, Int.reduceGT, Int.reduceGE, Int.reduceEq, Int.reduceAdd, Int.reduceSub, Int.reduceMul, reduceCtorEq, lemH.down, w2, d1, d2, t0, t7, t8, t9, t10, t11, t12, t13, aw, c0, Nat.add_zero, er1, q1, p1, ck1, bne_self_eq_false, beq_self_eq_true, Bool.not_true])))
      refine ⟨?_, ?_, ?_⟩
      · (refine zAd rfl rfl rfl ?_ ?_ <;> simp only [yq12.down, zA, lemS.down, lemC.down, Int.reduceBEq, Nat.reduceAdd, Nat.reduceLeDiff, reduceIte, Nat.reduceEqDiff, Int.reduceLT, Int.reduceLE, Int.reduceGT, Int.reduceGE, Int.reduceEq, Int.reduceAdd, Int.reduceSub, Int.reduceMul, reduceCtorEq, t10, q0, q1, zp, zn, zq, zo, zk, Option.isSome_some])
      · (refine zAd rfl rfl rfl ?_ ?_ <;> simp only [yq12.down, zA, lemS.down, lemC.down, Int.reduceBEq, Nat.reduceAdd, Nat.reduceLeDiff, reduceIte, Nat.reduceEqDiff, Int.reduceLT, Int.reduceLE, Int.reduceGT, Int.reduceGE, Int.reduceEq, Int.reduceAdd, Int.reduceSub, Int.reduceMul, reduceCtorEq, t11, p0, p1, zp, zn, zq, zo, zk, Option.isSome_some])
      by_cases hl : l.length = 0
      · have d3 : ((l.length : Int) == 0) = true := by rw [hl]; rfl
        (repeat (first | refine zS ?_ | refine zL ?_ | refine zR ?_ | refine zE ?_ | refine zC ?_ | refine zJ ?_ | refine zK ?_ | refine zP ?_ | refine zF ?_ | refine zH ?_ | refine zG ?_ | refine zI (by decide) ?_ | refine zQ ?_ | ((first | refine zD ?_ | refine zN ?_ | refine zO rfl ?_ | refine zM ?_); simp only [yq12.down, zA, lemS.down, lemC.down, Int.reduceBEq, Nat.reduceAdd, Nat.reduceLeDiff, reduceIte, Nat.reduceEqDiff, Int.reduceLT, Int.reduceLE, Int.reduceGT, Int.reduceGE, Int.reduceEq, Int.reduceAdd, Int.reduceSub, Int.reduceMul, reduceCtorEq, lemH.down, t0, t7, t8, t9, t10, t11, t12, t13, ck1, d3, bne_self_eq_false, beq_self_eq_true, Bool.not_true, zAU])))
        exact ⟨.inr rfl, by simp only [yq12.down, zA, lemS.down, lemC.down, Int.reduceBEq, Nat.reduceAdd, Nat.reduceLeDiff, reduceIte, Nat.reduceEqDiff, Int.reduceLT, Int.reduceLE, Int.reduceGT, Int.reduceGE, Int.reduceEq, Int.reduceAdd, Int.reduceSub, Int.reduceMul, reduceCtorEq], hg0.trans gk1⟩
      · have d3 : ((l.length : Int) == 0) = false := by rw [beq_eq_false_iff_ne]; omega
        (repeat (first | refine zS ?_ | refine zL ?_ | refine zR ?_ | refine zE ?_ | refine zC ?_ | refine zJ ?_ | refine zK ?_ | refine zP ?_ | refine zF ?_ | refine zH ?_ | refine zG ?_ | refine zI (by decide) ?_ | refine zQ ?_ | ((first | refine zD ?_ | refine zN ?_ | refine zO rfl ?_ | refine zM ?_); simp only [yq12.down, zA, lemS.down, lemC.down, Int.reduceBEq, Nat.reduceAdd, Nat.reduceLeDiff, reduceIte, Nat.reduceEqDiff, Int.reduceLT, Int.reduceLE, Int.reduceGT, Int.reduceGE, Int.reduceEq, Int.reduceAdd, Int.reduceSub, Int.reduceMul, reduceCtorEq, lemH.down, t0, t7, t8, t9, t10, t11, t12, t13, ck1, d3, bne_self_eq_false, beq_self_eq_true, Bool.not_true, zAU])))
        exact ⟨.inr rfl, by simp only [yq12.down, zA, lemS.down, lemC.down, Int.reduceBEq, Nat.reduceAdd, Nat.reduceLeDiff, reduceIte, Nat.reduceEqDiff, Int.reduceLT, Int.reduceLE, Int.reduceGT, Int.reduceGE, Int.reduceEq, Int.reduceAdd, Int.reduceSub, Int.reduceMul, reduceCtorEq], hg0.trans gk1⟩
    have d2 : ((ms.length : Int) == 0) = false := by rw [beq_eq_false_iff_ne]; omega
    rw [if_neg hms] at ck1 hwant
    by_cases hbo : 2 * zAk w l ≤ ms.length
    · rw [if_pos hbo] at ck1
      have d1 : decide (2 * (zAk w l : Int) ≤ (ms.length : Int)) = true := decide_eq_true (by omega)
      (repeat (first | refine zS ?_ | refine zL ?_ | refine zR ?_ | refine zE ?_ | refine zC ?_ | refine zJ ?_ | refine zK ?_ | refine zP ?_ | refine zF ?_ | refine zH ?_ | refine zG ?_ | refine zI (by decide) ?_ | refine zQ ?_ | ((first | refine zD ?_ | refine zN ?_ | refine zO rfl ?_ | refine zM ?_); simp only [yq12.down, zA, lemS.down, lemC.down, Int.reduceBEq, Nat.reduceAdd, Nat.reduceLeDiff, reduceIte, Nat.reduceEqDiff, Int.reduceLT, Int.reduceLE, Int.reduceGT, Int.reduceGE, Int.reduceEq, Int.reduceAdd, Int.reduceSub, Int.reduceMul, reduceCtorEq, lemH.down, w2, d1, d2, t0, t7, t8, t9, t10, t11, t12, t13, aw, c0, Nat.add_zero, er1, q1, p1, ck1, bne_self_eq_false, beq_self_eq_true, Bool.not_true])))
      refine ⟨?_, ?_, ?_⟩
      · (refine zAd rfl rfl rfl ?_ ?_ <;> simp only [yq12.down, zA, lemS.down, lemC.down, Int.reduceBEq, Nat.reduceAdd, Nat.reduceLeDiff, reduceIte, Nat.reduceEqDiff, Int.reduceLT, Int.reduceLE, Int.reduceGT, Int.reduceGE, Int.reduceEq, Int.reduceAdd, Int.reduceSub, Int.reduceMul, reduceCtorEq, t10, q0, q1, zp, zn, zq, zo, zk, Option.isSome_some])
      · (refine zAd rfl rfl rfl ?_ ?_ <;> simp only [yq12.down, zA, lemS.down, lemC.down, Int.reduceBEq, Nat.reduceAdd, Nat.reduceLeDiff, reduceIte, Nat.reduceEqDiff, Int.reduceLT, Int.reduceLE, Int.reduceGT, Int.reduceGE, Int.reduceEq, Int.reduceAdd, Int.reduceSub, Int.reduceMul, reduceCtorEq, t11, p0, p1, zp, zn, zq, zo, zk, Option.isSome_some])
      by_cases hl : l.length = 0
      · have d3 : ((l.length : Int) == 0) = true := by rw [hl]; rfl
        (repeat (first | refine zS ?_ | refine zL ?_ | refine zR ?_ | refine zE ?_ | refine zC ?_ | refine zJ ?_ | refine zK ?_ | refine zP ?_ | refine zF ?_ | refine zH ?_ | refine zG ?_ | refine zI (by decide) ?_ | refine zQ ?_ | ((first | refine zD ?_ | refine zN ?_ | refine zO rfl ?_ | refine zM ?_); simp only [yq12.down, zA, lemS.down, lemC.down, Int.reduceBEq, Nat.reduceAdd, Nat.reduceLeDiff, reduceIte, Nat.reduceEqDiff, Int.reduceLT, Int.reduceLE, Int.reduceGT, Int.reduceGE, Int.reduceEq, Int.reduceAdd, Int.reduceSub, Int.reduceMul, reduceCtorEq, lemH.down, t0, t7, t8, t9, t10, t11, t12, t13, ck1, d3, bne_self_eq_false, beq_self_eq_true, Bool.not_true, zAU])))
        exact ⟨.inr rfl, by simp only [yq12.down, zA, lemS.down, lemC.down, Int.reduceBEq, Nat.reduceAdd, Nat.reduceLeDiff, reduceIte, Nat.reduceEqDiff, Int.reduceLT, Int.reduceLE, Int.reduceGT, Int.reduceGE, Int.reduceEq, Int.reduceAdd, Int.reduceSub, Int.reduceMul, reduceCtorEq], hg0.trans gk1⟩
      · have d3 : ((l.length : Int) == 0) = false := by rw [beq_eq_false_iff_ne]; omega
        (repeat (first | refine zS ?_ | refine zL ?_ | refine zR ?_ | refine zE ?_ | refine zC ?_ | refine zJ ?_ | refine zK ?_ | refine zP ?_ | refine zF ?_ | refine zH ?_ | refine zG ?_ | refine zI (by decide) ?_ | refine zQ ?_ | ((first | refine zD ?_ | refine zN ?_ | refine zO rfl ?_ | refine zM ?_); simp only [yq12.down, zA, lemS.down, lemC.down, Int.reduceBEq, Nat.reduceAdd, Nat.reduceLeDiff, reduceIte, Nat.reduceEqDiff, Int.reduceLT, Int.reduceLE, Int.reduceGT, Int.reduceGE, Int.reduceEq, Int.reduceAdd, Int.reduceSub, Int.reduceMul, reduceCtorEq, lemH.down, t0, t7, t8, t9, t10, t11, t12, t13, ck1, d3, bne_self_eq_false, beq_self_eq_true, Bool.not_true, zAU])))
        exact ⟨.inr rfl, by simp only [yq12.down, zA, lemS.down, lemC.down, Int.reduceBEq, Nat.reduceAdd, Nat.reduceLeDiff, reduceIte, Nat.reduceEqDiff, Int.reduceLT, Int.reduceLE, Int.reduceGT, Int.reduceGE, Int.reduceEq, Int.reduceAdd, Int.reduceSub, Int.reduceMul, reduceCtorEq], hg0.trans gk1⟩
    rw [if_neg hbo] at ck1 hwant
    have d1 : decide (2 * (zAk w l : Int) ≤ (ms.length : Int)) = false := decide_eq_false (by omega)
    have hl0 : l.length ≠ 0 := by
      have := bothN_le w l
      omega
    have d3 : ((l.length : Int) == 0) = false := by rw [beq_eq_false_iff_ne]; omega
    have hmP := hw1 hms
    (repeat (first | refine zS ?_ | refine zL ?_ | refine zR ?_ | refine zE ?_ | refine zC ?_ | refine zJ ?_ | refine zK ?_ | refine zP ?_ | refine zF ?_ | refine zH ?_ | refine zG ?_ | refine zI (by decide) ?_ | refine zQ ?_ | ((first | refine zD ?_ | refine zN ?_ | refine zO rfl ?_ | refine zM ?_); simp only [yq12.down, zA, lemS.down, lemC.down, Int.reduceBEq, Nat.reduceAdd, Nat.reduceLeDiff, reduceIte, Nat.reduceEqDiff, Int.reduceLT, Int.reduceLE, Int.reduceGT, Int.reduceGE, Int.reduceEq, Int.reduceAdd, Int.reduceSub, Int.reduceMul, reduceCtorEq, lemH.down, w2, d1, d2, t0, t7, t8, t9, t10, t11, t12, t13, aw, c0, Nat.add_zero, er1, q1, p1, ck1, bne_self_eq_false, beq_self_eq_true, Bool.not_true])))
    refine ⟨?_, ?_, ?_⟩
    · (refine zAd rfl rfl rfl ?_ ?_ <;> simp only [yq12.down, zA, lemS.down, lemC.down, Int.reduceBEq, Nat.reduceAdd, Nat.reduceLeDiff, reduceIte, Nat.reduceEqDiff, Int.reduceLT, Int.reduceLE, Int.reduceGT, Int.reduceGE, Int.reduceEq, Int.reduceAdd, Int.reduceSub, Int.reduceMul, reduceCtorEq, t10, q0, q1, zp, zn, zq, zo, zk, Option.isSome_some])
    · (refine zAd rfl rfl rfl ?_ ?_ <;> simp only [yq12.down, zA, lemS.down, lemC.down, Int.reduceBEq, Nat.reduceAdd, Nat.reduceLeDiff, reduceIte, Nat.reduceEqDiff, Int.reduceLT, Int.reduceLE, Int.reduceGT, Int.reduceGE, Int.reduceEq, Int.reduceAdd, Int.reduceSub, Int.reduceMul, reduceCtorEq, t11, p0, p1, zp, zn, zq, zo, zk, Option.isSome_some])
    have rA : binX .rem (.int .i64 ((n % 16 : Nat) : Int)) (.int .i64 (l.length : Int)) = some (.int .i64 ((n % 16 % l.length : Nat) : Int)) := rem_nat (k := .i64) hl0
    have ha : n % 16 % l.length < l.length := Nat.mod_lt _ (by omega)
    have wA : IntKind.i64.wrap (((n % 16 % l.length : Nat) : Int) + (l.length : Int)) = ((n % 16 % l.length + l.length : Nat) : Int) := by rw [wrap_i64 (by omega) (by omega)]; omega
    have rB : binX .rem (.int .i64 ((n % 16 % l.length + l.length : Nat) : Int)) (.int .i64 (l.length : Int)) = some (.int .i64 ((n % 16 % l.length : Nat) : Int)) := by
      rw [rem_nat (k := .i64) hl0, Nat.add_mod_right, Nat.mod_eq_of_lt ha]
    generalize n % 16 % l.length = a at *
    have haL : a < (zr (zZ n) l).length := by rw [zBB]; exact ha
    obtain ⟨x1, m1, ex1, ox1, gx1⟩ := cClone_run T.law.add (rc.grow gr1) hlenL
    obtain ⟨m2, m3, am2, sm3, vx3, gm3, nm3⟩ := cert_var (ox1.rdTags hinL)
    have ox3 := ox1.bound.grow gm3
    have rx3 : RdTags m3 x1 (zr (zZ n) l) := ox3.rdTags hinL
    have vx3' : ∀ sp, m3.load ⟨m1.next, 0, sp⟩ = some x1 := fun sp => vx3.load
    obtain ⟨tg, htg⟩ : ∃ tg, tagC (l.getD a 0).toNat (zZ n) = tg := ⟨_, rfl⟩
    have htl : tg.length = 32 := by rw [← htg]; exact tagC_len _ _
    have hgd : (zr (zZ n) l).getD a (0, []) = (l.getD a 0, tg) := by rw [tagsP_getD ha, htg]
    have hu : (tg.getD 0 0).toNat ^^^ 1 < 256 := Nat.xor_lt_two_pow (n := 8) (UInt8.toNat_lt _) (by decide)
    obtain ⟨m4, am4, gm4, nm4, bc⟩ : ∃ m4, m3.new [uw .u8 ((tg.getD 0 0).toNat ^^^ 1)] = m4 ∧ Grows m3 m4 ∧ m4.next = m3.next + 1 ∧ cb2sV m4 (.slice (some ⟨m3.next, 0, none⟩) 1 1) = some (.string (zB [UInt8.ofNat ((tg.getD 0 0).toNat ^^^ 1)])) := ⟨_, rfl, Grows.new, rfl, byte_cell1 hu⟩
    obtain ⟨Bx, ox, m5, iax, sm5, ox5, km5, ldx⟩ := (ox3.grow gm4).setTag hinL haL ([UInt8.ofNat ((tg.getD 0 0).toNat ^^^ 1)] ++ tg.drop 1)
    have vx4 := vx3.grow gm4
    have ld3 := ldx m3 gm4 rx3
    have ld4 := ldx m4 (Grows.refl _) (rx3.grow gm4)
    rw [hgd] at ld3 ld4 ox5
    rw [turn_byte, ← htg] at ox5
    have vx4' : ∀ sp, m4.load ⟨m1.next, 0, sp⟩ = some x1 := fun sp => vx4.load
    have u1 : Value.int .u8 1 = uw .u8 1 := rfl
    have ix : idxSV (.string (zB tg)) (.int .i64 0) = some (uw .u8 (tg.getD 0 0).toNat) := idxSV_at (i := 0) (by omega)
    have cut : slcSV (.string (zB tg)) (some (.int .i64 1)) none = some (.string (zB (tg.drop 1))) := cut_from (n := 1) (by omega)
    have cat := zA1 (a := [UInt8.ofNat ((tg.getD 0 0).toNat ^^^ 1)]) (b := tg.drop 1) (by
      rw [List.length_drop, List.length_singleton]
      omega)
    have nk1 := gr1.next
    have nm1 := gx1.next
    have nm5 := km5.next
    have gk5 : Grows k1 m5 := (gx1.trans (gm3.trans gm4)).then km5 (fun A hA q => by have := q.1; omega)
    have vx5 : Var m5 m1.next [x1] := vx4.keep km5 (fun q => by omega)
    have hbt : ∀ q ∈ (zr (zZ n) l).set a (l.getD a 0, turnB (tagC (l.getD a 0).toNat (zZ n))), inI q.1 := fun q hq => by
      rcases List.mem_or_eq_of_mem_set hq with hq | rfl
      · exact hinL q hq
      · exact few_inI f9 _ (getD_mem ha)
    have rx5 : RdTags m5 x1 ((zr (zZ n) l).set a (l.getD a 0, turnB (tagC (l.getD a 0).toNat (zZ n)))) := ox5.rdTags hbt
    have p5 : ∀ sp, m5.loadN ⟨hA.next + 1, 0, sp⟩ 1 = some [.slice av l.length cv] := fun sp => (vc.grow (gr1.trans gk5)).loadAll rfl
    obtain ⟨y1, m6, ey1, oy1, gy1⟩ := cClone_run T.law.add (rc.grow (gr1.trans gk5)) hlenL
    obtain ⟨m7, m8, am7, sm8, vy8, gm8, nm8⟩ := cert_var (oy1.rdTags hinL)
    have oy8 := oy1.bound.grow gm8
    have ry8 : RdTags m8 y1 (zr (zZ n) l) := oy8.rdTags hinL
    obtain ⟨By, oy, iay, ldy⟩ := ry8.elim haL
    rw [hgd] at ldy
    have ld8 := (ldy m8 (Grows.refl _)).1
    obtain ⟨y2, m10, ey2, oy2, km10⟩ := oy8.pushTag (l.getD a 0, tg) (by rw [zBB]; omega)
    have ld9 := (ldy (m8.new [.int .i64 (l.getD a 0), .string (zB tg)]) Grows.new).1
    have vy8' : ∀ sp, m8.load ⟨m6.next, 0, sp⟩ = some y1 := fun sp => vy8.load
    have vy9' : ∀ sp, (m8.new [.int .i64 (l.getD a 0), .string (zB tg)]).load ⟨m6.next, 0, sp⟩ = some y1 := fun sp => (vy8.grow Grows.new).load
    have fl : zz [.int .i64 0, .string (zB [])] [(0, 2, .agg [.int .i64 (l.getD a 0), .string (zB tg)].toArray)] = some [.int .i64 (l.getD a 0), .string (zB tg)] := rfl
    have vy10 : Var m10 m6.next [y1] := vy8.keep km10 (fun q => by omega)
    have sm11 : zAG m10 1 (.pointer (some ⟨m6.next, 0, none⟩)) y2 = some (.tuple #[], m10.wr m6.next [y2]) := by
      rw [zX oy2.cell, vy10.store1 (i := 0) (by simp) oy2.one]
      rfl
    (repeat (first | refine zS ?_ | refine zL ?_ | refine zR ?_ | refine zE ?_ | refine zC ?_ | refine zJ ?_ | refine zK ?_ | refine zP ?_ | refine zF ?_ | refine zH ?_ | refine zG ?_ | refine zI (by decide) ?_ | refine zQ ?_ | ((first | refine zD ?_ | refine zN ?_ | refine zO rfl ?_ | refine zM ?_); simp only [yq12.down, zA, lemS.down, lemC.down, Int.reduceBEq, Nat.reduceAdd, Nat.reduceLeDiff, reduceIte, Nat.reduceEqDiff, Int.reduceLT, Int.reduceLE, Int.reduceGT, Int.reduceGE, Int.reduceEq, Int.reduceAdd, Int.reduceSub, Int.reduceMul, reduceCtorEq, lemH.down, t0, t7, t8, t9, t10, t11, t12, t13, ck1, d3, bne_self_eq_false, beq_self_eq_true, Bool.not_true, zAU, rA, wA, rB, p1, ex1, zB7, am2, sm3, vx3', zAJ, iax, ld3, ld4, vx4', ix, lemW.down, u1, am4, bc, cut, cat, sm5, p5, ey1, am7, sm8, vy8', iay, ld8, ld9, ey2, sm11])))
    refine ⟨⟨?_, ?_, ?_⟩, ?_⟩
    · (refine zAQ rfl rfl rfl ?_ ?_ <;> simp only [yq12.down, zA, lemS.down, lemC.down, Int.reduceBEq, Nat.reduceAdd, Nat.reduceLeDiff, reduceIte, Nat.reduceEqDiff, Int.reduceLT, Int.reduceLE, Int.reduceGT, Int.reduceGE, Int.reduceEq, Int.reduceAdd, Int.reduceSub, Int.reduceMul, reduceCtorEq, vx3', vx4', Nat.add_zero, zp, zn, zq, zo, zk, Option.isSome_some])
    · (refine zAQ rfl rfl rfl ?_ ?_ <;> simp only [yq12.down, zA, lemS.down, lemC.down, Int.reduceBEq, Nat.reduceAdd, Nat.reduceLeDiff, reduceIte, Nat.reduceEqDiff, Int.reduceLT, Int.reduceLE, Int.reduceGT, Int.reduceGE, Int.reduceEq, Int.reduceAdd, Int.reduceSub, Int.reduceMul, reduceCtorEq, vx3', vx4', Nat.add_zero, zp, zn, zq, zo, zk, Option.isSome_some])
    · (refine zAQ rfl rfl rfl ?_ ?_ <;> simp only [yq12.down, zA, lemS.down, lemC.down, Int.reduceBEq, Nat.reduceAdd, Nat.reduceLeDiff, reduceIte, Nat.reduceEqDiff, Int.reduceLT, Int.reduceLE, Int.reduceGT, Int.reduceGE, Int.reduceEq, Int.reduceAdd, Int.reduceSub, Int.reduceMul, reduceCtorEq, ld3, ld4, zp, zn, zq, zo, zk, Option.isSome_some])
    (repeat (first | refine zS ?_ | refine zL ?_ | refine zR ?_ | refine zE ?_ | refine zC ?_ | refine zJ ?_ | refine zK ?_ | refine zP ?_ | refine zF ?_ | refine zH ?_ | refine zG ?_ | refine zI (by decide) ?_ | refine zQ ?_ | ((first | refine zD ?_ | refine zN ?_ | refine zO rfl ?_ | refine zM ?_); simp only [yq12.down, zA, lemS.down, lemC.down, Int.reduceBEq, Nat.reduceAdd, Nat.reduceLeDiff, reduceIte, Nat.reduceEqDiff, Int.reduceLT, Int.reduceLE, Int.reduceGT, Int.reduceGE, Int.reduceEq, Int.reduceAdd, Int.reduceSub, Int.reduceMul, reduceCtorEq, lemH.down, t0, t7, t8, t9, t10, t11, t12, t13, p5, zB7, ey1, am7, sm8, vy8', vy9', Nat.add_zero, zAJ, iay, ld8, ld9, fl, ey2, sm11])))
    refine ⟨⟨?_, ?_, ?_⟩, ?_⟩
    · (refine zAQ rfl rfl rfl ?_ ?_ <;> simp only [yq12.down, zA, lemS.down, lemC.down, Int.reduceBEq, Nat.reduceAdd, Nat.reduceLeDiff, reduceIte, Nat.reduceEqDiff, Int.reduceLT, Int.reduceLE, Int.reduceGT, Int.reduceGE, Int.reduceEq, Int.reduceAdd, Int.reduceSub, Int.reduceMul, reduceCtorEq, vy8', vy9', Nat.add_zero, zp, zn, zq, zo, zk, Option.isSome_some])
    · (refine zAQ rfl rfl rfl ?_ ?_ <;> simp only [yq12.down, zA, lemS.down, lemC.down, Int.reduceBEq, Nat.reduceAdd, Nat.reduceLeDiff, reduceIte, Nat.reduceEqDiff, Int.reduceLT, Int.reduceLE, Int.reduceGT, Int.reduceGE, Int.reduceEq, Int.reduceAdd, Int.reduceSub, Int.reduceMul, reduceCtorEq, vy8', vy9', Nat.add_zero, zp, zn, zq, zo, zk, Option.isSome_some])
    · (refine zAQ rfl rfl rfl ?_ ?_ <;> simp only [yq12.down, zA, lemS.down, lemC.down, Int.reduceBEq, Nat.reduceAdd, Nat.reduceLeDiff, reduceIte, Nat.reduceEqDiff, Int.reduceLT, Int.reduceLE, Int.reduceGT, Int.reduceGE, Int.reduceEq, Int.reduceAdd, Int.reduceSub, Int.reduceMul, reduceCtorEq, ld8, ld9, zp, zn, zq, zo, zk, Option.isSome_some])
    have nm6 := gy1.next
    have gy11 : Grows m5 (m10.wr m6.next [y2]) := ((gy1.trans gm8).then km10 (fun A hA q => by have := q.1; omega)).wr (by omega)
    have oy11 : Own (m10.wr m6.next [y2]) (fun A => (m5.next ≤ A ∧ A < m6.next) ∨ m8.next ≤ A) 2 y2 ((zr (zZ n) l).length + 1) (zg (zr (zZ n) l ++ [(l.getD a 0, tg)])) := oy2.keep Keeps.wr (fun A hA e => by rcases hA with q | q <;> omega)
    have hbt2 : ∀ q ∈ zr (zZ n) l ++ [(l.getD a 0, tg)], inI q.1 := fun q hq => by
      rcases List.mem_append.1 hq with hq | hq
      · exact hinL q hq
      · obtain rfl := List.mem_singleton.1 hq
        exact few_inI f9 _ (getD_mem ha)
    have ry11 := oy11.rdTags hbt2
    have vy11 : Var (m10.wr m6.next [y2]) m6.next [y2] := vy10.wr
    generalize m10.wr m6.next [y2] = m11 at *
    obtain ⟨m12, m13, am12, sm13, vz13, gm13, nm13⟩ := hd_var (g := m11) (x := ⟨0, [], [], [], []⟩) (mv := .slice none 0 0) rfl
    have sm13 : zAG m12 5 (.pointer (some ⟨m11.next, 0, none⟩)) (.agg [.int .u64 0, .string (zB []), .string (zB []), .string (zB []), .slice none 0 0].toArray) = some (.tuple #[], m13) := sm13
    have gx13 : Grows m5 m13 := gy11.trans gm13
    have gk13 : Grows k1 m13 := gk5.trans gx13
    have g13 : Grows g m13 := gr1.trans gk13
    have hv13 := vh.grow g13
    have cv13 := vc.grow g13
    have xv13 := vx5.grow gx13
    have yv13 := vy11.grow gm13
    have hz : HdAt m13 ⟨0, [], [], [], []⟩ (.slice none 0 0) := ⟨by decide, rfl, by decide, by show 0 + 10000000 ≤ zU; omega, by show 0 + 10000000 ≤ zU; omega, by show 0 + 10000000 ≤ zU; omega⟩
    have hz : ∀ h, HdAt h ⟨0, [], [], [], []⟩ (.slice none 0 0) := fun h => hz
    obtain ⟨n1, en1, rn1, gn1⟩ := ring17 T.law.cert m13
    obtain ⟨n2, en2, rn2, gn2⟩ := ring17 T.law.cert n1
    obtain ⟨n3, en3, rn3, gn3⟩ := ring17 T.law.cert n2
    obtain ⟨n4, en4, rn4, gn4⟩ := ring17 T.law.cert n3
    have ldf : ∀ {g' : Heap}, Grows m13 g' → (∀ sp, g'.loadN ⟨hA.next, 0, sp⟩ 5 = some (ze (zZ n) mv)) ∧ (∀ sp, g'.loadN ⟨m1.next, 0, sp⟩ 1 = some [x1]) ∧ (∀ sp, g'.loadN ⟨m6.next, 0, sp⟩ 1 = some [y2]) ∧ (∀ sp, g'.loadN ⟨m11.next, 0, sp⟩ 5 = some [.int .u64 0, .string (zB []), .string (zB []), .string (zB []), .slice none 0 0]) ∧ (∀ sp, g'.loadN ⟨hA.next + 1, 0, sp⟩ 1 = some [.slice av l.length cv]) := fun gg => ⟨fun sp => (hv13.grow gg).loadAll rfl, fun sp => (xv13.grow gg).loadAll rfl, fun sp => (yv13.grow gg).loadAll rfl, fun sp => (vz13.grow gg).loadAll rfl, fun sp => (cv13.grow gg).loadAll rfl⟩
    have G1 := gn1
    have G2 := G1.trans gn2
    have G3 := G2.trans gn3
    have G4 := G3.trans gn4
    obtain ⟨ha0, hx0, hy0, hz0, hc0⟩ := ldf (Grows.refl m13)
    obtain ⟨ha1, hx1, hy1, hz1, hc1⟩ := ldf G1
    obtain ⟨ha2, hx2, hy2, hz2, hc2⟩ := ldf G2
    obtain ⟨ha3, hx3, hy3, hz3, hc3⟩ := ldf G3
    obtain ⟨ha4, hx4, hy4, hz4, hc4⟩ := ldf G4
    have gkA := gk1.trans gk13
    have hl2 : ((zr (zZ n) l).set a (l.getD a 0, turnB (tagC (l.getD a 0).toNat (zZ n)))).length ≤ 1000000 := by rw [List.length_set]; exact hlenL
    have hl3 : (zr (zZ n) l ++ [(l.getD a 0, tg)]).length ≤ 1000000 := by rw [List.length_append, zBB, List.length_singleton]; omega
    have k1' := zu T.law.check (zBs rn1.now zBR (x3.grow (gkA.trans G1)).now (rx5.grow (gx13.trans G1)).now hl2 (rr8.grow (gkA.trans G1)).now (by omega))
    rw [few_turned f9 ha hmP] at k1'
    have k1' : cfi pr 49 [.pointer (some ⟨m13.next, 0, none⟩), .agg (ze (zZ n) mv).toArray, .agg [x1].toArray, .slice a8 ms.length c8] n1 = some (.int .i64 170, n1) := k1'
    have k2' := zu T.law.check (zBs rn2.now zBR (x3.grow (gkA.trans G2)).now (ry11.grow (gm13.trans G2)).now hl3 (rr8.grow (gkA.trans G2)).now (by omega))
    rw [← htg, few_twice f9 ha hmP] at k2'
    have k2' : cfi pr 49 [.pointer (some ⟨n1.next, 0, none⟩), .agg (ze (zZ n) mv).toArray, .agg [y2].toArray, .slice a8 ms.length c8] n2 = some (.int .i64 170, n2) := k2'
    have k3' := zu T.law.check (zBs rn3.now zBR (hz n3) (rc.grow (g13.trans G3)).now hlenL (rr8.grow (gkA.trans G3)).now (by omega))
    rw [check_zero hmP] at k3'
    have k3' : cfi pr 49 [.pointer (some ⟨n2.next, 0, none⟩), .agg [.int .u64 0, .string (zB []), .string (zB []), .string (zB []), .slice none 0 0].toArray, .agg [.slice av l.length cv].toArray, .slice a8 ms.length c8] n3 = some (.int .i64 80, n3) := k3'
    have k4' := zu T.law.check (zBs rn4.now zBR (x3.grow (gkA.trans G4)).now (rc.grow (g13.trans G4)).now hlenL (rr8.grow (gkA.trans G4)).now (by omega))
    rw [hwant] at k4'
    have k4' : cfi pr 49 [.pointer (some ⟨n3.next, 0, none⟩), .agg (ze (zZ n) mv).toArray, .agg [.slice av l.length cv].toArray, .slice a8 ms.length c8] n4 = some (.int .i64 0, n4) := k4'
    (repeat (first | refine zS ?_ | refine zL ?_ | refine zR ?_ | refine zE ?_ | refine zC ?_ | refine zJ ?_ | refine zK ?_ | refine zP ?_ | refine zF ?_ | refine zH ?_ | refine zG ?_ | refine zI (by decide) ?_ | refine zQ ?_ | ((first | refine zD ?_ | refine zN ?_ | refine zO rfl ?_ | refine zM ?_); simp only [yq12.down, zA, lemS.down, lemC.down, Int.reduceBEq, Nat.reduceAdd, Nat.reduceLeDiff, reduceIte, Nat.reduceEqDiff, Int.reduceLT, Int.reduceLE, Int.reduceGT, Int.reduceGE, Int.reduceEq, Int.reduceAdd, Int.reduceSub, Int.reduceMul, reduceCtorEq, lemH.down, t0, t7, t8, t9, t10, t11, t12, t13, zB7, am12, sm13, en1, ha1, hx1, k1', en2, ha2, hy2, k2', en3, hz3, hc3, k3', en4, ha4, hc4, k4'])))
    refine ⟨?_, ?_, ?_, ?_, ?_, ?_, ?_, ?_, ?_⟩
    · (refine zAd rfl rfl rfl ?_ ?_ <;> simp only [yq12.down, zA, lemS.down, lemC.down, Int.reduceBEq, Nat.reduceAdd, Nat.reduceLeDiff, reduceIte, Nat.reduceEqDiff, Int.reduceLT, Int.reduceLE, Int.reduceGT, Int.reduceGE, Int.reduceEq, Int.reduceAdd, Int.reduceSub, Int.reduceMul, reduceCtorEq, t10, ha0, ha1, zp, zn, zq, zo, zk, Option.isSome_some])
    · (refine zAd rfl rfl rfl ?_ ?_ <;> simp only [yq12.down, zA, lemS.down, lemC.down, Int.reduceBEq, Nat.reduceAdd, Nat.reduceLeDiff, reduceIte, Nat.reduceEqDiff, Int.reduceLT, Int.reduceLE, Int.reduceGT, Int.reduceGE, Int.reduceEq, Int.reduceAdd, Int.reduceSub, Int.reduceMul, reduceCtorEq, hx0, hx1, zp, zn, zq, zo, zk, Option.isSome_some])
    · (refine zAd rfl rfl rfl ?_ ?_ <;> simp only [yq12.down, zA, lemS.down, lemC.down, Int.reduceBEq, Nat.reduceAdd, Nat.reduceLeDiff, reduceIte, Nat.reduceEqDiff, Int.reduceLT, Int.reduceLE, Int.reduceGT, Int.reduceGE, Int.reduceEq, Int.reduceAdd, Int.reduceSub, Int.reduceMul, reduceCtorEq, t10, ha1, ha2, zp, zn, zq, zo, zk, Option.isSome_some])
    · (refine zAd rfl rfl rfl ?_ ?_ <;> simp only [yq12.down, zA, lemS.down, lemC.down, Int.reduceBEq, Nat.reduceAdd, Nat.reduceLeDiff, reduceIte, Nat.reduceEqDiff, Int.reduceLT, Int.reduceLE, Int.reduceGT, Int.reduceGE, Int.reduceEq, Int.reduceAdd, Int.reduceSub, Int.reduceMul, reduceCtorEq, hy1, hy2, zp, zn, zq, zo, zk, Option.isSome_some])
    · (refine zAd rfl rfl rfl ?_ ?_ <;> simp only [yq12.down, zA, lemS.down, lemC.down, Int.reduceBEq, Nat.reduceAdd, Nat.reduceLeDiff, reduceIte, Nat.reduceEqDiff, Int.reduceLT, Int.reduceLE, Int.reduceGT, Int.reduceGE, Int.reduceEq, Int.reduceAdd, Int.reduceSub, Int.reduceMul, reduceCtorEq, hz2, hz3, zp, zn, zq, zo, zk, Option.isSome_some])
    · (refine zAd rfl rfl rfl ?_ ?_ <;> simp only [yq12.down, zA, lemS.down, lemC.down, Int.reduceBEq, Nat.reduceAdd, Nat.reduceLeDiff, reduceIte, Nat.reduceEqDiff, Int.reduceLT, Int.reduceLE, Int.reduceGT, Int.reduceGE, Int.reduceEq, Int.reduceAdd, Int.reduceSub, Int.reduceMul, reduceCtorEq, t11, hc2, hc3, zp, zn, zq, zo, zk, Option.isSome_some])
    · (refine zAd rfl rfl rfl ?_ ?_ <;> simp only [yq12.down, zA, lemS.down, lemC.down, Int.reduceBEq, Nat.reduceAdd, Nat.reduceLeDiff, reduceIte, Nat.reduceEqDiff, Int.reduceLT, Int.reduceLE, Int.reduceGT, Int.reduceGE, Int.reduceEq, Int.reduceAdd, Int.reduceSub, Int.reduceMul, reduceCtorEq, t10, ha3, ha4, zp, zn, zq, zo, zk, Option.isSome_some])
    · (refine zAd rfl rfl rfl ?_ ?_ <;> simp only [yq12.down, zA, lemS.down, lemC.down, Int.reduceBEq, Nat.reduceAdd, Nat.reduceLeDiff, reduceIte, Nat.reduceEqDiff, Int.reduceLT, Int.reduceLE, Int.reduceGT, Int.reduceGE, Int.reduceEq, Int.reduceAdd, Int.reduceSub, Int.reduceMul, reduceCtorEq, t11, hc3, hc4, zp, zn, zq, zo, zk, Option.isSome_some])
    (repeat (first | refine zS ?_ | refine zL ?_ | refine zR ?_ | refine zE ?_ | refine zC ?_ | refine zJ ?_ | refine zK ?_ | refine zP ?_ | refine zF ?_ | refine zH ?_ | refine zG ?_ | refine zI (by decide) ?_ | refine zQ ?_ | ((first | refine zD ?_ | refine zN ?_ | refine zO rfl ?_ | refine zM ?_); simp only [yq12.down, zA, lemS.down, lemC.down, Int.reduceBEq, Nat.reduceAdd, Nat.reduceLeDiff, reduceIte, Nat.reduceEqDiff, Int.reduceLT, Int.reduceLE, Int.reduceGT, Int.reduceGE, Int.reduceEq, Int.reduceAdd, Int.reduceSub, Int.reduceMul, reduceCtorEq, lemH.down])))
    exact ⟨.inr rfl, by simp only [yq12.down, zA, lemS.down, lemC.down, Int.reduceBEq, Nat.reduceAdd, Nat.reduceLeDiff, reduceIte, Nat.reduceEqDiff, Int.reduceLT, Int.reduceLE, Int.reduceGT, Int.reduceGE, Int.reduceEq, Int.reduceAdd, Int.reduceSub, Int.reduceMul, reduceCtorEq], hg0.trans (gkA.trans G4)⟩
end Go.X
end
section
open Go Go.X Go.Proofs Go.RowKit
namespace Go.X
set_option linter.unusedVariables false
theorem lawbU21 : Law17b (Tab Try.prog U21) := ⟨lawU21, rfl, rfl, zW Try.func47 cq47⟩
theorem walkCertChecks (a b n : Int) (hn : (Lit.int .u64 n).wf = true) (w : World) : Calls Try.prog 12 #[.int .i64 a, .int .i64 b, .int .u64 n] w fun e w' => e = .returned (.bool true) ∧ Below w.heap.size w w' := by
  have h1 := wf_u64 hn
  have := CertChecks_ok _ lawbU21 a b n.toNat (by omega) Heap.empty
  rw [show ((n.toNat : Nat) : Int) = n by omega] at this
  exact calls_of_comes uk21 rfl (zW Try.func12 cq12) rfl rfl rfl this w
end Go.X
end
