/- Who is in a number's bits; the statement of certificates that show a header. -/
import Derived.Test.YtmhkcnibbodjnaaXR
set_option linter.unusedSimpArgs false
set_option linter.unusedVariables false
set_option maxHeartbeats 2000000
section
open Go Go.X
namespace Go.X
set_option linter.unusedVariables false
theorem zId {a : Int} {n : Nat} (hn : n < 63) : binX .and (.int .i64 a) (.int .i64 ((2 ^ n - 1 : Nat) : Int)) = some (.int .i64 (a % (2 ^ n : Nat))) := by
  rw [zIn]
  congr 2
  have hp : (2 : Nat) ^ n < 2 ^ 63 := Nat.pow_lt_pow_right (by decide) hn
  have hpos : 0 < (2 : Nat) ^ n := Nat.pow_pos (by decide)
  have e1 : (BitVec.ofInt IntKind.i64.bits ((2 ^ n - 1 : Nat) : Int)).toNat = 2 ^ n - 1 := by
    show (BitVec.ofInt 64 ((2 ^ n - 1 : Nat) : Int)).toNat = _
    rw [BitVec.toNat_ofInt]
    omega
  have e2 : (BitVec.ofInt IntKind.i64.bits a &&& BitVec.ofInt IntKind.i64.bits ((2 ^ n - 1 : Nat) : Int)).toNat = (BitVec.ofInt IntKind.i64.bits a).toNat % 2 ^ n := by
    rw [BitVec.toNat_and, e1, Nat.and_two_pow_sub_one_eq_mod]
  rw [e2]
  have e3 : (BitVec.ofInt IntKind.i64.bits a).toNat = (a % 18446744073709551616).toNat := by
    show (BitVec.ofInt 64 a).toNat = _
    rw [BitVec.toNat_ofInt]
    rfl
  rw [e3]
  have h64 : (18446744073709551616 : Int) = ((2 ^ n : Nat) : Int) * ((2 ^ (64 - n) : Nat) : Int) := by
    rw [← Int.natCast_mul, ← Nat.pow_add, show n + (64 - n) = 64 by omega]
    rfl
  have h1 : ((a % 18446744073709551616).toNat % 2 ^ n : Nat) = ((a % ((2 ^ n : Nat) : Int)) : Int) := by
    rw [Int.natCast_emod, Int.toNat_of_nonneg (Int.emod_nonneg _ (by decide)), h64, Int.emod_emod_of_dvd _ ⟨_, rfl⟩]
  rw [h1, wrap_i64]
  · have := Int.emod_nonneg a (b := ((2 ^ n : Nat) : Int)) (by omega); omega
  · have := Int.emod_lt_of_pos a (b := ((2 ^ n : Nat) : Int)) (by omega); omega
theorem zUa {a : Int} : binX .and (.int .i64 a) (.int .i64 65535) = some (.int .i64 (a % 65536)) := zId (n := 16) (by decide)
theorem and_1 {a : Int} : binX .and (.int .i64 a) (.int .i64 1) = some (.int .i64 (a % 2)) := zId (n := 1) (by decide)
def bitI (a : Int) (i : Nat) : Bool := (a / (2 ^ i : Nat)) % 2 == 1
theorem shr_bit {a : Int} {i : Nat} (hi : i < 64) : binX .shr (.int .i64 a) (uw .u64 i) = some (.int .i64 (a / (2 ^ i : Nat))) := by
  have e : uw .u64 i = .int .u64 (i : Int) := (zBP (by omega)).symm
  rw [e, zFp (by omega), Int.toNat_natCast]
  have h1 : min i IntKind.i64.bits = i := Nat.min_eq_left (by show i ≤ 64; omega)
  rw [h1]
  congr 2
  rw [Int.fdiv_eq_ediv_of_nonneg _ (Int.le_of_lt (Int.pow_pos (by decide)))]
  congr 1
theorem bitI_mod {a : Int} {i : Nat} (hi : i < 16) : bitI (a % 65536) i = bitI a i := by
  have : i = 0 ∨ i = 1 ∨ i = 2 ∨ i = 3 ∨ i = 4 ∨ i = 5 ∨ i = 6 ∨ i = 7 ∨ i = 8 ∨ i = 9 ∨ i = 10 ∨ i = 11 ∨ i = 12 ∨ i = 13 ∨ i = 14 ∨ i = 15 := by omega
  rcases this with h | h | h | h | h | h | h | h | h | h | h | h | h | h | h | h <;>
  · subst h
    unfold bitI
    congr 1
    simp only [Nat.reducePow]
    omega
def zAd (a : Int) (n : Nat) : List Int := ((List.range n).filter (bitI a)).map fun i : Nat => (i : Int)
theorem zIr (a : Int) (n : Nat) : zAd a (n + 1) = zAd a n ++ (if bitI a n then [(n : Int)] else []) := by
  unfold zAd
  rw [List.range_succ, List.filter_append, List.map_append]
  cases h : bitI a n <;> simp [List.filter, h]
theorem zFq (a : Int) : ∀ n, (zAd a n).length ≤ n
  | 0 => by simp [zAd]
  | n + 1 => by
    rw [zIr]
    have := zFq a n
    split <;> simp <;> omega
theorem bitsI_mem {a : Int} {n : Nat} {x : Int} : x ∈ zAd a n ↔ ∃ i : Nat, i < n ∧ bitI a i = true ∧ x = (i : Int) := by
  unfold zAd
  simp only [List.mem_map, List.mem_filter, List.mem_range]
  constructor
  · rintro ⟨i, ⟨h1, h2⟩, rfl⟩; exact ⟨i, h1, h2, rfl⟩
  · rintro ⟨i, h1, h2, rfl⟩; exact ⟨i, ⟨h1, h2⟩, rfl⟩
theorem zUj {a : Int} {n : Nat} (hn : n ≤ 16) : ∀ x ∈ zAd a n, -9223372036854775808 ≤ x ∧ x < 9223372036854775808 := by
  intro x hx
  obtain ⟨i, h, _, rfl⟩ := bitsI_mem.1 hx
  omega
theorem zUi {a : Int} {n : Nat} (hn : n ≤ 16) : zAd (a % 65536) n = zAd a n := by
  unfold zAd
  congr 1
  apply List.filter_congr
  intro i hi
  rw [List.mem_range] at hi
  exact bitI_mod (by omega)
theorem zUk (a : Int) (n : Nat) : (zAd a n).Pairwise (· < ·) := by
  unfold zAd
  rw [List.pairwise_map]
  refine List.Pairwise.imp (R := (· < ·)) (by intro x y h; omega) ?_
  exact List.Pairwise.filter _ List.pairwise_lt_range
end Go.X
end
section
open Go Go.X
namespace Go.X
set_option linter.unusedVariables false
def RdInts (h : Heap) (v : Value) (l : List Int) : Prop := ∀ h', Grows h h' → zw h' v = some l
theorem RdInts.grow {h h' : Heap} {v : Value} {l : List Int} (hr : RdInts h v l) (g : Grows h h') : RdInts h' v l := fun h2 g2 => hr h2 (g.trans g2)
theorem RdInts.now {h : Heap} {v : Value} {l : List Int} (hr : RdInts h v l) : zw h v = some l := hr h (Grows.refl h)
theorem Own.ints {h : Heap} {S : Nat → Prop} {v : Value} {n : Nat} {l : List Int} (ho : Own h S 1 v n (z8 l)) (hb : ∀ x ∈ l, -9223372036854775808 ≤ x ∧ x < 9223372036854775808) : zw h v = some l := by
  obtain ⟨a, cap, rfl, hs⟩ := ho.shape
  by_cases h0 : n = 0
  · subst h0
    have := ho.nil_of
    obtain rfl : l = [] := by cases l with | nil => rfl | cons x l => simp [z8] at this
    cases a <;> simp [zw]
  · obtain ⟨B, off, sp, rfl, h1, _⟩ := hs h0
    rw [Nat.mul_one] at h1
    simp only [zw]
    rw [if_neg h0]
    simp only [h1, zGQ hb]
theorem Own.rdInts {h : Heap} {S : Nat → Prop} {v : Value} {n : Nat} {l : List Int} (ho : Own h S 1 v n (z8 l)) (hb : ∀ x ∈ l, -9223372036854775808 ≤ x ∧ x < 9223372036854775808) : RdInts h v l := fun _ g => (ho.grow g).ints hb
theorem zVk {a : Int} : zt [.int .i64 0] [(0, 1, .int .i64 a)] = some [.int .i64 a] := rfl
theorem Own.pushI {g : Heap} {S : Nat → Prop} {v : Value} {n : Nat} {q : List Int} (hO : Own g S 1 v n (z8 q)) (x : Int) (hroom : (n + 1) * 8 ≤ zU) :
    ∃ v' g', zAp (g.new [.int .i64 x]) 1 8 v (.slice (some ⟨g.next, 0, none⟩) 1 1) = some (v', g') ∧ Own g' (fun A => S A ∨ g.next ≤ A) 1 v' (n + 1) (z8 (q ++ [x])) ∧ Keeps S g g' := by
  have hO1 := hO.grow (Grows.new (l := [.int .i64 x]))
  have hs1 := (Var.new_self (h := g) (l := [.int .i64 x])).src (n := 1) (esz := 1) (bytes := 8) (s := v) (sp := none) (c := 1) rfl (by decide)
  obtain ⟨v', g2, e2, hO2, k2⟩ := hO1.append (bytes := 8) (m := 1) (new := [.int .i64 x]) rfl rfl (by decide) (by decide) hroom
  have hk : Keeps S g g2 := (Keeps.new (W := S)).trans k2 (fun _ _ e => e)
  refine ⟨v', g2, by rw [hs1, e2], ?_, hk⟩
  have e : z8 q ++ [.int .i64 x] = z8 (q ++ [x]) := by simp [z8]
  rw [e] at hO2
  exact hO2.mono fun A hA => hA.imp id fun q => by
    have : (g.new [.int .i64 x]).next = g.next + 1 := rfl
    omega
theorem list_run {pr : Prog} (hn : pr.prim 47 = none) (hc : pr.code 47 = some xq47) {h : Heap} {a : Int} :
    ∃ v h', cfi pr 47 [.int .i64 a] h = some (v, h') ∧ RdInts h' v (zAd a 16) ∧ Grows h h' := by
  have hr64 : zU = 140737488355328 := rfl
  have : ∃ v h', cfi pr 47 [.int .i64 a] h = some (v, h') ∧ Own h' (fun A => h.next ≤ A) 1 v (zAd a 16).length (z8 (zAd a 16)) ∧ Grows h h' := by
    refine zAg hn hc rfl ?_
    unfold xq47
    dsimp only [zc]
    refine wpk.out (k := []) ?_
    (repeat (first | refine zS ?_ | refine zL ?_ | refine zR ?_ | refine zE ?_ | refine zC ?_ | refine zJ ?_ | refine zK ?_ | refine zP ?_ | refine zF ?_ | refine zH ?_ | refine zG ?_ | refine zI (by decide) ?_ | refine zQ ?_ | ((first | refine zD ?_ | refine zN ?_ | refine zT rfl rfl ?_ | refine zO rfl ?_ | refine zM ?_); simp only [yq47.down, zA, lemS.down, lemC.down, Int.reduceBEq, Nat.reduceAdd, Nat.reduceLeDiff, reduceIte, Nat.reduceEqDiff, Int.reduceLT, Int.reduceLE, Int.reduceGT, Int.reduceGE, Int.reduceEq, Int.reduceAdd, Int.reduceSub, Int.reduceMul, reduceCtorEq, lemH.down])))
    have hO : Own (h.new []) (fun A => h.next ≤ A) 1 (.slice (some ⟨h.next, 0, none⟩) 0 0) 0 (z8 []) := (Own.newSlice (sp := none) rfl (.inl rfl)).mono fun A hA => Nat.le_of_eq hA.symm
    have gg : Grows h (h.new []) := Grows.new
    generalize h.new [] = h1 at *
    refine zo (fun m t g => ∃ i v, m = 16 - i ∧ i ≤ 16 ∧ Own g (fun A => h.next ≤ A) 1 v (zAd a i).length (z8 (zAd a i)) ∧ Grows h g ∧ t.get 0 = .int .i64 a ∧ t.get 3 = v ∧ t.get 4 = .int .i64 (i : Int)) ?_ 16 _ _ ⟨0, _, rfl, by omega, hO, gg, by simp only [yq47.down, zA, lemS.down, lemC.down, Int.reduceBEq, Nat.reduceAdd, Nat.reduceLeDiff, reduceIte, Nat.reduceEqDiff, Int.reduceLT, Int.reduceLE, Int.reduceGT, Int.reduceGE, Int.reduceEq, Int.reduceAdd, Int.reduceSub, Int.reduceMul, reduceCtorEq], by simp only [yq47.down, zA, lemS.down, lemC.down, Int.reduceBEq, Nat.reduceAdd, Nat.reduceLeDiff, reduceIte, Nat.reduceEqDiff, Int.reduceLT, Int.reduceLE, Int.reduceGT, Int.reduceGE, Int.reduceEq, Int.reduceAdd, Int.reduceSub, Int.reduceMul, reduceCtorEq], by (simp only [yq47.down, zA, lemS.down, lemC.down, Int.reduceBEq, Nat.reduceAdd, Nat.reduceLeDiff, reduceIte, Nat.reduceEqDiff, Int.reduceLT, Int.reduceLE, Int.reduceGT, Int.reduceGE, Int.reduceEq, Int.reduceAdd, Int.reduceSub, Int.reduceMul, reduceCtorEq]) <;> rfl⟩
    rintro m t g ⟨i, v, rfl, hi, o3, gg, t0, t3, t4⟩ hnext
    refine xq47_7k ?_
    dsimp only [zH2]
    (repeat (first | refine zS ?_ | refine zL ?_ | refine zR ?_ | refine zE ?_ | refine zC ?_ | refine zJ ?_ | refine zK ?_ | refine zP ?_ | refine zF ?_ | refine zH ?_ | refine zG ?_ | refine zI (by decide) ?_ | refine zQ ?_ | ((first | refine zD ?_ | refine zN ?_ | refine zT rfl rfl ?_ | refine zO rfl ?_ | refine zM ?_); simp only [yq47.down, zA, lemS.down, lemC.down, Int.reduceBEq, Nat.reduceAdd, Nat.reduceLeDiff, reduceIte, Nat.reduceEqDiff, Int.reduceLT, Int.reduceLE, Int.reduceGT, Int.reduceGE, Int.reduceEq, Int.reduceAdd, Int.reduceSub, Int.reduceMul, reduceCtorEq, lemH.down, t0, t3, t4])))
    refine ⟨fun hlt => ?_, fun hge => ?_⟩
    · have hi' : i < 16 := by omega
      have w1 : IntKind.i64.wrap ((i : Int) + 1) = ((i + 1 : Nat) : Int) := by rw [wrap_i64 (by omega) (by omega)]; omega
      have ci : zAm .u64 (.int .i64 (i : Int)) = some (uw .u64 i) := zBU rfl
      have sh := shr_bit (a := a) (i := i) (by omega)
      have an := and_1 (a := a / (2 ^ i : Nat))
      have hb := zFq a i
      have hs := zIr a i
      by_cases c : bitI a i = true
      · have d : ((a / (2 ^ i : Nat)) % 2 == 1) = true := c
        obtain ⟨v2, h2, e2, o2, k2⟩ := o3.pushI (i : Int) (by omega)
        rw [if_pos c] at hs
        (repeat (first | refine zS ?_ | refine zL ?_ | refine zR ?_ | refine zE ?_ | refine zC ?_ | refine zJ ?_ | refine zK ?_ | refine zP ?_ | refine zF ?_ | refine zH ?_ | refine zG ?_ | refine zI (by decide) ?_ | refine zQ ?_ | ((first | refine zD ?_ | refine zN ?_ | refine zT rfl rfl ?_ | refine zO rfl ?_ | refine zM ?_); simp only [yq47.down, zA, lemS.down, lemC.down, Int.reduceBEq, Nat.reduceAdd, Nat.reduceLeDiff, reduceIte, Nat.reduceEqDiff, Int.reduceLT, Int.reduceLE, Int.reduceGT, Int.reduceGE, Int.reduceEq, Int.reduceAdd, Int.reduceSub, Int.reduceMul, reduceCtorEq, lemH.down, t0, t3, t4, zGh, ci, sh, an, d, zVk, e2, w1])))
        refine hnext (16 - (i + 1)) _ _ (by omega) ⟨i + 1, v2, rfl, by omega, ?_, gg.then k2 (fun A hA q => by omega), by simp only [yq47.down, zA, lemS.down, lemC.down, Int.reduceBEq, Nat.reduceAdd, Nat.reduceLeDiff, reduceIte, Nat.reduceEqDiff, Int.reduceLT, Int.reduceLE, Int.reduceGT, Int.reduceGE, Int.reduceEq, Int.reduceAdd, Int.reduceSub, Int.reduceMul, reduceCtorEq, t0], by simp only [yq47.down, zA, lemS.down, lemC.down, Int.reduceBEq, Nat.reduceAdd, Nat.reduceLeDiff, reduceIte, Nat.reduceEqDiff, Int.reduceLT, Int.reduceLE, Int.reduceGT, Int.reduceGE, Int.reduceEq, Int.reduceAdd, Int.reduceSub, Int.reduceMul, reduceCtorEq], by simp only [yq47.down, zA, lemS.down, lemC.down, Int.reduceBEq, Nat.reduceAdd, Nat.reduceLeDiff, reduceIte, Nat.reduceEqDiff, Int.reduceLT, Int.reduceLE, Int.reduceGT, Int.reduceGE, Int.reduceEq, Int.reduceAdd, Int.reduceSub, Int.reduceMul, reduceCtorEq]⟩
        rw [hs, List.length_append]
        have := gg.next
        exact o2.mono fun A hA => by rcases hA with q | q <;> omega
      · have d : ((a / (2 ^ i : Nat)) % 2 == 1) = false := by simpa [bitI] using c
        rw [if_neg c, List.append_nil] at hs
        (repeat (first | refine zS ?_ | refine zL ?_ | refine zR ?_ | refine zE ?_ | refine zC ?_ | refine zJ ?_ | refine zK ?_ | refine zP ?_ | refine zF ?_ | refine zH ?_ | refine zG ?_ | refine zI (by decide) ?_ | refine zQ ?_ | ((first | refine zD ?_ | refine zN ?_ | refine zT rfl rfl ?_ | refine zO rfl ?_ | refine zM ?_); simp only [yq47.down, zA, lemS.down, lemC.down, Int.reduceBEq, Nat.reduceAdd, Nat.reduceLeDiff, reduceIte, Nat.reduceEqDiff, Int.reduceLT, Int.reduceLE, Int.reduceGT, Int.reduceGE, Int.reduceEq, Int.reduceAdd, Int.reduceSub, Int.reduceMul, reduceCtorEq, lemH.down, t0, t3, t4, zGh, ci, sh, an, d, w1])))
        exact hnext (16 - (i + 1)) _ _ (by omega) ⟨i + 1, v, rfl, by omega, by rw [hs]; exact o3, gg, by simp only [yq47.down, zA, lemS.down, lemC.down, Int.reduceBEq, Nat.reduceAdd, Nat.reduceLeDiff, reduceIte, Nat.reduceEqDiff, Int.reduceLT, Int.reduceLE, Int.reduceGT, Int.reduceGE, Int.reduceEq, Int.reduceAdd, Int.reduceSub, Int.reduceMul, reduceCtorEq, t0], by simp only [yq47.down, zA, lemS.down, lemC.down, Int.reduceBEq, Nat.reduceAdd, Nat.reduceLeDiff, reduceIte, Nat.reduceEqDiff, Int.reduceLT, Int.reduceLE, Int.reduceGT, Int.reduceGE, Int.reduceEq, Int.reduceAdd, Int.reduceSub, Int.reduceMul, reduceCtorEq, t3], by simp only [yq47.down, zA, lemS.down, lemC.down, Int.reduceBEq, Nat.reduceAdd, Nat.reduceLeDiff, reduceIte, Nat.reduceEqDiff, Int.reduceLT, Int.reduceLE, Int.reduceGT, Int.reduceGE, Int.reduceEq, Int.reduceAdd, Int.reduceSub, Int.reduceMul, reduceCtorEq]⟩
    · obtain rfl : i = 16 := by omega
      (repeat (first | refine zS ?_ | refine zL ?_ | refine zR ?_ | refine zE ?_ | refine zC ?_ | refine zJ ?_ | refine zK ?_ | refine zP ?_ | refine zF ?_ | refine zH ?_ | refine zG ?_ | refine zI (by decide) ?_ | refine zQ ?_ | ((first | refine zD ?_ | refine zN ?_ | refine zT rfl rfl ?_ | refine zO rfl ?_ | refine zM ?_); simp only [yq47.down, zA, lemS.down, lemC.down, Int.reduceBEq, Nat.reduceAdd, Nat.reduceLeDiff, reduceIte, Nat.reduceEqDiff, Int.reduceLT, Int.reduceLE, Int.reduceGT, Int.reduceGE, Int.reduceEq, Int.reduceAdd, Int.reduceSub, Int.reduceMul, reduceCtorEq, lemH.down, t0, t3, t4])))
      exact ⟨.inr rfl, v, by simp only [yq47.down, zA, lemS.down, lemC.down, Int.reduceBEq, Nat.reduceAdd, Nat.reduceLeDiff, reduceIte, Nat.reduceEqDiff, Int.reduceLT, Int.reduceLE, Int.reduceGT, Int.reduceGE, Int.reduceEq, Int.reduceAdd, Int.reduceSub, Int.reduceMul, reduceCtorEq], o3, gg⟩
  obtain ⟨v, h', e, o, g⟩ := this
  exact ⟨v, h', e, o.rdInts (zUj (by omega)), g⟩
end Go.X
end
section
open Go Go.X
namespace Go.X
set_option linter.unusedVariables false
def zz (x : Hdr) (l : List Int) : TagL := l.map fun i => (i, tagC i.toNat x)
theorem zC2 (x : Hdr) (l : List Int) : (zz x l).length = l.length := List.length_map ..
theorem zHA {x : Hdr} {l : List Int} (h : l.Pairwise (· < ·)) : zBL (zz x l) := by
  unfold zBL zz
  rw [List.pairwise_map]
  exact h
theorem zKi {x : Hdr} {l : List Int} (h : ∀ i ∈ l, inI i) : ∀ q ∈ zz x l, inI q.1 := by
  intro q hq
  unfold zz at hq
  rw [List.mem_map] at hq
  obtain ⟨i, hi, rfl⟩ := hq
  exact h i hi
theorem zEE {l : List Int} {j : Nat} (hj : j < l.length) : l.getD j 0 ∈ l := by
  rw [List.getD_eq_getElem?_getD, List.getElem?_eq_getElem hj]
  exact List.getElem_mem hj
def Few (l : List Int) : Prop := l.Pairwise (· < ·) ∧ ∀ x ∈ l, 0 ≤ x ∧ x < 16
theorem few_bits (a : Int) : Few (zAd a 16) := ⟨zUk a 16, fun x hx => by
  obtain ⟨i, h, _, rfl⟩ := bitsI_mem.1 hx
  omega⟩
theorem Few.at {l : List Int} (h : Few l) {j : Nat} (hj : j < l.length) : ∃ k : Nat, k < 16 ∧ l.getD j 0 = (k : Int) := by
  have := h.2 _ (zEE hj)
  exact ⟨(l.getD j 0).toNat, by omega, by omega⟩
theorem Few.drop {l : List Int} (h : Few l) (j : Nat) : Few (l.drop j) := ⟨h.1.drop, fun x hx => h.2 x (List.mem_of_mem_drop hx)⟩
end Go.X
end
section
open Go Go.X
namespace Go.X
set_option linter.unusedVariables false
theorem RdTags.elim {h : Heap} {v : Value} {l : TagL} (hr : RdTags h v l) {i : Nat} (hi : i < l.length) : ∃ B o, (∀ k : IntKind, zAn 2 v (.int k (i : Int)) = some (.pointer (some ⟨B, o, none⟩))) ∧ ∀ h', Grows h h' → (∀ sp, h'.loadN ⟨B, o, sp⟩ 2 = some [.int .i64 (l.getD i (0, [])).1, .string (zB (l.getD i (0, [])).2)]) ∧ (∀ sp, h'.load ⟨B, o, sp⟩ = some (.int .i64 (l.getD i (0, [])).1)) ∧ (∀ sp, h'.load ⟨B, o + 1, sp⟩ = some (.string (zB (l.getD i (0, [])).2))) := by
  obtain ⟨hb, a, cap, rfl, hel⟩ := zBT hr.now
  obtain ⟨B, o, ia, _⟩ := hel i hi
  refine ⟨B, o, ia, fun h' g => ?_⟩
  obtain ⟨_, a', cap', e, hel'⟩ := zBT (hr h' g)
  cases e
  obtain ⟨B', o', ia', ld'⟩ := hel' i hi
  have := (ia .i64).symm.trans (ia' .i64)
  simp only [Option.some.injEq, Value.pointer.injEq, Addr.mk.injEq, and_true] at this
  obtain ⟨rfl, rfl⟩ := this
  exact ld'
end Go.X
end
section
open Go Go.X
namespace Go.X
set_option linter.unusedVariables false
structure Law17b (pr : Prog) : Prop where
  law : Law17 pr
  aw : pr.prim 44 = some (za trueS)
  list : pr.prim 47 = none
  listC : pr.code 47 = some xq47
theorem RdInts.elim {h : Heap} {v : Value} {l : List Int} (hr : RdInts h v l) : (∀ x ∈ l, -9223372036854775808 ≤ x ∧ x < 9223372036854775808) ∧ ∃ a cap, v = .slice a l.length cap ∧ ∀ i, i < l.length → ∃ B o, (∀ k : IntKind, zAn 1 v (.int k (i : Int)) = some (.pointer (some ⟨B, o, none⟩))) ∧ ∀ h', Grows h h' → ∀ sp, h'.load ⟨B, o, sp⟩ = some (.int .i64 (l.getD i 0)) := by
  obtain ⟨hb, a, cap, rfl, hel⟩ := zB3 hr.now
  refine ⟨hb, a, cap, rfl, fun i hi => ?_⟩
  obtain ⟨B, o, ia, ld⟩ := hel i hi
  refine ⟨B, o, ia, fun h' g sp => ?_⟩
  obtain ⟨_, a', cap', e, hel'⟩ := zB3 (hr h' g)
  obtain ⟨B', o', ia', ld'⟩ := hel' i hi
  have := (ia .i64).symm.trans (ia' .i64)
  simp only [Option.some.injEq, Value.pointer.injEq, Addr.mk.injEq, and_true] at this
  obtain ⟨rfl, rfl⟩ := this
  exact ld'
theorem zG9 {n : Nat} {l : List Int} (h : Few l) {j : Nat} (hj : j < l.length) : ∃ k : Nat, k < 16 ∧ l.getD j 0 = (k : Int) ∧ zBJ zB4 (l.getD j 0) (ze n) = ((l.getD j 0, tagC (l.getD j 0).toNat (ze n)), 0) := by
  obtain ⟨k, hk, e⟩ := h.at hj
  refine ⟨k, hk, e, ?_⟩
  rw [e, zG4 hk, Int.toNat_natCast]
theorem zD8 {l : List Int} (h : Few l) : ∀ i ∈ l, inI i := fun i hi => by
  have := h.2 i hi
  constructor <;> omega
end Go.X
end
section
open Go Go.X
namespace Go.X
set_option linter.unusedVariables false
end Go.X
end
section
open Go Go.X Go.Proofs Go.RowKit
namespace Go.X
set_option linter.unusedVariables false
theorem lawbU21 : Law17b (Tab Try.prog U21) := ⟨lawU21, rfl, rfl, zW Try.func47 cq47⟩
end Go.X
end
