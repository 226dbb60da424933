/- Numbers. -/
import Derived.Test.YtbbmklepnfmppaaGreatProg
import Derived.KernelRfl
import Derived.Test.YtbbmklepnfmppaaGreatXC
import Derived.Test.YtbbmklepnfmppaaGreatXJ
set_option linter.unusedSimpArgs false
set_option linter.unusedVariables false
set_option maxHeartbeats 2000000
section
namespace Go.X
open Go.Proofs
abbrev xq113_0l : List XO := [
  ⟨some 4, .p (.mov (C (.string (strOf [])))), none⟩]
def xq113_0 : List XO := xq113_0l
theorem xq113_0e : E3 xq113_0 xq113_0l := E3.rfl
abbrev xq113_1l : List XO := [
  ⟨some 5, .p (.mov (C (.slice none 0 0))), none⟩]
def xq113_1 : List XO := xq113_1l
theorem xq113_1e : E3 xq113_1 xq113_1l := E3.rfl
abbrev xq113_2l : List XO := [
  ⟨some 7, .p (.mov (T 1)), none⟩,
  ⟨some 8, .p (.minmax true (T 7) [(C (.int .i64 0))]), none⟩,
  ⟨some 9, .p (.minmax false (T 8) [(C (.int .i64 8))]), none⟩,
  ⟨some 10, .p (.mov (C (.int .i64 0))), none⟩]
def xq113_2 : List XO := xq113_2l
theorem xq113_2e : E3 xq113_2 xq113_2l := E3.rfl
abbrev xq113_3l : List XO := [
  ⟨some 11, .p (.bin .lss (T 10) (T 9)), none⟩]
def xq113_3 : List XO := xq113_3l
theorem xq113_3e : E3 xq113_3 xq113_3l := E3.rfl
abbrev xq113_4l : List XO := [
  ⟨some 12, .p (.mov (T 10)), none⟩,
  ⟨some 6, .p (.mov (T 12)), none⟩]
def xq113_4 : List XO := xq113_4l
theorem xq113_4e : E3 xq113_4 xq113_4l := E3.rfl
abbrev xq113_5l : List XO := [
  ⟨some 13, .p (.mov (T 5)), none⟩,
  ⟨some 14, .p (.mov (T 0)), none⟩,
  ⟨some 15, .p (.mov (T 1)), none⟩,
  ⟨some 16, .p (.minmax false (T 15) [(C (.int .i64 8))]), none⟩,
  ⟨some 17, .p (.bin .sub (T 16) (C (.int .i64 1))), none⟩,
  ⟨some 18, .p (.mov (T 6)), none⟩,
  ⟨some 19, .p (.bin .sub (T 17) (T 18)), none⟩,
  ⟨some 20, .p (.bin .mul (C (.int .i64 8)) (T 19)), none⟩,
  ⟨some 21, .p (.bin .shr (T 14) (T 20)), none⟩,
  ⟨some 22, .p (.cint .u8 (T 21)), none⟩,
  ⟨some 23, .a (.bslice [(.int .u8 0)] 1 [(0, 1, (T 22))]), none⟩,
  ⟨some 24, .e (.append 1 1 (T 13) (T 23)), none⟩,
  ⟨some 5, .p (.mov (T 24)), none⟩]
def xq113_5 : List XO := xq113_5l
theorem xq113_5e : E3 xq113_5 xq113_5l := E3.rfl
abbrev xq113_6l : List XO := [
  ⟨some 25, .p (.bin .add (T 10) (C (.int .i64 1))), none⟩,
  ⟨some 10, .p (.mov (T 25)), none⟩]
def xq113_6 : List XO := xq113_6l
theorem xq113_6e : E3 xq113_6 xq113_6l := E3.rfl
def xq113_7b : XC :=
  .seq (.ops xq113_3) (.seq (.cond (T 11) (.skip) (.exit 0)) (.seq (.block 1 (.seq (.ops xq113_4) (.ops xq113_5))) (.ops xq113_6)))
def xq113_7 : XC := xq113_7b
theorem xq113_7k {pr : Prog} {k : List KI} {Q : XE → Fr → Heap → Prop} {t : Fr} {h : Heap} (hw : wpk pr xq113_7b k Q t h) : wpk pr xq113_7 k Q t h := hw
abbrev xq113_8l : List XO := [
  ⟨some 26, .p (.mov (T 5)), none⟩,
  ⟨some 27, .r (.cb2s (T 26)), none⟩,
  ⟨some 4, .p (.mov (T 27)), none⟩]
def xq113_8 : List XO := xq113_8l
theorem xq113_8e : E3 xq113_8 xq113_8l := E3.rfl
def xq113 : XF := ⟨2, [.tmp 4],
  .seq (.ops xq113_0) (.seq (.ops xq113_1) (.seq (.seq (.ops xq113_2) (.block 0 (.loop xq113_7))) (.seq (.ops xq113_8) (.ret))))⟩
def yq113 := PLift.up (And.intro (And.intro (And.intro (@xq113_0e) (@xq113_1e)) (And.intro (@xq113_2e) (@xq113_3e))) (And.intro (And.intro (@xq113_4e) (@xq113_5e)) (And.intro (@xq113_6e) (@xq113_8e))))
theorem cq113 : zj Tryz.prog Tryz.f113 = some xq113 := by kernel_rfl
abbrev xq76_0l : List XO := [
  ⟨some 4, .p (.mov (C (.string (strOf [])))), none⟩]
def xq76_0 : List XO := xq76_0l
theorem xq76_0e : E3 xq76_0 xq76_0l := E3.rfl
abbrev xq76_1l : List XO := [
  ⟨some 5, .p (.mov (T 1)), none⟩,
  ⟨some 6, .p (.bin .gtr (T 5) (C (.int .i64 8))), none⟩]
def xq76_1 : List XO := xq76_1l
theorem xq76_1e : E3 xq76_1 xq76_1l := E3.rfl
abbrev xq76_2l : List XO := [
  ⟨some 1, .p (.mov (C (.int .i64 8))), none⟩]
def xq76_2 : List XO := xq76_2l
theorem xq76_2e : E3 xq76_2 xq76_2l := E3.rfl
abbrev xq76_3l : List XO := [
  ⟨some 7, .p (.mov (T 1)), none⟩,
  ⟨some 8, .p (.bin .leq (T 7) (C (.int .i64 0))), none⟩]
def xq76_3 : List XO := xq76_3l
theorem xq76_3e : E3 xq76_3 xq76_3l := E3.rfl
abbrev xq76_4l : List XO := [
  ⟨some 4, .p (.mov (C (.string (strOf [])))), none⟩]
def xq76_4 : List XO := xq76_4l
theorem xq76_4e : E3 xq76_4 xq76_4l := E3.rfl
abbrev xq76_5l : List XO := [
  ⟨some 9, .p (.mov (T 0)), none⟩,
  ⟨some 10, .p (.bin .quo (T 9) (C (.int .u64 256))), none⟩,
  ⟨some 11, .p (.mov (T 1)), none⟩,
  ⟨some 12, .p (.bin .sub (T 11) (C (.int .i64 1))), none⟩,
  ⟨some 13, .call (.func 76) [(T 10), (T 12)], none⟩,
  ⟨some 14, .p (.mov (T 0)), none⟩,
  ⟨some 15, .p (.bin .rem (T 14) (C (.int .u64 256))), none⟩,
  ⟨some 16, .p (.cint .u8 (T 15)), none⟩,
  ⟨some 17, .a (.bslice [(.int .u8 0)] 1 [(0, 1, (T 16))]), none⟩,
  ⟨some 18, .r (.cb2s (T 17)), none⟩,
  ⟨some 19, .p (.bin .add (T 13) (T 18)), none⟩,
  ⟨some 4, .p (.mov (T 19)), none⟩]
def xq76_5 : List XO := xq76_5l
theorem xq76_5e : E3 xq76_5 xq76_5l := E3.rfl
def xq76 : XF := ⟨2, [.tmp 4],
  .seq (.ops xq76_0) (.seq (.seq (.ops xq76_1) (.cond (T 6) (.ops xq76_2) (.skip))) (.seq (.seq (.ops xq76_3) (.cond (T 8) (.seq (.ops xq76_4) (.ret)) (.skip))) (.seq (.draw xq76_5 [(9, (4, [8]))]) (.ret))))⟩
def yq76 := PLift.up (And.intro (And.intro (@xq76_0e) (And.intro (@xq76_1e) (@xq76_2e))) (And.intro (@xq76_3e) (And.intro (@xq76_4e) (@xq76_5e))))
theorem cq76 : zj Tryz.prog Tryz.f76 = some xq76 := by kernel_rfl
end Go.X
end
section
open Go Go.X Go.Proofs Go.RowKit
namespace Go.X
set_option linter.unusedVariables false
def numB (n k : Nat) : List UInt8 := (List.range k).map fun i => UInt8.ofNat (n >>> (8 * (k - 1 - i)))
theorem numB_len (n k : Nat) : (numB n k).length = k := by simp [numB]
def mmV (isMax : Bool) (x : Value) : List Value → Option Value
  | [] => some x
  | y :: ys => match mm isMax x y with | some z => mmV isMax z ys | none => none
theorem p_minmax {t : Fr} {b : Bool} {x : Operand} {xs : List Operand} : zW t (.minmax b x xs) = mmV b (t.eval x) (xs.map t.eval) := by
  simp only [zW]
  generalize t.eval x = v
  induction xs generalizing v with
  | nil => rfl
  | cons y ys ih =>
    simp only [mms, List.map_cons, mmV]
    cases mm b v (t.eval y) with
    | none => rfl
    | some z => exact ih z
theorem mm_max {k : IntKind} {x y : Int} : mmV true (.int k x) [.int k y] = some (.int k (if y > x then y else x)) := by simp [mmV, mm]
theorem mm_min {k : IntKind} {x y : Int} : mmV false (.int k x) [.int k y] = some (.int k (if y < x then y else x)) := by simp [mmV, mm]
def wnumS : List Value → Option Value
  | [.int .u64 n, .int .i64 k] => if 0 ≤ n ∧ n < 18446744073709551616 ∧ 0 ≤ k ∧ k ≤ 8 then some (.string (strOf (numB n.toNat k.toNat))) else none
  | _ => none
theorem wnum_ok (pr : Prog) (n k : Nat) (hn : n < 18446744073709551616) (hk : k ≤ 8) (h : Heap) : Comes pr xq113 [uw .u64 n, .int .i64 (k : Int)] h (.string (strOf (numB n k))) := by
  apply Comes.of
  unfold xq113
  dsimp only [zh]
  have m1 := mm_max (k := .i64) (x := (k : Int)) (y := 0)
  have m2 := mm_min (k := .i64) (x := (k : Int)) (y := 8)
  rw [if_neg (by omega)] at m1 m2
  (repeat (first | refine zS ?_ | refine zK ?_ | refine zR ?_ | refine zD ?_ | refine zB ?_ | refine zI ?_ | refine zJ ?_ | refine zP ?_ | refine zE ?_ | refine zG ?_ | refine zF ?_ | refine zH (by decide) ?_ | refine zQ ?_ | ((first | refine zC ?_ | refine zM ?_ | refine zO rfl rfl ?_ | refine zN rfl ?_ | refine zL ?_); simp only [yq113.down, zA, lemS.down, lemC.down, Int.reduceBEq, Nat.reduceAdd, Nat.reduceLeDiff, reduceIte, Nat.reduceEqDiff, Int.reduceLT, Int.reduceLE, Int.reduceGT, Int.reduceGE, Int.reduceEq, Int.reduceAdd, Int.reduceSub, Int.reduceMul, reduceCtorEq, lemH.down, p_minmax, m1, m2])))
  have hl : ∀ i, i ≤ k → ((numB n k).take i).length = i := fun i hi => by rw [List.length_take, numB_len]; omega
  refine zw (fun m t g => ∃ i v, m = k - i ∧ i ≤ k ∧ Own g (fun A => h.next ≤ A) 1 v ((numB n k).take i).length (zV ((numB n k).take i)) ∧ Grows h g ∧ t.get 0 = uw .u64 n ∧ t.get 1 = .int .i64 (k : Int) ∧ t.get 5 = v ∧ t.get 9 = .int .i64 (k : Int) ∧ t.get 10 = .int .i64 (i : Int)) ?_ k _ _ ⟨0, _, rfl, by omega, Own.nil, Grows.refl h, by simp only [yq113.down, zA, lemS.down, lemC.down, Int.reduceBEq, Nat.reduceAdd, Nat.reduceLeDiff, reduceIte, Nat.reduceEqDiff, Int.reduceLT, Int.reduceLE, Int.reduceGT, Int.reduceGE, Int.reduceEq, Int.reduceAdd, Int.reduceSub, Int.reduceMul, reduceCtorEq], by simp only [yq113.down, zA, lemS.down, lemC.down, Int.reduceBEq, Nat.reduceAdd, Nat.reduceLeDiff, reduceIte, Nat.reduceEqDiff, Int.reduceLT, Int.reduceLE, Int.reduceGT, Int.reduceGE, Int.reduceEq, Int.reduceAdd, Int.reduceSub, Int.reduceMul, reduceCtorEq], by simp only [yq113.down, zA, lemS.down, lemC.down, Int.reduceBEq, Nat.reduceAdd, Nat.reduceLeDiff, reduceIte, Nat.reduceEqDiff, Int.reduceLT, Int.reduceLE, Int.reduceGT, Int.reduceGE, Int.reduceEq, Int.reduceAdd, Int.reduceSub, Int.reduceMul, reduceCtorEq], by simp only [yq113.down, zA, lemS.down, lemC.down, Int.reduceBEq, Nat.reduceAdd, Nat.reduceLeDiff, reduceIte, Nat.reduceEqDiff, Int.reduceLT, Int.reduceLE, Int.reduceGT, Int.reduceGE, Int.reduceEq, Int.reduceAdd, Int.reduceSub, Int.reduceMul, reduceCtorEq], by (simp only [yq113.down, zA, lemS.down, lemC.down, Int.reduceBEq, Nat.reduceAdd, Nat.reduceLeDiff, reduceIte, Nat.reduceEqDiff, Int.reduceLT, Int.reduceLE, Int.reduceGT, Int.reduceGE, Int.reduceEq, Int.reduceAdd, Int.reduceSub, Int.reduceMul, reduceCtorEq]) <;> rfl⟩
  rintro m t g ⟨i, v, rfl, hi, gO, gg, t0, t1, t5, t9, t10⟩ hnext
  refine xq113_7k ?_
  dsimp only [xq113_7b]
  (repeat (first | refine zS ?_ | refine zK ?_ | refine zR ?_ | refine zD ?_ | refine zB ?_ | refine zI ?_ | refine zJ ?_ | refine zP ?_ | refine zE ?_ | refine zG ?_ | refine zF ?_ | refine zH (by decide) ?_ | refine zQ ?_ | ((first | refine zC ?_ | refine zM ?_ | refine zO rfl rfl ?_ | refine zN rfl ?_ | refine zL ?_); simp only [yq113.down, zA, lemS.down, lemC.down, Int.reduceBEq, Nat.reduceAdd, Nat.reduceLeDiff, reduceIte, Nat.reduceEqDiff, Int.reduceLT, Int.reduceLE, Int.reduceGT, Int.reduceGE, Int.reduceEq, Int.reduceAdd, Int.reduceSub, Int.reduceMul, reduceCtorEq, lemH.down, t0, t1, t5, t9, t10])))
  refine ⟨fun hlt => ?_, fun hge => ?_⟩
  · have hi' : i < k := by omega
    have ww : IntKind.i64.wrap ((i : Int) + 1) = ((i + 1 : Nat) : Int) := by rw [wrap_i64 (by omega) (by omega)]; omega
    have w1 : IntKind.i64.wrap ((k : Int) - 1) = ((k - 1 : Nat) : Int) := by rw [wrap_i64 (by omega) (by omega)]; omega
    have w2 : IntKind.i64.wrap (((k - 1 : Nat) : Int) - (i : Int)) = ((k - 1 - i : Nat) : Int) := by rw [wrap_i64 (by omega) (by omega)]; omega
    have w3 : IntKind.i64.wrap (8 * ((k - 1 - i : Nat) : Int)) = ((8 * (k - 1 - i) : Nat) : Int) := by rw [wrap_i64 (by omega) (by omega)]; omega
    have sh := shrV_u64 (k' := .i64) (x := n) (n := 8 * (k - 1 - i)) (by omega)
    rw [Nat.mod_eq_of_lt hn] at sh
    have hnx := gg.next
    obtain ⟨v', g2, e2, hO2, k2⟩ := gO.push (n >>> (8 * (k - 1 - i))) (by rw [hl i hi]; unfold zX; omega) (fun A hA => by show h.next ≤ A; omega)
    (repeat (first | refine zS ?_ | refine zK ?_ | refine zR ?_ | refine zD ?_ | refine zB ?_ | refine zI ?_ | refine zJ ?_ | refine zP ?_ | refine zE ?_ | refine zG ?_ | refine zF ?_ | refine zH (by decide) ?_ | refine zQ ?_ | ((first | refine zC ?_ | refine zM ?_ | refine zO rfl rfl ?_ | refine zN rfl ?_ | refine zL ?_); simp only [yq113.down, zA, lemS.down, lemC.down, Int.reduceBEq, Nat.reduceAdd, Nat.reduceLeDiff, reduceIte, Nat.reduceEqDiff, Int.reduceLT, Int.reduceLE, Int.reduceGT, Int.reduceGE, Int.reduceEq, Int.reduceAdd, Int.reduceSub, Int.reduceMul, reduceCtorEq, lemH.down, lemW.down, t0, t1, t5, t9, t10, p_minmax, m2, w1, w2, w3, sh, e2, ww])))
    refine hnext (k - (i + 1)) _ _ (by omega) ⟨i + 1, v', rfl, by omega, ?_, gg.then k2 (fun A hA => by show ¬ (h.next ≤ A); omega), by simp only [yq113.down, zA, lemS.down, lemC.down, Int.reduceBEq, Nat.reduceAdd, Nat.reduceLeDiff, reduceIte, Nat.reduceEqDiff, Int.reduceLT, Int.reduceLE, Int.reduceGT, Int.reduceGE, Int.reduceEq, Int.reduceAdd, Int.reduceSub, Int.reduceMul, reduceCtorEq, t0], by simp only [yq113.down, zA, lemS.down, lemC.down, Int.reduceBEq, Nat.reduceAdd, Nat.reduceLeDiff, reduceIte, Nat.reduceEqDiff, Int.reduceLT, Int.reduceLE, Int.reduceGT, Int.reduceGE, Int.reduceEq, Int.reduceAdd, Int.reduceSub, Int.reduceMul, reduceCtorEq, t1], by simp only [yq113.down, zA, lemS.down, lemC.down, Int.reduceBEq, Nat.reduceAdd, Nat.reduceLeDiff, reduceIte, Nat.reduceEqDiff, Int.reduceLT, Int.reduceLE, Int.reduceGT, Int.reduceGE, Int.reduceEq, Int.reduceAdd, Int.reduceSub, Int.reduceMul, reduceCtorEq], by simp only [yq113.down, zA, lemS.down, lemC.down, Int.reduceBEq, Nat.reduceAdd, Nat.reduceLeDiff, reduceIte, Nat.reduceEqDiff, Int.reduceLT, Int.reduceLE, Int.reduceGT, Int.reduceGE, Int.reduceEq, Int.reduceAdd, Int.reduceSub, Int.reduceMul, reduceCtorEq, t9], by simp only [yq113.down, zA, lemS.down, lemC.down, Int.reduceBEq, Nat.reduceAdd, Nat.reduceLeDiff, reduceIte, Nat.reduceEqDiff, Int.reduceLT, Int.reduceLE, Int.reduceGT, Int.reduceGE, Int.reduceEq, Int.reduceAdd, Int.reduceSub, Int.reduceMul, reduceCtorEq]⟩
    rw [List.take_succ_eq_append_getElem (by rw [numB_len]; exact hi')]
    have : (numB n k)[i]'(by rw [numB_len]; exact hi') = UInt8.ofNat (n >>> (8 * (k - 1 - i))) := by simp [numB]
    rw [this]
    exact hO2
  · obtain rfl : i = k := by omega
    rw [List.take_of_length_le (by rw [numB_len]; exact Nat.le_refl _)] at gO
    (repeat (first | refine zS ?_ | refine zK ?_ | refine zR ?_ | refine zD ?_ | refine zB ?_ | refine zI ?_ | refine zJ ?_ | refine zP ?_ | refine zE ?_ | refine zG ?_ | refine zF ?_ | refine zH (by decide) ?_ | refine zQ ?_ | ((first | refine zC ?_ | refine zM ?_ | refine zO rfl rfl ?_ | refine zN rfl ?_ | refine zL ?_); simp only [yq113.down, zA, lemS.down, lemC.down, Int.reduceBEq, Nat.reduceAdd, Nat.reduceLeDiff, reduceIte, Nat.reduceEqDiff, Int.reduceLT, Int.reduceLE, Int.reduceGT, Int.reduceGE, Int.reduceEq, Int.reduceAdd, Int.reduceSub, Int.reduceMul, reduceCtorEq, lemH.down, t0, t1, t5, t9, t10, gO.cb2s])))
    exact ⟨.inr rfl, by simp only [yq113.down, zA, lemS.down, lemC.down, Int.reduceBEq, Nat.reduceAdd, Nat.reduceLeDiff, reduceIte, Nat.reduceEqDiff, Int.reduceLT, Int.reduceLE, Int.reduceGT, Int.reduceGE, Int.reduceEq, Int.reduceAdd, Int.reduceSub, Int.reduceMul, reduceCtorEq], gg⟩
theorem wnumS_ok {args : List Value} {v : Value} (h : wnumS args = some v) : args.length = 2 ∧ zp v = true ∧ ∀ pr h, Comes pr xq113 args h v := by
  unfold wnumS at h
  split at h
  · rename_i n k
    split at h
    · rename_i hc
      cases h
      refine ⟨rfl, rfl, fun pr h => ?_⟩
      have := wnum_ok pr n.toNat k.toNat (by omega) (by omega) h
      rw [show (k.toNat : Int) = k by omega] at this
      have e : uw .u64 n.toNat = .int .u64 n := by unfold uw; rw [u64_bits, Nat.mod_eq_of_lt (by omega)]; congr 1; omega
      rw [e] at this
      exact this
    · cases h
  · cases h
theorem numB_succ (n k : Nat) : numB n (k + 1) = numB (n / 256) k ++ [UInt8.ofNat n] := by
  unfold numB
  rw [List.range_succ, List.map_append]
  congr 1
  · apply List.map_congr_left
    intro i hi
    have hi : i < k := by simpa using hi
    congr 1
    rw [Nat.shiftRight_eq_div_pow, Nat.shiftRight_eq_div_pow, Nat.div_div_eq_div_mul]
    congr 1
    have : 8 * (k + 1 - 1 - i) = 8 + 8 * (k - 1 - i) := by omega
    rw [this, Nat.pow_add]
  · simp
theorem cfi_comes {pr : Prog} {f : Nat} {F : XF} {args : List Value} {h : Heap} {v : Value} (hp : pr.prim f = none) (hF : pr.code f = some F) (hn : args.length = F.nargs) (hc : Comes pr F args h v) : ∃ h1, cfi pr f args h = some (v, h1) ∧ Grows h h1 := by
  obtain ⟨e, t', h1, hr, he, hres, hg⟩ := hc
  exact ⟨h1, cfi_code hp hF hn ⟨e, t', h1, hr, he, hres, rfl⟩, hg⟩
theorem quo_u64 {n : Nat} (hn : n < 18446744073709551616) : binX .quo (uw .u64 n) (.int .u64 256) = some (uw .u64 (n / 256)) := by
  rw [← nat_u64 hn, show (256 : Int) = ((256 : Nat) : Int) from rfl, quo_nat (by decide), ← nat_u64 (by omega)]
  congr 2
  unfold IntKind.wrap
  simp only [IntKind.signed, IntKind.bits, Bool.false_and, Bool.false_eq_true, if_false]
  rw [show (2 : Int) ^ 64 = 18446744073709551616 from rfl]
  omega
theorem rem_u64 {n : Nat} (hn : n < 18446744073709551616) : binX .rem (uw .u64 n) (.int .u64 256) = some (uw .u64 (n % 256)) := by
  rw [← nat_u64 hn, show (256 : Int) = ((256 : Nat) : Int) from rfl, rem_nat (by decide), ← nat_u64 (by omega)]
theorem num3_ok (pr : Prog) (hp : pr.prim 76 = none) (hc : pr.code 76 = some xq76) : ∀ (k n : Nat) (h : Heap), n < 18446744073709551616 → k ≤ 8 → Comes pr xq76 [uw .u64 n, .int .i64 (k : Int)] h (.string (strOf (numB n k)))
  | 0, n, h, hn, hk => by
    apply Comes.of
    unfold xq76
    dsimp only [zh]
    (repeat (first | refine zS ?_ | refine zK ?_ | refine zR ?_ | refine zD ?_ | refine zB ?_ | refine zI ?_ | refine zJ ?_ | refine zP ?_ | refine zE ?_ | refine zG ?_ | refine zF ?_ | refine zH (by decide) ?_ | refine zQ ?_ | ((first | refine zC ?_ | refine zM ?_ | refine zO rfl rfl ?_ | refine zN rfl ?_ | refine zL ?_); simp only [yq76.down, zA, lemS.down, lemC.down, Int.reduceBEq, Nat.reduceAdd, Nat.reduceLeDiff, reduceIte, Nat.reduceEqDiff, Int.reduceLT, Int.reduceLE, Int.reduceGT, Int.reduceGE, Int.reduceEq, Int.reduceAdd, Int.reduceSub, Int.reduceMul, reduceCtorEq])))
    exact ⟨.inr rfl, by (simp only [yq76.down, zA, lemS.down, lemC.down, Int.reduceBEq, Nat.reduceAdd, Nat.reduceLeDiff, reduceIte, Nat.reduceEqDiff, Int.reduceLT, Int.reduceLE, Int.reduceGT, Int.reduceGE, Int.reduceEq, Int.reduceAdd, Int.reduceSub, Int.reduceMul, reduceCtorEq, numB]) <;> rfl, Grows.refl h⟩
  | k + 1, n, h, hn, hk => by
    have ih := num3_ok pr hp hc k (n / 256) h (by omega) (by omega)
    apply Comes.of
    unfold xq76
    dsimp only [zh]
    have d1 : decide (((k + 1 : Nat) : Int) > 8) = false := by simp; omega
    have d2 : decide (((k + 1 : Nat) : Int) ≤ 0) = false := by rw [decide_eq_false_iff_not]; omega
    obtain ⟨h1, e1, g1⟩ := cfi_comes hp hc rfl ih
    have e1 : cfi pr 76 [uw .u64 (n / 256), .int .i64 (k : Int)] h = _ := e1
    have q1 := quo_u64 hn
    have q2 := rem_u64 hn
    have w1 : IntKind.i64.wrap (((k + 1 : Nat) : Int) - 1) = (k : Int) := by rw [wrap_i64 (by omega) (by omega)]; omega
    (repeat (first | refine zS ?_ | refine zK ?_ | refine zR ?_ | refine zD ?_ | refine zB ?_ | refine zI ?_ | refine zJ ?_ | refine zP ?_ | refine zE ?_ | refine zG ?_ | refine zF ?_ | refine zH (by decide) ?_ | refine zQ ?_ | ((first | refine zC ?_ | refine zM ?_ | refine zO rfl rfl ?_ | refine zN rfl ?_ | refine zL ?_); simp only [yq76.down, zA, lemS.down, lemC.down, Int.reduceBEq, Nat.reduceAdd, Nat.reduceLeDiff, reduceIte, Nat.reduceEqDiff, Int.reduceLT, Int.reduceLE, Int.reduceGT, Int.reduceGE, Int.reduceEq, Int.reduceAdd, Int.reduceSub, Int.reduceMul, reduceCtorEq, d1, d2])))
    refine wpk_drawP rfl ?_
    have ad := bin_cat (a := numB (n / 256) k) (b := [UInt8.ofNat (n % 256)]) (by rw [numB_len]; unfold zX; simp; omega)
    have um : UInt8.ofNat (n % 256) = UInt8.ofNat n := by apply UInt8.toNat.inj; simp
    have bc := byte_cell (p := n % 256) (by omega) (h := h1)
    simp only [yq76.down, zA, lemS.down, lemC.down, Int.reduceBEq, Nat.reduceAdd, Nat.reduceLeDiff, reduceIte, Nat.reduceEqDiff, Int.reduceLT, Int.reduceLE, Int.reduceGT, Int.reduceGE, Int.reduceEq, Int.reduceAdd, Int.reduceSub, Int.reduceMul, reduceCtorEq, d1, d2, lemH.down, lemW.down, q1, q2, w1, e1, bc]
    refine ⟨?_, ?_⟩
    · refine checkAt_one rfl rfl rfl rfl rfl (b := .cells [uw .u8 (n % 256)]) (mk := .slice 1 1 none) (v := .string (strOf [UInt8.ofNat (n % 256)])) ?_ ?_ ?_
      · simp only [yq76.down, zA, lemS.down, lemC.down, Int.reduceBEq, Nat.reduceAdd, Nat.reduceLeDiff, reduceIte, Nat.reduceEqDiff, Int.reduceLT, Int.reduceLE, Int.reduceGT, Int.reduceGE, Int.reduceEq, Int.reduceAdd, Int.reduceSub, Int.reduceMul, reduceCtorEq, lemH.down]
      · simp only [yq76.down, zA, lemS.down, lemC.down, Int.reduceBEq, Nat.reduceAdd, Nat.reduceLeDiff, reduceIte, Nat.reduceEqDiff, Int.reduceLT, Int.reduceLE, Int.reduceGT, Int.reduceGE, Int.reduceEq, Int.reduceAdd, Int.reduceSub, Int.reduceMul, reduceCtorEq, lemH.down]
        exact bc
      · simp only [yq76.down, zA, lemS.down, lemC.down, Int.reduceBEq, Nat.reduceAdd, Nat.reduceLeDiff, reduceIte, Nat.reduceEqDiff, Int.reduceLT, Int.reduceLE, Int.reduceGT, Int.reduceGE, Int.reduceEq, Int.reduceAdd, Int.reduceSub, Int.reduceMul, reduceCtorEq, lemH.down]
        exact cb2sV_at.trans (byte_cell (p := n % 256) (by omega) (h := h.at h1.next))
    · simp only [yq76.down, zA, lemS.down, lemC.down, Int.reduceBEq, Nat.reduceAdd, Nat.reduceLeDiff, reduceIte, Nat.reduceEqDiff, Int.reduceLT, Int.reduceLE, Int.reduceGT, Int.reduceGE, Int.reduceEq, Int.reduceAdd, Int.reduceSub, Int.reduceMul, reduceCtorEq, ad]
      (repeat (first | refine zS ?_ | refine zK ?_ | refine zR ?_ | refine zD ?_ | refine zB ?_ | refine zI ?_ | refine zJ ?_ | refine zP ?_ | refine zE ?_ | refine zG ?_ | refine zF ?_ | refine zH (by decide) ?_ | refine zQ ?_ | ((first | refine zC ?_ | refine zM ?_ | refine zO rfl rfl ?_ | refine zN rfl ?_ | refine zL ?_); simp only [yq76.down, zA, lemS.down, lemC.down, Int.reduceBEq, Nat.reduceAdd, Nat.reduceLeDiff, reduceIte, Nat.reduceEqDiff, Int.reduceLT, Int.reduceLE, Int.reduceGT, Int.reduceGE, Int.reduceEq, Int.reduceAdd, Int.reduceSub, Int.reduceMul, reduceCtorEq])))
      refine ⟨.inr rfl, ?_, g1.trans Grows.new⟩
      simp only [yq76.down, zA, lemS.down, lemC.down, Int.reduceBEq, Nat.reduceAdd, Nat.reduceLeDiff, reduceIte, Nat.reduceEqDiff, Int.reduceLT, Int.reduceLE, Int.reduceGT, Int.reduceGE, Int.reduceEq, Int.reduceAdd, Int.reduceSub, Int.reduceMul, reduceCtorEq, numB_succ, um]
def Z3 : List (Nat × Prim) := (113, zY wnumS) :: Z2
def Z4 : List (Nat × Prim) := (76, zY wnumS) :: Z3
theorem zk3 : XOK Tryz.prog (Tab Tryz.prog Z3) := Tab.pure zk2 Tryz.func113 cq113 fun args v h => ⟨(wnumS_ok h).1, (wnumS_ok h).2.1, fun g => (wnumS_ok h).2.2 _ g⟩
theorem zk4 : XOK Tryz.prog (Tab Tryz.prog Z4) := Tab.pure zk3 Tryz.func76 cq76 fun args v h => by
  unfold wnumS at h
  split at h
  · rename_i n k
    split at h
    · rename_i hc
      cases h
      refine ⟨rfl, rfl, fun g => ?_⟩
      have := num3_ok (Tab Tryz.prog Z3) rfl (codeAt Tryz.func76 cq76) k.toNat n.toNat g (by omega) (by omega)
      rw [show (k.toNat : Int) = k by omega] at this
      have e : uw .u64 n.toNat = .int .u64 n := by unfold uw; rw [u64_bits, Nat.mod_eq_of_lt (by omega)]; congr 1; omega
      rw [e] at this
      exact this
    · cases h
  · cases h
end Go.X
end
