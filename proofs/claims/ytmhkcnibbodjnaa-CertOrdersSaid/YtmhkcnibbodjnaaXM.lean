/- The reader of the document. -/
import Derived.Test.YtmhkcnibbodjnaaProg
import Derived.KernelRfl
import Derived.Test.YtmhkcnibbodjnaaXC
import Derived.Test.YtmhkcnibbodjnaaXJ
import Derived.Test.YtmhkcnibbodjnaaXK
set_option linter.unusedSimpArgs false
set_option linter.unusedVariables false
set_option maxHeartbeats 2000000
section
namespace Go.X
open Go.Proofs
abbrev zQF : List XO := [
  ⟨some 4, .p (.mov (C (.string (zB [])))), none⟩]
def xq40_0 : List XO := zQF
theorem xq40_0e : E3 xq40_0 zQF := E3.rfl
abbrev zQG : List XO := [
  ⟨some 5, .p (.mov (T 1)), none⟩,
  ⟨some 6, .p (.bin .gtr (T 5) (C (.int .i64 8))), none⟩]
def xq40_1 : List XO := zQG
theorem xq40_1e : E3 xq40_1 zQG := E3.rfl
abbrev zQH : List XO := [
  ⟨some 1, .p (.mov (C (.int .i64 8))), none⟩]
def xq40_2 : List XO := zQH
theorem xq40_2e : E3 xq40_2 zQH := E3.rfl
abbrev zQI : List XO := [
  ⟨some 7, .p (.mov (T 1)), none⟩,
  ⟨some 8, .p (.bin .leq (T 7) (C (.int .i64 0))), none⟩]
def xq40_3 : List XO := zQI
theorem xq40_3e : E3 xq40_3 zQI := E3.rfl
abbrev zQJ : List XO := [
  ⟨some 4, .p (.mov (C (.string (zB [])))), none⟩]
def xq40_4 : List XO := zQJ
theorem xq40_4e : E3 xq40_4 zQJ := E3.rfl
abbrev zQK : List XO := [
  ⟨some 9, .p (.mov (T 0)), none⟩,
  ⟨some 10, .p (.bin .quo (T 9) (C (.int .u64 256))), none⟩,
  ⟨some 11, .p (.mov (T 1)), none⟩,
  ⟨some 12, .p (.bin .sub (T 11) (C (.int .i64 1))), none⟩,
  ⟨some 13, .call (.func 40) [(T 10), (T 12)], none⟩,
  ⟨some 14, .p (.mov (T 0)), none⟩,
  ⟨some 15, .p (.bin .rem (T 14) (C (.int .u64 256))), none⟩,
  ⟨some 16, .p (.cint .u8 (T 15)), none⟩,
  ⟨some 17, .a (.bslice [(.int .u8 0)] 1 [(0, 1, (T 16))]), none⟩,
  ⟨some 18, .r (.cb2s (T 17)), none⟩,
  ⟨some 19, .p (.bin .add (T 13) (T 18)), none⟩,
  ⟨some 4, .p (.mov (T 19)), none⟩]
def xq40_5 : List XO := zQK
theorem xq40_5e : E3 xq40_5 zQK := E3.rfl
def xq40 : XF := ⟨2, [.tmp 4],
  .seq (.ops xq40_0) (.seq (.seq (.ops xq40_1) (.cond (T 6) (.ops xq40_2) (.skip))) (.seq (.seq (.ops xq40_3) (.cond (T 8) (.seq (.ops xq40_4) (.ret)) (.skip))) (.seq (.draw xq40_5 [(9, (4, [8]))]) (.ret))))⟩
def yq40 := PLift.up (And.intro (And.intro (@xq40_0e) (And.intro (@xq40_1e) (@xq40_2e))) (And.intro (@xq40_3e) (And.intro (@xq40_4e) (@xq40_5e))))
theorem cq40 : zb Try.prog Try.f40 = some xq40 := by kernel_rfl
end Go.X
end
section
open Go Go.X
namespace Go.X
set_option linter.unusedVariables false
theorem zWR (n k : Nat) : numB n (k + 1) = numB (n / 256) k ++ [UInt8.ofNat n] := by
  unfold numB
  rw [List.range_succ, List.map_append]
  congr 1
  · apply List.map_congr_left
    intro i hi
    have hi : i < k := by simpa using hi
    congr 1
    rw [Nat.shiftRight_eq_div_pow, Nat.shiftRight_eq_div_pow, Nat.div_div_eq_div_mul]
    congr 1
    have : 8 * (k + 1 - 1 - i) = 8 + 8 * (k - 1 - i) := by omega
    rw [this, Nat.pow_add]
  · simp
theorem zU7 {pr : Prog} {f : Nat} {F : XF} {args : List Value} {h : Heap} {v : Value} (hp : pr.prim f = none) (hF : pr.code f = some F) (hn : args.length = F.nargs) (hc : Comes pr F args h v) : ∃ h1, cfi pr f args h = some (v, h1) ∧ Grows h h1 := by
  obtain ⟨e, t', h1, hr, he, hres, hg⟩ := hc
  exact ⟨h1, zD3 hp hF hn ⟨e, t', h1, hr, he, hres, rfl⟩, hg⟩
theorem quo_u64 {n : Nat} (hn : n < 18446744073709551616) : binX .quo (uw .u64 n) (.int .u64 256) = some (uw .u64 (n / 256)) := by
  rw [← zBP hn, show (256 : Int) = ((256 : Nat) : Int) from rfl, zFB (by decide), ← zBP (by omega)]
  congr 2
  unfold IntKind.wrap
  simp only [IntKind.signed, IntKind.bits, Bool.false_and, Bool.false_eq_true, if_false]
  rw [show (2 : Int) ^ 64 = 18446744073709551616 from rfl]
  omega
theorem rem_u64 {n : Nat} (hn : n < 18446744073709551616) : binX .rem (uw .u64 n) (.int .u64 256) = some (uw .u64 (n % 256)) := by
  rw [← zBP hn, show (256 : Int) = ((256 : Nat) : Int) from rfl, zEQ (by decide), ← zBP (by omega)]
theorem zJo (pr : Prog) (hp : pr.prim 40 = none) (hc : pr.code 40 = some xq40) : ∀ (k n : Nat) (h : Heap), n < 18446744073709551616 → k ≤ 8 → Comes pr xq40 [uw .u64 n, .int .i64 (k : Int)] h (.string (zB (numB n k)))
  | 0, n, h, hn, hk => by
    apply Comes.of
    unfold xq40
    dsimp only [zc]
    (repeat (first | refine zS ?_ | refine zL ?_ | refine zR ?_ | refine zE ?_ | refine zC ?_ | refine zJ ?_ | refine zK ?_ | refine zP ?_ | refine zF ?_ | refine zH ?_ | refine zG ?_ | refine zI (by decide) ?_ | refine zQ ?_ | ((first | refine zD ?_ | refine zN ?_ | refine zT rfl rfl ?_ | refine zO rfl ?_ | refine zM ?_); simp only [yq40.down, zA, lemS.down, lemC.down, Int.reduceBEq, Nat.reduceAdd, Nat.reduceLeDiff, reduceIte, Nat.reduceEqDiff, Int.reduceLT, Int.reduceLE, Int.reduceGT, Int.reduceGE, Int.reduceEq, Int.reduceAdd, Int.reduceSub, Int.reduceMul, reduceCtorEq])))
    exact ⟨.inr rfl, by (simp only [yq40.down, zA, lemS.down, lemC.down, Int.reduceBEq, Nat.reduceAdd, Nat.reduceLeDiff, reduceIte, Nat.reduceEqDiff, Int.reduceLT, Int.reduceLE, Int.reduceGT, Int.reduceGE, Int.reduceEq, Int.reduceAdd, Int.reduceSub, Int.reduceMul, reduceCtorEq, numB]) <;> rfl, Grows.refl h⟩
  | k + 1, n, h, hn, hk => by
    have ih := zJo pr hp hc k (n / 256) h (by omega) (by omega)
    apply Comes.of
    unfold xq40
    dsimp only [zc]
    have d1 : decide (((k + 1 : Nat) : Int) > 8) = false := by simp; omega
    have d2 : decide (((k + 1 : Nat) : Int) ≤ 0) = false := by rw [decide_eq_false_iff_not]; omega
    obtain ⟨h1, e1, g1⟩ := zU7 hp hc rfl ih
    have e1 : cfi pr 40 [uw .u64 (n / 256), .int .i64 (k : Int)] h = _ := e1
    have q1 := quo_u64 hn
    have q2 := rem_u64 hn
    have w1 : IntKind.i64.wrap (((k + 1 : Nat) : Int) - 1) = (k : Int) := by rw [wrap_i64 (by omega) (by omega)]; omega
    (repeat (first | refine zS ?_ | refine zL ?_ | refine zR ?_ | refine zE ?_ | refine zC ?_ | refine zJ ?_ | refine zK ?_ | refine zP ?_ | refine zF ?_ | refine zH ?_ | refine zG ?_ | refine zI (by decide) ?_ | refine zQ ?_ | ((first | refine zD ?_ | refine zN ?_ | refine zT rfl rfl ?_ | refine zO rfl ?_ | refine zM ?_); simp only [yq40.down, zA, lemS.down, lemC.down, Int.reduceBEq, Nat.reduceAdd, Nat.reduceLeDiff, reduceIte, Nat.reduceEqDiff, Int.reduceLT, Int.reduceLE, Int.reduceGT, Int.reduceGE, Int.reduceEq, Int.reduceAdd, Int.reduceSub, Int.reduceMul, reduceCtorEq, d1, d2])))
    refine zEg rfl ?_
    have ad := zA4 (a := numB (n / 256) k) (b := [UInt8.ofNat (n % 256)]) (by rw [zAQ]; unfold zU; simp; omega)
    have um : UInt8.ofNat (n % 256) = UInt8.ofNat n := by apply UInt8.toNat.inj; simp
    have bc := zDE (p := n % 256) (by omega) (h := h1)
    simp only [yq40.down, zA, lemS.down, lemC.down, Int.reduceBEq, Nat.reduceAdd, Nat.reduceLeDiff, reduceIte, Nat.reduceEqDiff, Int.reduceLT, Int.reduceLE, Int.reduceGT, Int.reduceGE, Int.reduceEq, Int.reduceAdd, Int.reduceSub, Int.reduceMul, reduceCtorEq, d1, d2, lemH.down, lemW.down, q1, q2, w1, e1, bc]
    refine ⟨?_, ?_⟩
    · refine zVA rfl rfl rfl rfl rfl (b := .cells [uw .u8 (n % 256)]) (mk := .slice 1 1 none) (v := .string (zB [UInt8.ofNat (n % 256)])) ?_ ?_ ?_
      · simp only [yq40.down, zA, lemS.down, lemC.down, Int.reduceBEq, Nat.reduceAdd, Nat.reduceLeDiff, reduceIte, Nat.reduceEqDiff, Int.reduceLT, Int.reduceLE, Int.reduceGT, Int.reduceGE, Int.reduceEq, Int.reduceAdd, Int.reduceSub, Int.reduceMul, reduceCtorEq, lemH.down]
      · simp only [yq40.down, zA, lemS.down, lemC.down, Int.reduceBEq, Nat.reduceAdd, Nat.reduceLeDiff, reduceIte, Nat.reduceEqDiff, Int.reduceLT, Int.reduceLE, Int.reduceGT, Int.reduceGE, Int.reduceEq, Int.reduceAdd, Int.reduceSub, Int.reduceMul, reduceCtorEq, lemH.down]
        exact bc
      · simp only [yq40.down, zA, lemS.down, lemC.down, Int.reduceBEq, Nat.reduceAdd, Nat.reduceLeDiff, reduceIte, Nat.reduceEqDiff, Int.reduceLT, Int.reduceLE, Int.reduceGT, Int.reduceGE, Int.reduceEq, Int.reduceAdd, Int.reduceSub, Int.reduceMul, reduceCtorEq, lemH.down]
        exact cb2sV_at.trans (zDE (p := n % 256) (by omega) (h := h.at h1.next))
    · simp only [yq40.down, zA, lemS.down, lemC.down, Int.reduceBEq, Nat.reduceAdd, Nat.reduceLeDiff, reduceIte, Nat.reduceEqDiff, Int.reduceLT, Int.reduceLE, Int.reduceGT, Int.reduceGE, Int.reduceEq, Int.reduceAdd, Int.reduceSub, Int.reduceMul, reduceCtorEq, ad]
      (repeat (first | refine zS ?_ | refine zL ?_ | refine zR ?_ | refine zE ?_ | refine zC ?_ | refine zJ ?_ | refine zK ?_ | refine zP ?_ | refine zF ?_ | refine zH ?_ | refine zG ?_ | refine zI (by decide) ?_ | refine zQ ?_ | ((first | refine zD ?_ | refine zN ?_ | refine zT rfl rfl ?_ | refine zO rfl ?_ | refine zM ?_); simp only [yq40.down, zA, lemS.down, lemC.down, Int.reduceBEq, Nat.reduceAdd, Nat.reduceLeDiff, reduceIte, Nat.reduceEqDiff, Int.reduceLT, Int.reduceLE, Int.reduceGT, Int.reduceGE, Int.reduceEq, Int.reduceAdd, Int.reduceSub, Int.reduceMul, reduceCtorEq])))
      refine ⟨.inr rfl, ?_, g1.trans Grows.new⟩
      simp only [yq40.down, zA, lemS.down, lemC.down, Int.reduceBEq, Nat.reduceAdd, Nat.reduceLeDiff, reduceIte, Nat.reduceEqDiff, Int.reduceLT, Int.reduceLE, Int.reduceGT, Int.reduceGE, Int.reduceEq, Int.reduceAdd, Int.reduceSub, Int.reduceMul, reduceCtorEq, zWR, um]
end Go.X
end
section
open Go Go.X
namespace Go.X
set_option linter.unusedVariables false
def RV (g : Heap) (A B : Nat) (r : RS) : Prop := Rd g A r ∧ (∃ l, Var g B l ∧ l.length = 3) ∧ A ≠ B
theorem RV.begin {r : RS} (ok : r.ok) (h : Heap) (z : List Value) (hz : z.length = 3) : ∃ g, (h.new (zBG r)).new z = g ∧ RV g h.next (h.next + 1) r ∧ Grows h g :=
  ⟨_, rfl, ⟨⟨ok, Var.new_self.new_old⟩, ⟨z, Var.new_self, hz⟩, by omega⟩, Grows.new.trans Grows.new⟩
section
variable {g : Heap} {A B : Nat} {r : RS}
theorem RV.lN (hr : RV g A B r) : ∀ sp, g.loadN ⟨A, 0, sp⟩ 3 = some (zBG r) := fun sp => hr.1.2.loadAll rfl
theorem RV.st (hr : RV g A B r) (q : RS) : zu g 3 (.pointer (some ⟨B, 0, none⟩)) (.agg (zBG q).toArray) = some (.tuple #[], g.wr B (zBG q)) := by
  obtain ⟨l, hl, hn⟩ := hr.2.1
  exact hl.storeAll rfl hn (by decide) rfl
theorem RV.out (hr : RV g A B r) (q : RS) : ∀ sp, (g.wr B (zBG q)).loadN ⟨B, 0, sp⟩ 3 = some (zBG q) := fun sp => by
  obtain ⟨l, hl, hn⟩ := hr.2.1
  exact hl.wr.loadAll rfl
theorem RV.wr (hr : RV g A B r) {q : RS} (hq : q.ok) : RV (g.wr A (zBG q)) A B q := by
  obtain ⟨l, hl, hn⟩ := hr.2.1
  exact ⟨hr.1.wr hq, ⟨l, hl.wr_ne (fun h => hr.2.2 h.symm), hn⟩, hr.2.2⟩
theorem RV.far (hr : RV g A B r) (m : List Value) : Rd (g.wr B m) A r := ⟨hr.1.1, hr.1.2.wr_ne hr.2.2⟩
end
theorem zGl {t : Fr} {h : Heap} {i n j : Nat} {a : Addr} {vs : List Value} {v : Value} (ht : t.get i = .pointer (some a)) (hl : h.loadN a n = some vs) (hv : t.get j = v) : zAN t h [.cellN i n, .tmp j] = some (.tuple #[.agg vs.toArray, v]) := by
  simp [zAN, zBp, resX, ht, hl, hv, zC3]
end Go.X
end
section
open Go Go.X
namespace Go.X
set_option linter.unusedVariables false
end Go.X
end
section
open Go Go.X
namespace Go.X
set_option linter.unusedVariables false
theorem zAS {b : Bool} : zEd (.tuple #[]) b = false := rfl
end Go.X
end
section
open Go Go.X
namespace Go.X
set_option linter.unusedVariables false
end Go.X
end
