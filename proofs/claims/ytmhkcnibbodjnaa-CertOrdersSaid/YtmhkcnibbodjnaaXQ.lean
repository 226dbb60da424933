/- Certificates. -/
import Derived.Test.YtmhkcnibbodjnaaProg
import Derived.KernelRfl
import Derived.Shelf.Spec.SlicesInsertGrow
import Derived.Test.YtmhkcnibbodjnaaXC
import Derived.Test.YtmhkcnibbodjnaaXP
set_option linter.unusedSimpArgs false
set_option linter.unusedVariables false
set_option maxHeartbeats 2000000
section
open Go Go.X
namespace Go.X
set_option linter.unusedVariables false
theorem zWc (pr : Prog) (hb : pr.prim 96 = some zEG) (ht : pr.prim 28 = some zBS) (h : Heap) (wf : HWF h) (x : Hdr) (mv : Value) (hx : HdAt h x mv) : Comes pr xq77 [.agg (zd x mv).toArray] h (.string (zB (zA8 x))) := by
  apply Comes.of
  unfold xq77
  dsimp only [zc]
  have hr64 : zU = 140737488355328 := rfl
  obtain ⟨g, hg, gg, gx, lN, _⟩ := zBk hx wf
  have b1 := zq hb (zVr gx)
  have hl := zJU x
  have hx3 := hx.2.2.1
  have tg := zq ht (zDi (p := 72) (zE8 (h := g) (a := zBF x)) (by decide) (by simp [zm, zB6, zAV]; omega))
  have tg : cfi pr 28 [.int .u8 72, .slice (some ⟨g.next, 0, none⟩) 1 1] (g.new [.string (zB (zBF x))]) = some (.string (zB (zA8 x)), _) := tg
  (repeat (first | refine zS ?_ | refine zL ?_ | refine zR ?_ | refine zE ?_ | refine zC ?_ | refine zJ ?_ | refine zK ?_ | refine zP ?_ | refine zF ?_ | refine zH ?_ | refine zG ?_ | refine zI (by decide) ?_ | refine zQ ?_ | ((first | refine zD ?_ | refine zN ?_ | refine zT rfl rfl ?_ | refine zO rfl ?_ | refine zM ?_); simp only [yq77.down, zA, lemS.down, lemC.down, Int.reduceBEq, Nat.reduceAdd, Nat.reduceLeDiff, reduceIte, Nat.reduceEqDiff, Int.reduceLT, Int.reduceLE, Int.reduceGT, Int.reduceGE, Int.reduceEq, Int.reduceAdd, Int.reduceSub, Int.reduceMul, reduceCtorEq, lemH.down, zAY, hg, lN, b1, zD9, tg])))
  exact ⟨.inr rfl, by simp only [yq77.down, zA, lemS.down, lemC.down, Int.reduceBEq, Nat.reduceAdd, Nat.reduceLeDiff, reduceIte, Nat.reduceEqDiff, Int.reduceLT, Int.reduceLE, Int.reduceGT, Int.reduceGE, Int.reduceEq, Int.reduceAdd, Int.reduceSub, Int.reduceMul, reduceCtorEq], gg.trans Grows.new⟩
def zAq (x : Hdr) : List UInt8 := tagged 67 [zA8 x]
def zDb : Prim := fun args h => match args with
  | [.agg c] => match hdrL h c.toList with | some (x, _) => some (.string (zB (zAq x)), h) | none => none
  | _ => none
theorem zKL {h : Heap} {x : Hdr} {mv : Value} (hx : HdAt h x mv) : zDb [.agg (zd x mv).toArray] h = some (.string (zB (zAq x)), h) := by
  simp only [zDb, zCp hx]
theorem saidC_ok (pr : Prog) (hb : pr.prim 95 = some zCL) (ht : pr.prim 64 = some zBS) (h : Heap) (wf : HWF h) (x : Hdr) (mv : Value) (hx : HdAt h x mv) : Comes pr xq76 [.agg (zd x mv).toArray] h (.string (zB (zAq x))) := by
  apply Comes.of
  unfold xq76
  dsimp only [zc]
  have hr64 : zU = 140737488355328 := rfl
  obtain ⟨g, hg, gg, gx, lN, _⟩ := zBk hx wf
  have b1 := zq hb (zJV gx)
  have hl : (zA8 x).length = 32 := zEZ _ _
  have tg := zq ht (zDi (p := 67) (zE8 (h := g) (a := zA8 x)) (by decide) (by simp [zm, zB6, zAV]; omega))
  have tg : cfi pr 64 [.int .u8 67, .slice (some ⟨g.next, 0, none⟩) 1 1] (g.new [.string (zB (zA8 x))]) = some (.string (zB (zAq x)), _) := tg
  (repeat (first | refine zS ?_ | refine zL ?_ | refine zR ?_ | refine zE ?_ | refine zC ?_ | refine zJ ?_ | refine zK ?_ | refine zP ?_ | refine zF ?_ | refine zH ?_ | refine zG ?_ | refine zI (by decide) ?_ | refine zQ ?_ | ((first | refine zD ?_ | refine zN ?_ | refine zT rfl rfl ?_ | refine zO rfl ?_ | refine zM ?_); simp only [yq76.down, zA, lemS.down, lemC.down, Int.reduceBEq, Nat.reduceAdd, Nat.reduceLeDiff, reduceIte, Nat.reduceEqDiff, Int.reduceLT, Int.reduceLE, Int.reduceGT, Int.reduceGE, Int.reduceEq, Int.reduceAdd, Int.reduceSub, Int.reduceMul, reduceCtorEq, lemH.down, zAY, hg, lN, b1, zD9, tg])))
  exact ⟨.inr rfl, by simp only [yq76.down, zA, lemS.down, lemC.down, Int.reduceBEq, Nat.reduceAdd, Nat.reduceLeDiff, reduceIte, Nat.reduceEqDiff, Int.reduceLT, Int.reduceLE, Int.reduceGT, Int.reduceGE, Int.reduceEq, Int.reduceAdd, Int.reduceSub, Int.reduceMul, reduceCtorEq], gg.trans Grows.new⟩
theorem zGw (x : Hdr) : (zAq x).length = 32 := zEZ _ _
abbrev tagV (r : Int) (t : List UInt8) : Value := .agg #[.int .i64 r, .string (zB t)]
def zBJ (l : List (List UInt8)) (i : Int) (x : Hdr) : (Int × List UInt8) × Nat := if zAP x ≠ 0 then ((0, []), zAP x) else if (keyP l i).2 then ((i, mac (keyP l i).1 (zAq x)), 0) else ((0, []), 2)
def zEW : Prim := fun args h => match args with
  | [.pointer (some a), .int .i64 i, .agg c] => match zy h a, hdrL h c.toList with
    | some l, some (x, _) => if zAW l = true then some (.tuple #[tagV (zBJ l i x).1.1 (zBJ l i x).1.2, .int .i64 ((zBJ l i x).2 : Int)], h) else none
    | _, _ => none
  | _ => none
theorem zEX {h : Heap} {a : Addr} {l : List (List UInt8)} {i : Int} {x : Hdr} {mv : Value} (hr : zy h a = some l) (hk : zAW l = true) (hx : HdAt h x mv) : zEW [.pointer (some a), .int .i64 i, .agg (zd x mv).toArray] h = some (.tuple #[tagV (zBJ l i x).1.1 (zBJ l i x).1.2, .int .i64 ((zBJ l i x).2 : Int)], h) := by
  simp only [zEW, hr, zCp hx]
  rw [if_pos hk]
theorem zGo {h h' : Heap} (wf : HWF h) (g : Grows h h') {a : Addr} {l : List (List UInt8)} (hr : zy h a = some l) : zy h' a = some l := by
  obtain ⟨v, hv, hsv⟩ := zGn hr
  unfold zy
  rw [g.load wf hv]
  dsimp only
  unfold zBA at hsv ⊢
  split at hsv
  · exact hsv
  · split at hsv
    · rename_i hn0
      rw [if_pos hn0]; exact hsv
    · rename_i hn0
      split at hsv
      · rename_i cs hcs
        rw [if_neg hn0, g.loadN wf hcs]; exact hsv
      · cases hsv
  · cases hsv
theorem fill_tag {r : Int} {t : List UInt8} : zt [.int .i64 0, .string (zB [])] [(0, 1, .int .i64 r), (1, 1, .string (zB t))] = some [.int .i64 r, .string (zB t)] := rfl
theorem zJL : zt [.int .i64 0, .string (zB [])] [] = some [.int .i64 0, .string (zB [])] := rfl
theorem zD0 {r : Int} {t : List UInt8} : cellsOf (tagV r t) = [.int .i64 r, .string (zB t)] := rfl
theorem sign_ok (pr : Prog) (hc : pr.prim 75 = some zCK) (hs : pr.prim 76 = some zDb) (ht : pr.prim 24 = some zDX) (h : Heap) (wf : HWF h) (a : Addr) (l : List (List UInt8)) (hr : zy h a = some l) (hk : zAW l = true) (i : Int) (x : Hdr) (mv : Value) (hx : HdAt h x mv) :
    Comes pr xq41 [.pointer (some a), .int .i64 i, .agg (zd x mv).toArray] h (.tuple #[tagV (zBJ l i x).1.1 (zBJ l i x).1.2, .int .i64 ((zBJ l i x).2 : Int)]) := by
  apply Comes.of
  unfold xq41
  dsimp only [zc]
  have hr64 : zU = 140737488355328 := rfl
  obtain ⟨g, hg, gg, gx, lN, _⟩ := zBk hx wf
  have hv : Var g h.next (zd x mv) := by rw [← hg]; exact Var.new_self
  have gnx : g.next = h.next + 1 := by rw [← hg]; rfl
  obtain ⟨g1, hg1, v1, gg1⟩ : ∃ g1, g.new [.int .i64 0, .string (zB [])] = g1 ∧ Var g1 g.next [.int .i64 0, .string (zB [])] ∧ Grows g g1 := ⟨_, rfl, Var.new_self, Grows.new⟩
  have g01 := gg.trans gg1
  have gx1 := hx.grow wf g01
  have lN1 : ∀ sp, g1.loadN ⟨h.next, 0, sp⟩ 5 = some (zd x mv) := fun sp => (hv.grow gg1).loadAll rfl
  have cc := zq hc (zGM gx1)
  have st0 : zu g1 2 (.pointer (some ⟨g.next, 0, none⟩)) (.agg [.int .i64 0, .string (zB [])].toArray) = some (.tuple #[], g1.wr g.next [.int .i64 0, .string (zB [])]) := v1.storeAll rfl rfl (by decide) rfl
  unfold zBJ
  by_cases h0 : zAP x = 0
  · have b0 : ((zAP x : Int) == 0) = true := by rw [h0]; rfl
    rw [if_neg (by omega)]
    have sd := zq hs (zKL gx1)
    have tg := zq ht (zWp (i := i) (s := zAq x) (zGo wf g01 hr) hk (by rw [zGw]; omega))
    cases hkey : (keyP l i).2
    · have e : tagP l i (zAq x) = ([], 2) := by unfold tagP; rw [hkey]; rfl
      rw [e] at tg
      (repeat (first | refine zS ?_ | refine zL ?_ | refine zR ?_ | refine zE ?_ | refine zC ?_ | refine zJ ?_ | refine zK ?_ | refine zP ?_ | refine zF ?_ | refine zH ?_ | refine zG ?_ | refine zI (by decide) ?_ | refine zQ ?_ | ((first | refine zD ?_ | refine zN ?_ | refine zT rfl rfl ?_ | refine zO rfl ?_ | refine zM ?_); simp only [yq41.down, zA, lemS.down, lemC.down, Int.reduceBEq, Nat.reduceAdd, Nat.reduceLeDiff, reduceIte, Nat.reduceEqDiff, Int.reduceLT, Int.reduceLE, Int.reduceGT, Int.reduceGE, Int.reduceEq, Int.reduceAdd, Int.reduceSub, Int.reduceMul, reduceCtorEq, lemH.down, zAY, hg, hg1, lN1, cc, b0, sd, tg, zJL, st0])))
      refine ⟨.inr rfl, zGl (a := ⟨g.next, 0, none⟩) (by simp only [yq41.down, zA, lemS.down, lemC.down, Int.reduceBEq, Nat.reduceAdd, Nat.reduceLeDiff, reduceIte, Nat.reduceEqDiff, Int.reduceLT, Int.reduceLE, Int.reduceGT, Int.reduceGE, Int.reduceEq, Int.reduceAdd, Int.reduceSub, Int.reduceMul, reduceCtorEq]) (v1.wr.loadAll rfl) (by simp only [yq41.down, zA, lemS.down, lemC.down, Int.reduceBEq, Nat.reduceAdd, Nat.reduceLeDiff, reduceIte, Nat.reduceEqDiff, Int.reduceLT, Int.reduceLE, Int.reduceGT, Int.reduceGE, Int.reduceEq, Int.reduceAdd, Int.reduceSub, Int.reduceMul, reduceCtorEq]), g01.wr (by omega)⟩
    · have e : tagP l i (zAq x) = (mac (keyP l i).1 (zAq x), 0) := by unfold tagP; rw [hkey]; rfl
      rw [e] at tg
      have st1 : zu g1 2 (.pointer (some ⟨g.next, 0, none⟩)) (.agg [.int .i64 i, .string (zB (mac (keyP l i).1 (zAq x)))].toArray) = some (.tuple #[], g1.wr g.next [.int .i64 i, .string (zB (mac (keyP l i).1 (zAq x)))]) := v1.storeAll rfl rfl (by decide) rfl
      (repeat (first | refine zS ?_ | refine zL ?_ | refine zR ?_ | refine zE ?_ | refine zC ?_ | refine zJ ?_ | refine zK ?_ | refine zP ?_ | refine zF ?_ | refine zH ?_ | refine zG ?_ | refine zI (by decide) ?_ | refine zQ ?_ | ((first | refine zD ?_ | refine zN ?_ | refine zT rfl rfl ?_ | refine zO rfl ?_ | refine zM ?_); simp only [yq41.down, zA, lemS.down, lemC.down, Int.reduceBEq, Nat.reduceAdd, Nat.reduceLeDiff, reduceIte, Nat.reduceEqDiff, Int.reduceLT, Int.reduceLE, Int.reduceGT, Int.reduceGE, Int.reduceEq, Int.reduceAdd, Int.reduceSub, Int.reduceMul, reduceCtorEq, lemH.down, zAY, hg, hg1, lN1, cc, b0, sd, tg, fill_tag, st1])))
      refine ⟨.inr rfl, zGl (a := ⟨g.next, 0, none⟩) (by simp only [yq41.down, zA, lemS.down, lemC.down, Int.reduceBEq, Nat.reduceAdd, Nat.reduceLeDiff, reduceIte, Nat.reduceEqDiff, Int.reduceLT, Int.reduceLE, Int.reduceGT, Int.reduceGE, Int.reduceEq, Int.reduceAdd, Int.reduceSub, Int.reduceMul, reduceCtorEq]) (v1.wr.loadAll rfl) (by simp only [yq41.down, zA, lemS.down, lemC.down, Int.reduceBEq, Nat.reduceAdd, Nat.reduceLeDiff, reduceIte, Nat.reduceEqDiff, Int.reduceLT, Int.reduceLE, Int.reduceGT, Int.reduceGE, Int.reduceEq, Int.reduceAdd, Int.reduceSub, Int.reduceMul, reduceCtorEq]), g01.wr (by omega)⟩
  · have b0 : ((zAP x : Int) == 0) = false := by rw [beq_eq_false_iff_ne]; omega
    rw [if_pos h0]
    (repeat (first | refine zS ?_ | refine zL ?_ | refine zR ?_ | refine zE ?_ | refine zC ?_ | refine zJ ?_ | refine zK ?_ | refine zP ?_ | refine zF ?_ | refine zH ?_ | refine zG ?_ | refine zI (by decide) ?_ | refine zQ ?_ | ((first | refine zD ?_ | refine zN ?_ | refine zT rfl rfl ?_ | refine zO rfl ?_ | refine zM ?_); simp only [yq41.down, zA, lemS.down, lemC.down, Int.reduceBEq, Nat.reduceAdd, Nat.reduceLeDiff, reduceIte, Nat.reduceEqDiff, Int.reduceLT, Int.reduceLE, Int.reduceGT, Int.reduceGE, Int.reduceEq, Int.reduceAdd, Int.reduceSub, Int.reduceMul, reduceCtorEq, lemH.down, zAY, hg, hg1, lN1, cc, b0, zJL, st0])))
    refine ⟨.inr rfl, zGl (a := ⟨g.next, 0, none⟩) (by simp only [yq41.down, zA, lemS.down, lemC.down, Int.reduceBEq, Nat.reduceAdd, Nat.reduceLeDiff, reduceIte, Nat.reduceEqDiff, Int.reduceLT, Int.reduceLE, Int.reduceGT, Int.reduceGE, Int.reduceEq, Int.reduceAdd, Int.reduceSub, Int.reduceMul, reduceCtorEq]) (v1.wr.loadAll rfl) (by simp only [yq41.down, zA, lemS.down, lemC.down, Int.reduceBEq, Nat.reduceAdd, Nat.reduceLeDiff, reduceIte, Nat.reduceEqDiff, Int.reduceLT, Int.reduceLE, Int.reduceGT, Int.reduceGE, Int.reduceEq, Int.reduceAdd, Int.reduceSub, Int.reduceMul, reduceCtorEq]), g01.wr (by omega)⟩
def zA7 (l : List (List UInt8)) (x : Hdr) (r : Int) (t : List UInt8) : Bool := decide (zAP x = 0) && zCg l r (zAq x) t
def zDL : Prim := fun args h => match args with
  | [.pointer (some a), .agg c, .agg ⟨[.int .i64 r, .string t]⟩] => match zy h a, hdrL h c.toList with
    | some l, some (x, _) => if zAW l = true then some (.bool (zA7 l x r t.data.toList), h) else none
    | _, _ => none
  | _ => none
theorem goodG_at {h : Heap} {a : Addr} {l : List (List UInt8)} {x : Hdr} {mv : Value} {r : Int} {t : List UInt8} (hr : zy h a = some l) (hk : zAW l = true) (hx : HdAt h x mv) : zDL [.pointer (some a), .agg (zd x mv).toArray, tagV r t] h = some (.bool (zA7 l x r t), h) := by
  simp only [zDL, tagV, hr, zCp hx, zAh]
  rw [if_pos hk]
theorem good_ok (pr : Prog) (hc : pr.prim 75 = some zCK) (hs : pr.prim 76 = some zDb) (ht : pr.prim 26 = some zDW) (h : Heap) (wf : HWF h) (a : Addr) (l : List (List UInt8)) (hr : zy h a = some l) (hk : zAW l = true) (r : Int) (tg : List UInt8) (x : Hdr) (mv : Value) (hx : HdAt h x mv) :
    Comes pr xq46 [.pointer (some a), .agg (zd x mv).toArray, tagV r tg] h (.bool (zA7 l x r tg)) := by
  apply Comes.of
  unfold xq46
  dsimp only [zc]
  have hr64 : zU = 140737488355328 := rfl
  obtain ⟨g, hg, gg, gx, lN, _⟩ := zBk hx wf
  have hv : Var g h.next (zd x mv) := by rw [← hg]; exact Var.new_self
  have gnx : g.next = h.next + 1 := by rw [← hg]; rfl
  obtain ⟨g1, hg1, v1, gg1⟩ : ∃ g1, g.new [.int .i64 r, .string (zB tg)] = g1 ∧ Var g1 g.next [.int .i64 r, .string (zB tg)] ∧ Grows g g1 := ⟨_, rfl, Var.new_self, Grows.new⟩
  have g01 := gg.trans gg1
  have gx1 := hx.grow wf g01
  have lN1 : ∀ sp, g1.loadN ⟨h.next, 0, sp⟩ 5 = some (zd x mv) := fun sp => (hv.grow gg1).loadAll rfl
  have l0 : ∀ sp, g1.load ⟨g.next, 0, sp⟩ = some (.int .i64 r) := fun sp => v1.load
  have l1 : ∀ sp, g1.load ⟨g.next, 1, sp⟩ = some (.string (zB tg)) := fun sp => v1.load
  have cc := zq hc (zGM gx1)
  unfold zA7
  by_cases h0 : zAP x = 0
  · have b0 : ((zAP x : Int) == 0) = true := by rw [h0]; rfl
    have d0 : decide (zAP x = 0) = true := by simpa using h0
    rw [d0, Bool.true_and]
    have sd := zq hs (zKL gx1)
    have ch := zq ht (zWk (i := r) (s := zAq x) (t := tg) (zGo wf g01 hr) hk (by rw [zGw]; omega))
    (repeat (first | refine zS ?_ | refine zL ?_ | refine zR ?_ | refine zE ?_ | refine zC ?_ | refine zJ ?_ | refine zK ?_ | refine zP ?_ | refine zF ?_ | refine zH ?_ | refine zG ?_ | refine zI (by decide) ?_ | refine zQ ?_ | ((first | refine zD ?_ | refine zN ?_ | refine zT rfl rfl ?_ | refine zO rfl ?_ | refine zM ?_); simp only [yq46.down, zA, lemS.down, lemC.down, Int.reduceBEq, Nat.reduceAdd, Nat.reduceLeDiff, reduceIte, Nat.reduceEqDiff, Int.reduceLT, Int.reduceLE, Int.reduceGT, Int.reduceGE, Int.reduceEq, Int.reduceAdd, Int.reduceSub, Int.reduceMul, reduceCtorEq, lemH.down, zAY, zD0, hg, hg1, lN1, l0, l1, cc, b0, sd, ch])))
    exact ⟨.inr rfl, by simp only [yq46.down, zA, lemS.down, lemC.down, Int.reduceBEq, Nat.reduceAdd, Nat.reduceLeDiff, reduceIte, Nat.reduceEqDiff, Int.reduceLT, Int.reduceLE, Int.reduceGT, Int.reduceGE, Int.reduceEq, Int.reduceAdd, Int.reduceSub, Int.reduceMul, reduceCtorEq], g01⟩
  · have b0 : ((zAP x : Int) == 0) = false := by rw [beq_eq_false_iff_ne]; omega
    have d0 : decide (zAP x = 0) = false := by simpa using h0
    rw [d0, Bool.false_and]
    (repeat (first | refine zS ?_ | refine zL ?_ | refine zR ?_ | refine zE ?_ | refine zC ?_ | refine zJ ?_ | refine zK ?_ | refine zP ?_ | refine zF ?_ | refine zH ?_ | refine zG ?_ | refine zI (by decide) ?_ | refine zQ ?_ | ((first | refine zD ?_ | refine zN ?_ | refine zT rfl rfl ?_ | refine zO rfl ?_ | refine zM ?_); simp only [yq46.down, zA, lemS.down, lemC.down, Int.reduceBEq, Nat.reduceAdd, Nat.reduceLeDiff, reduceIte, Nat.reduceEqDiff, Int.reduceLT, Int.reduceLE, Int.reduceGT, Int.reduceGE, Int.reduceEq, Int.reduceAdd, Int.reduceSub, Int.reduceMul, reduceCtorEq, lemH.down, zAY, zD0, hg, hg1, lN1, l0, l1, cc, b0, zAS])))
    exact ⟨.inr rfl, by simp only [yq46.down, zA, lemS.down, lemC.down, Int.reduceBEq, Nat.reduceAdd, Nat.reduceLeDiff, reduceIte, Nat.reduceEqDiff, Int.reduceLT, Int.reduceLE, Int.reduceGT, Int.reduceGE, Int.reduceEq, Int.reduceAdd, Int.reduceSub, Int.reduceMul, reduceCtorEq], g01⟩
end Go.X
end
section
open Go Go.X
namespace Go.X
set_option linter.unusedVariables false
structure zCA (pr : Prog) : Prop where
  head : zCc pr
  tagged : pr.prim 64 = some zBS
  rtagged : pr.prim 28 = some zBS
  rtag : pr.prim 19 = some (za tagS)
  rsum : pr.prim 18 = some (za shaS)
  num : pr.prim 40 = some (za zBK)
  rhash : pr.prim 77 = some zCL
  newr : pr.prim 27 = none
  newrC : pr.code 27 = some xq27
  sign : pr.prim 41 = some zEW
  good : pr.prim 46 = some zDL
  ring : pr.prim 42 = none
  ringC : pr.code 42 = some xq42
  hdr : pr.prim 43 = none
  hdrC : pr.code 43 = some xq43
  ref8 : pr.prim 78 = none
  ref8C : pr.code 78 = some xq78
theorem zER {t : Fr} {h : Heap} {i n : Nat} {a : Addr} {vs : List Value} (ht : t.get i = .pointer (some a)) (hl : h.loadN a n = some vs) : zAN t h [.cellN i n] = some (.agg vs.toArray) := by
  simp [zAN, zBp, resX, ht, hl, zC3]
def RdRing (h : Heap) (a : Addr) (l : List (List UInt8)) : Prop := ∀ h', Grows h h' → zy h' a = some l
def RdHd (h : Heap) (x : Hdr) (mv : Value) : Prop := ∀ h', Grows h h' → HdAt h' x mv
theorem RdRing.grow {h h' : Heap} {a : Addr} {l : List (List UInt8)} (hr : RdRing h a l) (g : Grows h h') : RdRing h' a l := fun h2 g2 => hr h2 (g.trans g2)
theorem RdHd.grow {h h' : Heap} {x : Hdr} {mv : Value} (hr : RdHd h x mv) (g : Grows h h') : RdHd h' x mv := fun h2 g2 => hr h2 (g.trans g2)
theorem RdRing.now {h : Heap} {a : Addr} {l : List (List UInt8)} (hr : RdRing h a l) : zy h a = some l := hr h (Grows.refl h)
theorem RdHd.now {h : Heap} {x : Hdr} {mv : Value} (hr : RdHd h x mv) : HdAt h x mv := hr h (Grows.refl h)
abbrev zB4 : List (List UInt8) := zBH zBI 16
theorem zCy {pr : Prog} (T : zCA pr) (h : Heap) : ∃ h', cfi pr 42 [] h = some (.pointer (some ⟨h.next, 0, none⟩), h') ∧ RdRing h' ⟨h.next, 0, none⟩ zB4 ∧ Grows h h' := by
  have : ∃ v h', cfi pr 42 [] h = some (v, h') ∧ v = .pointer (some ⟨h.next, 0, none⟩) ∧ Ring h' h.next h.next zB4 ∧ Grows h h' := by
    refine zAg T.ring T.ringC rfl ?_
    unfold xq42
    dsimp only [zc]
    refine wpk.out (k := []) ?_
    obtain ⟨v, h', e, rfl, ⟨w, h1, h2⟩, g⟩ := zUQ pr T.tagged T.newr T.newrC h zBI 16 (by decide) (by decide)
    have e : cfi pr 27 [.string (zB [115, 101, 101, 100]), .int .i64 16] h = _ := e
    (repeat (first | refine zS ?_ | refine zL ?_ | refine zR ?_ | refine zE ?_ | refine zC ?_ | refine zJ ?_ | refine zK ?_ | refine zP ?_ | refine zF ?_ | refine zH ?_ | refine zG ?_ | refine zI (by decide) ?_ | refine zQ ?_ | ((first | refine zD ?_ | refine zN ?_ | refine zT rfl rfl ?_ | refine zO rfl ?_ | refine zM ?_); simp only [yq42.down, zA, lemS.down, lemC.down, Int.reduceBEq, Nat.reduceAdd, Nat.reduceLeDiff, reduceIte, Nat.reduceEqDiff, Int.reduceLT, Int.reduceLE, Int.reduceGT, Int.reduceGE, Int.reduceEq, Int.reduceAdd, Int.reduceSub, Int.reduceMul, reduceCtorEq, e])))
    exact ⟨.inr rfl, _, rfl, by simp only [yq42.down, zA, lemS.down, lemC.down, Int.reduceBEq, Nat.reduceAdd, Nat.reduceLeDiff, reduceIte, Nat.reduceEqDiff, Int.reduceLT, Int.reduceLE, Int.reduceGT, Int.reduceGE, Int.reduceEq, Int.reduceAdd, Int.reduceSub, Int.reduceMul, reduceCtorEq], ⟨w, h1, by rw [zKF]; exact h2⟩, g⟩
  obtain ⟨v, h', e, rfl, ⟨w, r1, r2⟩, g⟩ := this
  exact ⟨h', e, fun h2 g2 => Ring.at ⟨w, r1.grow g2, r2.grow g2⟩, g⟩
def ze (n : Nat) : Hdr := ⟨n % 1000 + 1, sha (numB n 8), sha (numB n 8), sha (numB n 8), [0, 1, 2]⟩
theorem zKk {h : Heap} : zw (h.new [.int .i64 0, .int .i64 1, .int .i64 2]) (.slice (some ⟨h.next, 0, none⟩) 3 3) = some [0, 1, 2] := by
  have hv : Var (h.new [.int .i64 0, .int .i64 1, .int .i64 2]) h.next [.int .i64 0, .int .i64 1, .int .i64 2] := Var.new_self
  simp only [zw]
  rw [if_neg (by decide), hv.loadAll (n := 3) rfl]
  rfl
theorem fill3i : zt [.int .i64 0, .int .i64 0, .int .i64 0] [(0, 1, .int .i64 0), (1, 1, .int .i64 1), (2, 1, .int .i64 2)] = some [.int .i64 0, .int .i64 1, .int .i64 2] := rfl
theorem zJK {n : Int} {p t s : List UInt8} {b : Option Addr} {k c : Nat} : zt [.int .u64 0, .string (zB []), .string (zB []), .string (zB []), .slice none 0 0] [(0, 1, .int .u64 n), (1, 1, .string (zB p)), (2, 1, .string (zB t)), (3, 1, .string (zB s)), (4, 1, .slice b k c)] = some [.int .u64 n, .string (zB p), .string (zB t), .string (zB s), .slice b k c] := rfl
theorem zCq {pr : Prog} (T : zCA pr) (h : Heap) (n : Nat) (hn : n < 18446744073709551616) : ∃ mv h', cfi pr 43 [.int .u64 (n : Int)] h = some (.agg (zd (ze n) mv).toArray, h') ∧ RdHd h' (ze n) mv ∧ Grows h h' := by
  have : ∃ v h', cfi pr 43 [.int .u64 (n : Int)] h = some (v, h') ∧ ∃ mv, v = .agg (zd (ze n) mv).toArray ∧ RdHd h' (ze n) mv ∧ Grows h h' := by
    refine zAg T.hdr T.hdrC rfl ?_
    unfold xq43
    dsimp only [zc]
    refine wpk.out (k := []) ?_
    have hr64 : zU = 140737488355328 := rfl
    obtain ⟨g, hg, v0, gg⟩ : ∃ g, h.new [.int .u64 0, .string (zB []), .string (zB []), .string (zB []), .slice none 0 0] = g ∧ Var g h.next [.int .u64 0, .string (zB []), .string (zB []), .string (zB []), .slice none 0 0] ∧ Grows h g := ⟨_, rfl, Var.new_self, Grows.new⟩
    have gnx : g.next = h.next + 1 := by rw [← hg]; rfl
    have n0 := zf (h := g) T.num (zEf (n := n) (k := 8) hn (by decide))
    rw [← zBP hn] at n0
    have n0 : cfi pr 40 [.int .u64 (n : Int), .int .i64 8] g = _ := n0
    have s0 := zf (h := g) T.rsum (zCX (s := numB n 8) (by rw [zAQ]; omega))
    have rm : binX .rem (.int .u64 (n : Int)) (.int .u64 1000) = some (.int .u64 ((n % 1000 : Nat) : Int)) := by
      rw [zFo (by decide)]
      congr 2
    have w : IntKind.u64.wrap (((n % 1000 : Nat) : Int) + 1) = ((n % 1000 + 1 : Nat) : Int) := by
      have : IntKind.u64.wrap (((n % 1000 : Nat) : Int) + 1) = (((n % 1000 : Nat) : Int) + 1) % 18446744073709551616 := by simp [IntKind.wrap, IntKind.signed, IntKind.bits]
      rw [this]
      omega
    obtain ⟨g1, hg1, v1, gg1, ti⟩ : ∃ g1, g.new [.int .i64 0, .int .i64 1, .int .i64 2] = g1 ∧ Var g1 h.next [.int .u64 0, .string (zB []), .string (zB []), .string (zB []), .slice none 0 0] ∧ Grows g g1 ∧ zw g1 (.slice (some ⟨g.next, 0, none⟩) 3 3) = some [0, 1, 2] := ⟨_, rfl, v0.new_old, Grows.new, zKk⟩
    have st : zu g1 5 (.pointer (some ⟨h.next, 0, none⟩)) (.agg [.int .u64 ((n % 1000 + 1 : Nat) : Int), .string (zB (sha (numB n 8))), .string (zB (sha (numB n 8))), .string (zB (sha (numB n 8))), .slice (some ⟨g.next, 0, none⟩) 3 3].toArray) = some (.tuple #[], g1.wr h.next [.int .u64 ((n % 1000 + 1 : Nat) : Int), .string (zB (sha (numB n 8))), .string (zB (sha (numB n 8))), .string (zB (sha (numB n 8))), .slice (some ⟨g.next, 0, none⟩) 3 3]) := v1.storeAll rfl rfl (by decide) rfl
    (repeat (first | refine zS ?_ | refine zL ?_ | refine zR ?_ | refine zE ?_ | refine zC ?_ | refine zJ ?_ | refine zK ?_ | refine zP ?_ | refine zF ?_ | refine zH ?_ | refine zG ?_ | refine zI (by decide) ?_ | refine zQ ?_ | ((first | refine zD ?_ | refine zN ?_ | refine zT rfl rfl ?_ | refine zO rfl ?_ | refine zM ?_); simp only [yq43.down, zA, lemS.down, lemC.down, Int.reduceBEq, Nat.reduceAdd, Nat.reduceLeDiff, reduceIte, Nat.reduceEqDiff, Int.reduceLT, Int.reduceLE, Int.reduceGT, Int.reduceGE, Int.reduceEq, Int.reduceAdd, Int.reduceSub, Int.reduceMul, reduceCtorEq, lemH.down, hg, n0, s0, rm, w, fill3i, hg1, zJK, st])))
    have tiw : ∀ h2, Grows (g1.wr h.next [.int .u64 ((n % 1000 + 1 : Nat) : Int), .string (zB (sha (numB n 8))), .string (zB (sha (numB n 8))), .string (zB (sha (numB n 8))), .slice (some ⟨g.next, 0, none⟩) 3 3]) h2 → zw h2 (.slice (some ⟨g.next, 0, none⟩) 3 3) = some [0, 1, 2] := fun h2 gh2 => by
      have hv : Var g1 g.next [.int .i64 0, .int .i64 1, .int .i64 2] := by rw [← hg1]; exact Var.new_self
      have hv2 := (hv.wr_ne (A := h.next) (m := [.int .u64 ((n % 1000 + 1 : Nat) : Int), .string (zB (sha (numB n 8))), .string (zB (sha (numB n 8))), .string (zB (sha (numB n 8))), .slice (some ⟨g.next, 0, none⟩) 3 3]) (by omega)).grow gh2
      simp only [zw]
      rw [if_neg (by decide), hv2.loadAll (n := 3) rfl]
      rfl
    have hl : (sha (numB n 8)).length = 32 := zBf _
    refine ⟨.inr rfl, _, zER (a := ⟨h.next, 0, none⟩) (by simp only [yq43.down, zA, lemS.down, lemC.down, Int.reduceBEq, Nat.reduceAdd, Nat.reduceLeDiff, reduceIte, Nat.reduceEqDiff, Int.reduceLT, Int.reduceLE, Int.reduceGT, Int.reduceGE, Int.reduceEq, Int.reduceAdd, Int.reduceSub, Int.reduceMul, reduceCtorEq]) (v1.wr.loadAll rfl), .slice (some ⟨g.next, 0, none⟩) 3 3, rfl, fun h2 gh2 => ⟨?_, tiw h2 gh2, by show 3 ≤ 1000000; decide, ?_, ?_, ?_⟩, (gg.trans gg1).wr (Nat.le_refl _)⟩
    · show n % 1000 + 1 < _
      omega
    · show (sha (numB n 8)).length + _ ≤ _
      omega
    · show (sha (numB n 8)).length + _ ≤ _
      omega
    · show (sha (numB n 8)).length + _ ≤ _
      omega
  obtain ⟨v, h', e, mv, rfl, r⟩ := this
  exact ⟨mv, h', e, r⟩
theorem Ref8_run {pr : Prog} (T : zCA pr) {h : Heap} (wf : HWF h) {x : Hdr} {mv : Value} (hx : HdAt h x mv) : ∃ h', cfi pr 78 [.agg (zd x mv).toArray] h = some (.agg (zd x mv).toArray, h') ∧ HdAt h' x mv ∧ Grows h h' := by
  have : ∃ v h', cfi pr 78 [.agg (zd x mv).toArray] h = some (v, h') ∧ v = .agg (zd x mv).toArray ∧ HdAt h' x mv ∧ Grows h h' := by
    refine zAg T.ref8 T.ref8C rfl ?_
    unfold xq78
    dsimp only [zc]
    refine wpk.out (k := []) ?_
    obtain ⟨g, hg, gg, gx, lN, l0, l1, l2, l3, l4⟩ := zBk hx wf
    obtain ⟨hone1, hone2⟩ := zV6 hx.2.1
    obtain ⟨_, b, cap, emv, _⟩ := zB3 hx.2.1
    obtain ⟨g1, hg1, v1, gg1⟩ : ∃ g1, g.new [.int .u64 0, .string (zB []), .string (zB []), .string (zB []), .slice none 0 0] = g1 ∧ Var g1 g.next [.int .u64 0, .string (zB []), .string (zB []), .string (zB []), .slice none 0 0] ∧ Grows g g1 := ⟨_, rfl, Var.new_self, Grows.new⟩
    have hv : Var g h.next (zd x mv) := by rw [← hg]; exact Var.new_self
    have hv1 := hv.grow gg1
    have m0 : ∀ sp, g1.load ⟨h.next, 0, sp⟩ = some (.int .u64 (x.n : Int)) := fun sp => hv1.load
    have m1 : ∀ sp, g1.load ⟨h.next, 1, sp⟩ = some (.string (zB x.p)) := fun sp => hv1.load
    have m2 : ∀ sp, g1.load ⟨h.next, 2, sp⟩ = some (.string (zB x.t)) := fun sp => hv1.load
    have m3 : ∀ sp, g1.load ⟨h.next, 3, sp⟩ = some (.string (zB x.s)) := fun sp => hv1.load
    have m4 : ∀ sp, g1.load ⟨h.next, 4, sp⟩ = some mv := fun sp => hv1.load
    have st : zu g1 5 (.pointer (some ⟨g.next, 0, none⟩)) (.agg [.int .u64 (x.n : Int), .string (zB x.p), .string (zB x.t), .string (zB x.s), mv].toArray) = some (.tuple #[], g1.wr g.next (zd x mv)) := v1.storeAll rfl rfl (by decide) (by simp [hone2]; exact ⟨rfl, rfl, rfl, rfl⟩)
    subst emv
    (repeat (first | refine zS ?_ | refine zL ?_ | refine zR ?_ | refine zE ?_ | refine zC ?_ | refine zJ ?_ | refine zK ?_ | refine zP ?_ | refine zF ?_ | refine zH ?_ | refine zG ?_ | refine zI (by decide) ?_ | refine zQ ?_ | ((first | refine zD ?_ | refine zN ?_ | refine zT rfl rfl ?_ | refine zO rfl ?_ | refine zM ?_); simp only [yq78.down, zA, lemS.down, lemC.down, Int.reduceBEq, Nat.reduceAdd, Nat.reduceLeDiff, reduceIte, Nat.reduceEqDiff, Int.reduceLT, Int.reduceLE, Int.reduceGT, Int.reduceGE, Int.reduceEq, Int.reduceAdd, Int.reduceSub, Int.reduceMul, reduceCtorEq, lemH.down, zAY, hg, hg1, m0, m1, m2, m3, m4, zJK, st])))
    have gnx : g.next = h.next + 1 := by rw [← hg]; rfl
    have g2 : Grows h (g1.wr g.next (zd x (.slice b x.m.length cap))) := (gg.trans gg1).wr (by omega)
    exact ⟨.inr rfl, _, zER (a := ⟨g.next, 0, none⟩) (by simp only [yq78.down, zA, lemS.down, lemC.down, Int.reduceBEq, Nat.reduceAdd, Nat.reduceLeDiff, reduceIte, Nat.reduceEqDiff, Int.reduceLT, Int.reduceLE, Int.reduceGT, Int.reduceGE, Int.reduceEq, Int.reduceAdd, Int.reduceSub, Int.reduceMul, reduceCtorEq]) (v1.wr.loadAll rfl), rfl, hx.grow wf g2, g2⟩
  obtain ⟨v, h', e, rfl, r⟩ := this
  exact ⟨h', e, r⟩
def tagC (i : Nat) (x : Hdr) : List UInt8 := mac (zA1 zBI i) (zAq x)
def zG6 : Prim := fun args h => match args with
  | [.int .i64 i, .agg c] => match hdrL h c.toList with | some (x, _) => if 0 ≤ i ∧ i < 256 then some (.string (zB (tagC i.toNat x)), h) else none | none => none
  | _ => none
theorem zUm {p : Nat} (hp : p < 256) {h : Heap} {l : List Value} : zBE ((h.new [uw .u8 p]).new l) (.slice (some ⟨h.next, 0, none⟩) 1 1) = some (.string (zB [UInt8.ofNat p])) := by
  have e : [uw .u8 p] = zV [UInt8.ofNat p] := by
    simp only [zV, List.map_cons, List.map_nil, uw, zEc]
    congr 2
  rw [e]
  exact Var.cb2s (Var.new_self.new_old) rfl
theorem tag17_ok (pr : Prog) (T : zCA pr) (h : Heap) (wf : HWF h) (x : Hdr) (mv : Value) (hx : HdAt h x mv) (i : Nat) (hi : i < 256) : Comes pr xq45 [.int .i64 (i : Int), .agg (zd x mv).toArray] h (.string (zB (tagC i x))) := by
  apply Comes.of
  unfold xq45
  dsimp only [zc]
  have hr64 : zU = 140737488355328 := rfl
  obtain ⟨g, hg, gg, gx, lN, _⟩ := zBk hx wf
  have hv : Var g h.next (zd x mv) := by rw [← hg]; exact Var.new_self
  have c := zBU (k := .u8) (k' := .i64) rfl (n := i)
  have bc := zDE hi (h := g)
  have ts := zKn (h := g.new [uw .u8 i]) (a := zBI) (b := [UInt8.ofNat i])
  have tg := zq T.rtagged (zDi (p := 75) ts (by decide) (by simp [zm, zB6, zAV, zBI]; omega))
  have tg : cfi pr 28 [.int .u8 75, .slice (some ⟨g.next + 1, 0, none⟩) 2 2] ((g.new [uw .u8 i]).new [.string (zB zBI), .string (zB [UInt8.ofNat i])]) = some (.string (zB (zA1 zBI i)), _) := tg
  unfold zBI at tg
  have gg2 : Grows g ((g.new [uw .u8 i]).new [.string (zB [115, 101, 101, 100]), .string (zB [UInt8.ofNat i])]) := Grows.new.trans Grows.new
  have lN2 : ∀ sp, ((g.new [uw .u8 i]).new [.string (zB [115, 101, 101, 100]), .string (zB [UInt8.ofNat i])]).loadN ⟨h.next, 0, sp⟩ 5 = some (zd x mv) := fun sp => (hv.grow gg2).loadAll rfl
  have lN1 : ∀ sp, (g.new [uw .u8 i]).loadN ⟨h.next, 0, sp⟩ 5 = some (zd x mv) := fun sp => (hv.grow Grows.new).loadAll rfl
  have wf2 : HWF ((g.new [uw .u8 i]).new [.string (zB [115, 101, 101, 100]), .string (zB [UInt8.ofNat i])]) := by
    rw [← hg]
    exact (((wf.push (.cells _)).push (.cells _)).push (.cells _))
  obtain ⟨g3, e3, gx3, gg3⟩ := Ref8_run T wf2 (hx.grow wf (gg.trans gg2))
  have hh := zq T.rhash (zJV gx3)
  have hl : (zA8 x).length = 32 := zEZ _ _
  have tg2 := zq T.rtagged (zDi (p := 67) (zE8 (h := g3) (a := zA8 x)) (by decide) (by simp [zm, zB6, zAV]; omega))
  have tg2 : cfi pr 28 [.int .u8 67, .slice (some ⟨g3.next, 0, none⟩) 1 1] (g3.new [.string (zB (zA8 x))]) = some (.string (zB (zAq x)), _) := tg2
  have kl : (zA1 zBI i).length = 32 := zEZ _ _
  have mm := zf (h := g3.new [.string (zB (zA8 x))]) T.rtag (zG8 (k := zA1 zBI i) (s := zAq x) (by rw [kl]; omega) (by rw [zGw]; omega))
  unfold zBI at mm
  have bc2 : zBE ((g.new [uw .u8 i]).new [.string (zB [115, 101, 101, 100]), .string (zB [UInt8.ofNat i])]) (.slice (some ⟨g.next, 0, none⟩) 1 1) = some (.string (zB [UInt8.ofNat i])) := zUm hi
  (repeat (first | refine zS ?_ | refine zL ?_ | refine zR ?_ | refine zE ?_ | refine zC ?_ | refine zJ ?_ | refine zK ?_ | refine zP ?_ | refine zF ?_ | refine zH ?_ | refine zG ?_ | refine zI (by decide) ?_ | refine zQ ?_ | ((first | refine zD ?_ | refine zN ?_ | refine zT rfl rfl ?_ | refine zO rfl ?_ | refine zEg rfl ?_ | refine zM ?_); simp only [yq45.down, zA, lemS.down, lemC.down, Int.reduceBEq, Nat.reduceAdd, Nat.reduceLeDiff, reduceIte, Nat.reduceEqDiff, Int.reduceLT, Int.reduceLE, Int.reduceGT, Int.reduceGE, Int.reduceEq, Int.reduceAdd, Int.reduceSub, Int.reduceMul, reduceCtorEq, lemH.down, zAY, hg, c, bc, fill2s, tg, lN2, e3, hh, zD9, tg2, mm])))
  refine ⟨?_, ?_, ?_⟩
  · (refine zAa rfl rfl rfl ?_ ?_ <;> simp only [yq45.down, zA, lemS.down, lemC.down, Int.reduceBEq, Nat.reduceAdd, Nat.reduceLeDiff, reduceIte, Nat.reduceEqDiff, Int.reduceLT, Int.reduceLE, Int.reduceGT, Int.reduceGE, Int.reduceEq, Int.reduceAdd, Int.reduceSub, Int.reduceMul, reduceCtorEq, zJ9, bc, bc2, zAH, zAE, zAI, zAF, zAD, Option.isSome_some])
  · (refine zAa rfl rfl rfl ?_ ?_ <;> simp only [yq45.down, zA, lemS.down, lemC.down, Int.reduceBEq, Nat.reduceAdd, Nat.reduceLeDiff, reduceIte, Nat.reduceEqDiff, Int.reduceLT, Int.reduceLE, Int.reduceGT, Int.reduceGE, Int.reduceEq, Int.reduceAdd, Int.reduceSub, Int.reduceMul, reduceCtorEq, lN1, lN2, zAH, zAE, zAI, zAF, zAD, Option.isSome_some])
  (repeat (first | refine zS ?_ | refine zL ?_ | refine zR ?_ | refine zE ?_ | refine zC ?_ | refine zJ ?_ | refine zK ?_ | refine zP ?_ | refine zF ?_ | refine zH ?_ | refine zG ?_ | refine zI (by decide) ?_ | refine zQ ?_ | ((first | refine zD ?_ | refine zN ?_ | refine zT rfl rfl ?_ | refine zO rfl ?_ | refine zM ?_); simp only [yq45.down, zA, lemS.down, lemC.down, Int.reduceBEq, Nat.reduceAdd, Nat.reduceLeDiff, reduceIte, Nat.reduceEqDiff, Int.reduceLT, Int.reduceLE, Int.reduceGT, Int.reduceGE, Int.reduceEq, Int.reduceAdd, Int.reduceSub, Int.reduceMul, reduceCtorEq, lemH.down, lN2, e3, hh, zD9, tg2, mm])))
  exact ⟨.inr rfl, by (simp only [yq45.down, zA, lemS.down, lemC.down, Int.reduceBEq, Nat.reduceAdd, Nat.reduceLeDiff, reduceIte, Nat.reduceEqDiff, Int.reduceLT, Int.reduceLE, Int.reduceGT, Int.reduceGE, Int.reduceEq, Int.reduceAdd, Int.reduceSub, Int.reduceMul, reduceCtorEq]) <;> rfl, ((gg.trans gg2).trans gg3).trans Grows.new⟩
end Go.X
end
section
open Go Go.X
namespace Go.X
set_option linter.unusedVariables false
noncomputable def callV (pr : Prog) : Value → List Value → Heap → Option (Value × Heap)
  | .func (.func g) first caps, args, h => cfi pr g (first.toList ++ args ++ caps.toList) h
  | _, _, _ => none
theorem zG5 {t : Fr} {h : Heap} {i : Nat} {xs : List Operand} {pr : Prog} : zAA (cfi pr) t h (.call (.tmp i) xs) = callV pr (t.get i) (xs.map t.eval) h := by
  simp only [zAA, Fr.eval, callV]
  cases t.get i with
  | func f a b => cases f <;> rfl
  | _ => rfl
theorem zFu {pr : Prog} {g : Nat} {args : List Value} {h : Heap} : callV pr (.func (.func g) #[] #[]) args h = cfi pr g args h := by simp [callV]
abbrev TagL := List (Int × List UInt8)
def zk (l : TagL) : List Value := l.flatMap fun q => [.int .i64 q.1, .string (zB q.2)]
theorem zF1 (l : TagL) : (zk l).length = l.length * 2 := by
  induction l with
  | nil => rfl
  | cons x l ih => unfold zk at ih ⊢; simp only [List.flatMap_cons, List.length_append, ih, List.length_cons, List.length_nil]; omega
theorem zI0 (l m : TagL) : zk (l ++ m) = zk l ++ zk m := by simp [zk]
theorem zUy (l : TagL) (i : Nat) : (zk l).take (i * 2) = zk (l.take i) := by
  induction l generalizing i with
  | nil => simp [zk]
  | cons x l ih =>
    cases i with
    | zero => simp [zk]
    | succ i =>
      have := ih i
      unfold zk at this ⊢
      rw [show (i + 1) * 2 = i * 2 + 2 by omega]
      simp only [List.take_succ_cons, List.flatMap_cons, List.cons_append, List.nil_append]
      rw [this]
theorem zI1 (l : TagL) (i : Nat) : (zk l).drop (i * 2) = zk (l.drop i) := by
  induction l generalizing i with
  | nil => simp [zk]
  | cons x l ih =>
    cases i with
    | zero => simp [zk]
    | succ i =>
      have := ih i
      unfold zk at this ⊢
      rw [show (i + 1) * 2 = i * 2 + 2 by omega]
      simp only [List.drop_succ_cons, List.flatMap_cons, List.cons_append, List.nil_append]
      rw [this]
abbrev inI (x : Int) : Prop := -9223372036854775808 ≤ x ∧ x < 9223372036854775808
def zC1 : List Value → Option TagL
  | [] => some []
  | .int .i64 x :: .string s :: r => if inI x then (match zC1 r with | some l => some ((x, s.data.toList) :: l) | none => none) else none
  | _ :: _ => none
theorem zG7 : ∀ {cs : List Value} {l : TagL}, zC1 cs = some l → cs = zk l ∧ ∀ q ∈ l, inI q.1
  | [], l, h => by cases h; exact ⟨rfl, by simp⟩
  | [c], l, h => by simp [zC1] at h
  | c :: d :: cs, l, h => by
    unfold zC1 at h
    split at h
    · rename_i heq; cases heq
    · rename_i x s r heq
      cases heq
      split at h
      · rename_i hr
        split at h
        · rename_i q hq
          cases h
          obtain ⟨h1, h2⟩ := zG7 hq
          refine ⟨by rw [h1]; simp [zk, zCZ], fun y hy => ?_⟩
          rcases List.mem_cons.1 hy with rfl | hy
          · exact hr
          · exact h2 y hy
        · cases h
      · cases h
    · cases h
theorem zKh : ∀ {l : TagL}, (∀ q ∈ l, inI q.1) → zC1 (zk l) = some l
  | [], _ => rfl
  | x :: l, h => by
    have := zKh (l := l) (fun y hy => h y (by simp [hy]))
    unfold zk at this ⊢
    simp only [List.flatMap_cons, List.cons_append, List.nil_append, zC1, this, zAh]
    rw [if_pos (h x (by simp))]
def zAU (h : Heap) : Value → Option TagL
  | .slice none n _ => if n = 0 then some [] else none
  | .slice (some a) n _ => if n = 0 then some [] else (match h.loadN a (n * 2) with | some cs => zC1 cs | none => none)
  | _ => none
theorem zFS {h h' : Heap} (wf : HWF h) (g : Grows h h') {v : Value} {l : TagL} (hs : zAU h v = some l) : zAU h' v = some l := by
  unfold zAU at hs ⊢
  split at hs
  · exact hs
  · split at hs
    · rename_i h0; rw [if_pos h0]; exact hs
    · rename_i h0
      rw [if_neg h0]
      split at hs
      · rename_i cs hcs; rw [g.loadN wf hcs]; exact hs
      · cases hs
  · cases hs
theorem zVx {a : Addr} {n c i e : Nat} {k : IntKind} (hi : i < n) : zAn e (.slice (some a) n c) (.int k (i : Int)) = some (.pointer (some ⟨a.block, a.off + i * e, none⟩)) := by
  simp only [zAn]
  rw [if_pos (by omega), Int.toNat_natCast]
theorem zWA {h : Heap} {a : Addr} {n : Nat} {l : List Value} (hl : h.loadN a n = some l) {i k : Nat} (hik : i + k ≤ n) {sp : Option Nat} : h.loadN ⟨a.block, a.off + i, sp⟩ k = some ((l.drop i).take k) := by
  unfold Heap.loadN at hl ⊢
  split at hl
  · rename_i c hc
    simp only [hc]
    unfold zAo at hl ⊢
    cases hb : (a.off + n).ble c.cells.length with
    | false => rw [hb] at hl; cases hl
    | true =>
      rw [hb] at hl
      cases hl
      have := Nat.le_of_ble_eq_true hb
      rw [Nat.ble_eq_true_of_le (by omega)]
      simp only [cond_true]
      rw [List.drop_take, List.drop_drop, List.take_take, Nat.min_eq_left (by omega)]
  · cases hl
theorem zBT {h : Heap} {v : Value} {l : TagL} (hs : zAU h v = some l) : (∀ q ∈ l, inI q.1) ∧ ∃ a cap, v = .slice a l.length cap ∧ ∀ i, i < l.length → ∃ B o, (∀ k : IntKind, zAn 2 v (.int k (i : Int)) = some (.pointer (some ⟨B, o, none⟩))) ∧ (∀ sp, h.loadN ⟨B, o, sp⟩ 2 = some [.int .i64 (l.getD i (0, [])).1, .string (zB (l.getD i (0, [])).2)]) ∧ (∀ sp, h.load ⟨B, o, sp⟩ = some (.int .i64 (l.getD i (0, [])).1)) ∧ (∀ sp, h.load ⟨B, o + 1, sp⟩ = some (.string (zB (l.getD i (0, [])).2))) := by
  unfold zAU at hs
  split at hs
  · rename_i n c
    split at hs
    · rename_i h0
      cases hs
      subst h0
      exact ⟨by simp, none, c, rfl, fun i hi => by simp at hi⟩
    · cases hs
  · rename_i a n c
    split at hs
    · rename_i h0
      cases hs
      subst h0
      exact ⟨by simp, some a, c, rfl, fun i hi => by simp at hi⟩
    · split at hs
      · rename_i cs hcs
        obtain ⟨rfl, hb⟩ := zG7 hs
        have hn : l.length = n := by
          have := zE0 hcs
          rw [zF1] at this
          omega
        subst hn
        have hp : ∀ i, i < l.length → ((zk l).drop (i * 2)).take 2 = [.int .i64 (l.getD i (0, [])).1, .string (zB (l.getD i (0, [])).2)] := fun i hi => by
          rw [zI1, List.drop_eq_getElem_cons hi, List.getD_eq_getElem?_getD, List.getElem?_eq_getElem hi, Option.getD_some]
          rfl
        have hg : ∀ i, i < l.length → ∀ j, j < 2 → (zk l)[i * 2 + j]? = [Value.int .i64 (l.getD i (0, [])).1, .string (zB (l.getD i (0, [])).2)][j]? := fun i hi j hj => by
          rw [← hp i hi, List.getElem?_take, if_pos hj, List.getElem?_drop]
        refine ⟨hb, some a, c, rfl, fun i hi => ⟨a.block, a.off + i * 2, fun k => zVx hi, fun sp => ?_, fun sp => zEI hcs (by have := hg i hi 0 (by decide); simpa using this), fun sp => ?_⟩⟩
        · rw [zWA hcs (by omega), hp i hi]
        · have := zEI hcs (i := i * 2 + 1) (sp := sp) (by have := hg i hi 1 (by decide); simpa using this)
          rw [← Nat.add_assoc] at this
          exact this
      · cases hs
  · cases hs
theorem Own.tags {h : Heap} {S : Nat → Prop} {v : Value} {n : Nat} {l : TagL} (ho : Own h S 2 v n (zk l)) (hb : ∀ q ∈ l, inI q.1) : zAU h v = some l := by
  obtain ⟨a, cap, rfl, hs⟩ := ho.shape
  by_cases h0 : n = 0
  · subst h0
    have := ho.nil_of
    obtain rfl : l = [] := by cases l with | nil => rfl | cons x l => simp [zk] at this
    cases a <;> simp [zAU]
  · obtain ⟨B, off, sp, rfl, h1, _⟩ := hs h0
    simp only [zAU]
    rw [if_neg h0]
    simp only [h1, zKh hb]
def cmpI (a b : Int) : Int := if a < b then -1 else if a > b then 1 else 0
def cmpS : List Value → Option Value
  | [.int .i64 a, .int .i64 b] => some (.int .i64 (cmpI a b))
  | _ => none
theorem cmp_ok (pr : Prog) (hn : pr.prim 114 = none) (hc : pr.code 114 = some xq114) (a b : Int) (h : Heap) : Comes pr xq99 [.int .i64 a, .int .i64 b] h (.int .i64 (cmpI a b)) := by
  apply Comes.of
  unfold xq99
  dsimp only [zc]
  have nan : ∀ x : Int, cfi pr 114 [.int .i64 x] h = some (.bool false, h) := fun x => by
    refine zD3 hn hc rfl ?_
    unfold xq114
    dsimp only [zc]
    refine wpk.out (k := []) ?_
    (repeat (first | refine zS ?_ | refine zL ?_ | refine zR ?_ | refine zE ?_ | refine zC ?_ | refine zJ ?_ | refine zK ?_ | refine zP ?_ | refine zF ?_ | refine zH ?_ | refine zG ?_ | refine zI (by decide) ?_ | refine zQ ?_ | ((first | refine zD ?_ | refine zN ?_ | refine zT rfl rfl ?_ | refine zO rfl ?_ | refine zM ?_); simp only [yq114.down, zA, lemS.down, lemC.down, Int.reduceBEq, Nat.reduceAdd, Nat.reduceLeDiff, reduceIte, Nat.reduceEqDiff, Int.reduceLT, Int.reduceLE, Int.reduceGT, Int.reduceGE, Int.reduceEq, Int.reduceAdd, Int.reduceSub, Int.reduceMul, reduceCtorEq])))
    exact ⟨.inr rfl, by simp only [yq114.down, zA, lemS.down, lemC.down, Int.reduceBEq, Nat.reduceAdd, Nat.reduceLeDiff, reduceIte, Nat.reduceEqDiff, Int.reduceLT, Int.reduceLE, Int.reduceGT, Int.reduceGE, Int.reduceEq, Int.reduceAdd, Int.reduceSub, Int.reduceMul, reduceCtorEq], rfl⟩
  have n1 := nan a
  have n2 := nan b
  unfold cmpI
  by_cases c1 : a < b
  · have d1 : decide (a < b) = true := by simpa using c1
    rw [if_pos c1]
    (repeat (first | refine zS ?_ | refine zL ?_ | refine zR ?_ | refine zE ?_ | refine zC ?_ | refine zJ ?_ | refine zK ?_ | refine zP ?_ | refine zF ?_ | refine zH ?_ | refine zG ?_ | refine zI (by decide) ?_ | refine zQ ?_ | ((first | refine zD ?_ | refine zN ?_ | refine zT rfl rfl ?_ | refine zO rfl ?_ | refine zM ?_); simp only [yq99.down, zA, lemS.down, lemC.down, Int.reduceBEq, Nat.reduceAdd, Nat.reduceLeDiff, reduceIte, Nat.reduceEqDiff, Int.reduceLT, Int.reduceLE, Int.reduceGT, Int.reduceGE, Int.reduceEq, Int.reduceAdd, Int.reduceSub, Int.reduceMul, reduceCtorEq, n1, n2, d1])))
    exact ⟨.inr rfl, by simp only [yq99.down, zA, lemS.down, lemC.down, Int.reduceBEq, Nat.reduceAdd, Nat.reduceLeDiff, reduceIte, Nat.reduceEqDiff, Int.reduceLT, Int.reduceLE, Int.reduceGT, Int.reduceGE, Int.reduceEq, Int.reduceAdd, Int.reduceSub, Int.reduceMul, reduceCtorEq], Grows.refl h⟩
  · have d1 : decide (a < b) = false := by simpa using c1
    rw [if_neg c1]
    by_cases c2 : a > b
    · have d2 : decide (a > b) = true := by simpa using c2
      rw [if_pos c2]
      (repeat (first | refine zS ?_ | refine zL ?_ | refine zR ?_ | refine zE ?_ | refine zC ?_ | refine zJ ?_ | refine zK ?_ | refine zP ?_ | refine zF ?_ | refine zH ?_ | refine zG ?_ | refine zI (by decide) ?_ | refine zQ ?_ | ((first | refine zD ?_ | refine zN ?_ | refine zT rfl rfl ?_ | refine zO rfl ?_ | refine zM ?_); simp only [yq99.down, zA, lemS.down, lemC.down, Int.reduceBEq, Nat.reduceAdd, Nat.reduceLeDiff, reduceIte, Nat.reduceEqDiff, Int.reduceLT, Int.reduceLE, Int.reduceGT, Int.reduceGE, Int.reduceEq, Int.reduceAdd, Int.reduceSub, Int.reduceMul, reduceCtorEq, n1, n2, d1, d2])))
      exact ⟨.inr rfl, by simp only [yq99.down, zA, lemS.down, lemC.down, Int.reduceBEq, Nat.reduceAdd, Nat.reduceLeDiff, reduceIte, Nat.reduceEqDiff, Int.reduceLT, Int.reduceLE, Int.reduceGT, Int.reduceGE, Int.reduceEq, Int.reduceAdd, Int.reduceSub, Int.reduceMul, reduceCtorEq], Grows.refl h⟩
    · have d2 : decide (a > b) = false := by simpa using c2
      rw [if_neg c2]
      (repeat (first | refine zS ?_ | refine zL ?_ | refine zR ?_ | refine zE ?_ | refine zC ?_ | refine zJ ?_ | refine zK ?_ | refine zP ?_ | refine zF ?_ | refine zH ?_ | refine zG ?_ | refine zI (by decide) ?_ | refine zQ ?_ | ((first | refine zD ?_ | refine zN ?_ | refine zT rfl rfl ?_ | refine zO rfl ?_ | refine zM ?_); simp only [yq99.down, zA, lemS.down, lemC.down, Int.reduceBEq, Nat.reduceAdd, Nat.reduceLeDiff, reduceIte, Nat.reduceEqDiff, Int.reduceLT, Int.reduceLE, Int.reduceGT, Int.reduceGE, Int.reduceEq, Int.reduceAdd, Int.reduceSub, Int.reduceMul, reduceCtorEq, n1, n2, d1, d2])))
      exact ⟨.inr rfl, by simp only [yq99.down, zA, lemS.down, lemC.down, Int.reduceBEq, Nat.reduceAdd, Nat.reduceLeDiff, reduceIte, Nat.reduceEqDiff, Int.reduceLT, Int.reduceLE, Int.reduceGT, Int.reduceGE, Int.reduceEq, Int.reduceAdd, Int.reduceSub, Int.reduceMul, reduceCtorEq], Grows.refl h⟩
def zGH : List Value → Option Value
  | [.agg ⟨[.int .i64 a, .string _]⟩, .int .i64 b] => some (.int .i64 (cmpI a b))
  | _ => none
theorem zVn (pr : Prog) (hc : pr.prim 99 = some (za cmpS)) (a b : Int) (s : List UInt8) (h : Heap) : Comes pr xq98 [tagV a s, .int .i64 b] h (.int .i64 (cmpI a b)) := by
  apply Comes.of
  unfold xq98
  dsimp only [zc]
  obtain ⟨g, hg, v0, gg⟩ : ∃ g, h.new [.int .i64 a, .string (zB s)] = g ∧ Var g h.next [.int .i64 a, .string (zB s)] ∧ Grows h g := ⟨_, rfl, Var.new_self, Grows.new⟩
  have l0 : ∀ sp, g.load ⟨h.next, 0, sp⟩ = some (.int .i64 a) := fun sp => v0.load
  have c1 := zf (h := g) hc (s := cmpS) (args := [.int .i64 a, .int .i64 b]) rfl
  (repeat (first | refine zS ?_ | refine zL ?_ | refine zR ?_ | refine zE ?_ | refine zC ?_ | refine zJ ?_ | refine zK ?_ | refine zP ?_ | refine zF ?_ | refine zH ?_ | refine zG ?_ | refine zI (by decide) ?_ | refine zQ ?_ | ((first | refine zD ?_ | refine zN ?_ | refine zT rfl rfl ?_ | refine zO rfl ?_ | refine zM ?_); simp only [yq98.down, zA, lemS.down, lemC.down, Int.reduceBEq, Nat.reduceAdd, Nat.reduceLeDiff, reduceIte, Nat.reduceEqDiff, Int.reduceLT, Int.reduceLE, Int.reduceGT, Int.reduceGE, Int.reduceEq, Int.reduceAdd, Int.reduceSub, Int.reduceMul, reduceCtorEq, lemH.down, zD0, hg, l0, c1])))
  exact ⟨.inr rfl, by simp only [yq98.down, zA, lemS.down, lemC.down, Int.reduceBEq, Nat.reduceAdd, Nat.reduceLeDiff, reduceIte, Nat.reduceEqDiff, Int.reduceLT, Int.reduceLE, Int.reduceGT, Int.reduceGE, Int.reduceEq, Int.reduceAdd, Int.reduceSub, Int.reduceMul, reduceCtorEq], gg⟩
end Go.X
end
section
open Go Go.X
namespace Go.X
set_option linter.unusedVariables false
abbrev zBL (l : TagL) : Prop := l.Pairwise (fun a b => a.1 < b.1)
def zAM (l : TagL) (r : Int) : Nat := (l.takeWhile (fun q => decide (q.1 < r))).length
theorem zED {l : TagL} {i : Nat} (hi : i < l.length) : l.getD i (0, []) = l[i] := by simp [List.getD_eq_getElem?_getD, List.getElem?_eq_getElem hi]
theorem zKV {l : TagL} (hs : zBL l) {i j : Nat} (hij : i < j) (hj : j < l.length) : (l.getD i (0, [])).1 < (l.getD j (0, [])).1 := by
  rw [zED (by omega), zED hj]
  exact (List.pairwise_iff_getElem.1 hs) i j (by omega) hj hij
theorem zJ4 {l : TagL} {r : Int} {i : Nat} (hi : i ≤ l.length) (h1 : ∀ k, k < i → (l.getD k (0, [])).1 < r) (h2 : i < l.length → ¬ (l.getD i (0, [])).1 < r) : zAM l r = i := by
  unfold zAM
  induction l generalizing i with
  | nil => simp at hi; subst hi; rfl
  | cons x l ih =>
    cases i with
    | zero =>
      have := h2 (by simp)
      have hx : ¬ x.1 < r := by simpa using this
      rw [List.takeWhile_cons_of_neg (by simpa using hx)]
      rfl
    | succ i =>
      have hx : x.1 < r := by simpa using h1 0 (by omega)
      rw [List.takeWhile_cons_of_pos (by simpa using hx), List.length_cons]
      congr 1
      exact ih (by simpa using hi) (fun k hk => by simpa using h1 (k + 1) (by omega)) (fun hl => by simpa using h2 (by simpa using hl))
def isT (l : TagL) (r : Int) : Bool := decide (zAM l r < l.length) && ((l.getD (zAM l r) (0, [])).1 == r)
def bsG : Prim := fun args h => match args with
  | [v, .int .i64 r, .func (.func 98) ⟨[]⟩ ⟨[]⟩] => match zAU h v with
    | some l => if zBL l ∧ l.length ≤ 1000000 then some (.tuple #[.int .i64 (zAM l r : Int), .bool (isT l r)], h) else none
    | none => none
  | _ => none
theorem bsG_at {h : Heap} {v : Value} {l : TagL} {r : Int} (hs : zAU h v = some l) (ho : zBL l) (hl : l.length ≤ 1000000) : bsG [v, .int .i64 r, .func (.func 98) #[] #[]] h = some (.tuple #[.int .i64 (zAM l r : Int), .bool (isT l r)], h) := by
  simp only [bsG, hs]
  rw [if_pos ⟨ho, hl⟩]
theorem zI8 {a b : Int} : decide (cmpI a b < 0) = decide (a < b) := by
  unfold cmpI
  split
  · rename_i h; simp [h]
  · rename_i h
    split <;> simp <;> omega
theorem cmpI_eq {a b : Int} : (cmpI a b == 0) = (a == b) := by
  rw [Bool.eq_iff_iff]
  unfold cmpI
  simp only [beq_iff_eq]
  split
  · omega
  · split <;> omega
set_option maxHeartbeats 1000000 in
theorem bs_ok (pr : Prog) (hf : pr.prim 98 = some (za zGH)) (h : Heap) (v : Value) (l : TagL) (r : Int) (hs : zAU h v = some l) (ho : zBL l) (hl : l.length ≤ 1000000) :
    Comes pr xq97 [v, .int .i64 r, .func (.func 98) #[] #[]] h (.tuple #[.int .i64 (zAM l r : Int), .bool (isT l r)]) := by
  apply Comes.of
  unfold xq97
  dsimp only [zc]
  obtain ⟨hb, a, cap, rfl, hel⟩ := zBT hs
  (repeat (first | refine zS ?_ | refine zL ?_ | refine zR ?_ | refine zE ?_ | refine zC ?_ | refine zJ ?_ | refine zK ?_ | refine zP ?_ | refine zF ?_ | refine zH ?_ | refine zG ?_ | refine zI (by decide) ?_ | refine zQ ?_ | ((first | refine zD ?_ | refine zN ?_ | refine zT rfl rfl ?_ | refine zO rfl ?_ | refine zM ?_); simp only [yq97.down, zA, lemS.down, lemC.down, Int.reduceBEq, Nat.reduceAdd, Nat.reduceLeDiff, reduceIte, Nat.reduceEqDiff, Int.reduceLT, Int.reduceLE, Int.reduceGT, Int.reduceGE, Int.reduceEq, Int.reduceAdd, Int.reduceSub, Int.reduceMul, reduceCtorEq, lemH.down])))
  refine zo (fun m t g => ∃ i j, m = j - i ∧ i ≤ j ∧ j ≤ l.length ∧ g = h ∧ (∀ k, k < i → (l.getD k (0, [])).1 < r) ∧ (∀ k, j ≤ k → k < l.length → ¬ (l.getD k (0, [])).1 < r) ∧ t.get 0 = .slice a l.length cap ∧ t.get 1 = .int .i64 r ∧ t.get 2 = .func (.func 98) #[] #[] ∧ t.get 8 = .int .i64 (l.length : Int) ∧ t.get 9 = .int .i64 (i : Int) ∧ t.get 10 = .int .i64 (j : Int)) ?_ l.length _ _ ⟨0, l.length, rfl, by omega, by omega, rfl, by simp, fun k h1 h2 => by omega, by simp only [yq97.down, zA, lemS.down, lemC.down, Int.reduceBEq, Nat.reduceAdd, Nat.reduceLeDiff, reduceIte, Nat.reduceEqDiff, Int.reduceLT, Int.reduceLE, Int.reduceGT, Int.reduceGE, Int.reduceEq, Int.reduceAdd, Int.reduceSub, Int.reduceMul, reduceCtorEq], by simp only [yq97.down, zA, lemS.down, lemC.down, Int.reduceBEq, Nat.reduceAdd, Nat.reduceLeDiff, reduceIte, Nat.reduceEqDiff, Int.reduceLT, Int.reduceLE, Int.reduceGT, Int.reduceGE, Int.reduceEq, Int.reduceAdd, Int.reduceSub, Int.reduceMul, reduceCtorEq], by simp only [yq97.down, zA, lemS.down, lemC.down, Int.reduceBEq, Nat.reduceAdd, Nat.reduceLeDiff, reduceIte, Nat.reduceEqDiff, Int.reduceLT, Int.reduceLE, Int.reduceGT, Int.reduceGE, Int.reduceEq, Int.reduceAdd, Int.reduceSub, Int.reduceMul, reduceCtorEq], by simp only [yq97.down, zA, lemS.down, lemC.down, Int.reduceBEq, Nat.reduceAdd, Nat.reduceLeDiff, reduceIte, Nat.reduceEqDiff, Int.reduceLT, Int.reduceLE, Int.reduceGT, Int.reduceGE, Int.reduceEq, Int.reduceAdd, Int.reduceSub, Int.reduceMul, reduceCtorEq], by (simp only [yq97.down, zA, lemS.down, lemC.down, Int.reduceBEq, Nat.reduceAdd, Nat.reduceLeDiff, reduceIte, Nat.reduceEqDiff, Int.reduceLT, Int.reduceLE, Int.reduceGT, Int.reduceGE, Int.reduceEq, Int.reduceAdd, Int.reduceSub, Int.reduceMul, reduceCtorEq]) <;> rfl, by simp only [yq97.down, zA, lemS.down, lemC.down, Int.reduceBEq, Nat.reduceAdd, Nat.reduceLeDiff, reduceIte, Nat.reduceEqDiff, Int.reduceLT, Int.reduceLE, Int.reduceGT, Int.reduceGE, Int.reduceEq, Int.reduceAdd, Int.reduceSub, Int.reduceMul, reduceCtorEq]⟩
  rintro m t g ⟨i, j, rfl, hij, hj, rfl, hlo, hhi, t0, t1, t2, t8, t9, t10⟩ hnext
  refine xq97_8k ?_
  dsimp only [zIQ]
  (repeat (first | refine zS ?_ | refine zL ?_ | refine zR ?_ | refine zE ?_ | refine zC ?_ | refine zJ ?_ | refine zK ?_ | refine zP ?_ | refine zF ?_ | refine zH ?_ | refine zG ?_ | refine zI (by decide) ?_ | refine zQ ?_ | ((first | refine zD ?_ | refine zN ?_ | refine zT rfl rfl ?_ | refine zO rfl ?_ | refine zM ?_); simp only [yq97.down, zA, lemS.down, lemC.down, Int.reduceBEq, Nat.reduceAdd, Nat.reduceLeDiff, reduceIte, Nat.reduceEqDiff, Int.reduceLT, Int.reduceLE, Int.reduceGT, Int.reduceGE, Int.reduceEq, Int.reduceAdd, Int.reduceSub, Int.reduceMul, reduceCtorEq, lemH.down, t0, t1, t2, t8, t9, t10])))
  refine ⟨fun hlt => ?_, fun hge => ?_⟩
  · have hlt' : i < j := by omega
    have hm : (i + j) / 2 < l.length := by omega
    obtain ⟨B, o, ia, ld, _⟩ := hel ((i + j) / 2) hm
    have w1 : IntKind.i64.wrap ((i : Int) + (j : Int)) = ((i + j : Nat) : Int) := by rw [wrap_i64 (by omega) (by omega)]; omega
    have c1 := zBU (k := .u64) (k' := .i64) zC4 (n := i + j)
    have s1 : binX .shr (uw .u64 (i + j)) (.int .u64 1) = some (uw .u64 ((i + j) / 2)) := by
      have := zKT (x := i + j) (k' := .u64) (n := 1) (by decide)
      rw [Nat.mod_eq_of_lt (by omega), Nat.shiftRight_eq_div_pow] at this
      exact this
    have c2 := ci64 (n := (i + j) / 2) (by omega)
    have cf : cfi pr 98 [.agg [.int .i64 (l.getD ((i + j) / 2) (0, [])).1, .string (zB (l.getD ((i + j) / 2) (0, [])).2)].toArray, .int .i64 r] g = some (.int .i64 (cmpI (l.getD ((i + j) / 2) (0, [])).1 r), g) := zf hf rfl
    by_cases hc : (l.getD ((i + j) / 2) (0, [])).1 < r
    · have d1 : decide (cmpI (l.getD ((i + j) / 2) (0, [])).1 r < 0) = true := by rw [zI8]; simpa using hc
      have w2 : IntKind.i64.wrap ((((i + j) / 2 : Nat) : Int) + 1) = (((i + j) / 2 + 1 : Nat) : Int) := by rw [wrap_i64 (by omega) (by omega)]; omega
      (repeat (first | refine zS ?_ | refine zL ?_ | refine zR ?_ | refine zE ?_ | refine zC ?_ | refine zJ ?_ | refine zK ?_ | refine zP ?_ | refine zF ?_ | refine zH ?_ | refine zG ?_ | refine zI (by decide) ?_ | refine zQ ?_ | ((first | refine zD ?_ | refine zN ?_ | refine zT rfl rfl ?_ | refine zO rfl ?_ | refine zM ?_); simp only [yq97.down, zA, lemS.down, lemC.down, Int.reduceBEq, Nat.reduceAdd, Nat.reduceLeDiff, reduceIte, Nat.reduceEqDiff, Int.reduceLT, Int.reduceLE, Int.reduceGT, Int.reduceGE, Int.reduceEq, Int.reduceAdd, Int.reduceSub, Int.reduceMul, reduceCtorEq, lemH.down, t0, t1, t2, t8, t9, t10, w1, c1, s1, c2, zAG, ia, ld, zG5, zFu, cf, d1, w2])))
      exact hnext (j - ((i + j) / 2 + 1)) _ g (by omega) ⟨(i + j) / 2 + 1, j, rfl, by omega, hj, rfl, fun k hk => by
        rcases Nat.lt_or_ge k ((i + j) / 2) with q | q
        · have := zKV ho q hm; omega
        · obtain rfl : k = (i + j) / 2 := by omega
          exact hc, hhi, by simp only [yq97.down, zA, lemS.down, lemC.down, Int.reduceBEq, Nat.reduceAdd, Nat.reduceLeDiff, reduceIte, Nat.reduceEqDiff, Int.reduceLT, Int.reduceLE, Int.reduceGT, Int.reduceGE, Int.reduceEq, Int.reduceAdd, Int.reduceSub, Int.reduceMul, reduceCtorEq, t0], by simp only [yq97.down, zA, lemS.down, lemC.down, Int.reduceBEq, Nat.reduceAdd, Nat.reduceLeDiff, reduceIte, Nat.reduceEqDiff, Int.reduceLT, Int.reduceLE, Int.reduceGT, Int.reduceGE, Int.reduceEq, Int.reduceAdd, Int.reduceSub, Int.reduceMul, reduceCtorEq, t1], by simp only [yq97.down, zA, lemS.down, lemC.down, Int.reduceBEq, Nat.reduceAdd, Nat.reduceLeDiff, reduceIte, Nat.reduceEqDiff, Int.reduceLT, Int.reduceLE, Int.reduceGT, Int.reduceGE, Int.reduceEq, Int.reduceAdd, Int.reduceSub, Int.reduceMul, reduceCtorEq, t2], by simp only [yq97.down, zA, lemS.down, lemC.down, Int.reduceBEq, Nat.reduceAdd, Nat.reduceLeDiff, reduceIte, Nat.reduceEqDiff, Int.reduceLT, Int.reduceLE, Int.reduceGT, Int.reduceGE, Int.reduceEq, Int.reduceAdd, Int.reduceSub, Int.reduceMul, reduceCtorEq, t8], by simp only [yq97.down, zA, lemS.down, lemC.down, Int.reduceBEq, Nat.reduceAdd, Nat.reduceLeDiff, reduceIte, Nat.reduceEqDiff, Int.reduceLT, Int.reduceLE, Int.reduceGT, Int.reduceGE, Int.reduceEq, Int.reduceAdd, Int.reduceSub, Int.reduceMul, reduceCtorEq], by simp only [yq97.down, zA, lemS.down, lemC.down, Int.reduceBEq, Nat.reduceAdd, Nat.reduceLeDiff, reduceIte, Nat.reduceEqDiff, Int.reduceLT, Int.reduceLE, Int.reduceGT, Int.reduceGE, Int.reduceEq, Int.reduceAdd, Int.reduceSub, Int.reduceMul, reduceCtorEq, t10]⟩
    · have d1 : decide (cmpI (l.getD ((i + j) / 2) (0, [])).1 r < 0) = false := by rw [zI8]; simpa using hc
      (repeat (first | refine zS ?_ | refine zL ?_ | refine zR ?_ | refine zE ?_ | refine zC ?_ | refine zJ ?_ | refine zK ?_ | refine zP ?_ | refine zF ?_ | refine zH ?_ | refine zG ?_ | refine zI (by decide) ?_ | refine zQ ?_ | ((first | refine zD ?_ | refine zN ?_ | refine zT rfl rfl ?_ | refine zO rfl ?_ | refine zM ?_); simp only [yq97.down, zA, lemS.down, lemC.down, Int.reduceBEq, Nat.reduceAdd, Nat.reduceLeDiff, reduceIte, Nat.reduceEqDiff, Int.reduceLT, Int.reduceLE, Int.reduceGT, Int.reduceGE, Int.reduceEq, Int.reduceAdd, Int.reduceSub, Int.reduceMul, reduceCtorEq, lemH.down, t0, t1, t2, t8, t9, t10, w1, c1, s1, c2, zAG, ia, ld, zG5, zFu, cf, d1])))
      exact hnext ((i + j) / 2 - i) _ g (by omega) ⟨i, (i + j) / 2, rfl, by omega, by omega, rfl, hlo, fun k h1 h2 => by
        rcases Nat.lt_or_ge ((i + j) / 2) k with q | q
        · have := zKV ho q h2; omega
        · obtain rfl : k = (i + j) / 2 := by omega
          exact hc, by simp only [yq97.down, zA, lemS.down, lemC.down, Int.reduceBEq, Nat.reduceAdd, Nat.reduceLeDiff, reduceIte, Nat.reduceEqDiff, Int.reduceLT, Int.reduceLE, Int.reduceGT, Int.reduceGE, Int.reduceEq, Int.reduceAdd, Int.reduceSub, Int.reduceMul, reduceCtorEq, t0], by simp only [yq97.down, zA, lemS.down, lemC.down, Int.reduceBEq, Nat.reduceAdd, Nat.reduceLeDiff, reduceIte, Nat.reduceEqDiff, Int.reduceLT, Int.reduceLE, Int.reduceGT, Int.reduceGE, Int.reduceEq, Int.reduceAdd, Int.reduceSub, Int.reduceMul, reduceCtorEq, t1], by simp only [yq97.down, zA, lemS.down, lemC.down, Int.reduceBEq, Nat.reduceAdd, Nat.reduceLeDiff, reduceIte, Nat.reduceEqDiff, Int.reduceLT, Int.reduceLE, Int.reduceGT, Int.reduceGE, Int.reduceEq, Int.reduceAdd, Int.reduceSub, Int.reduceMul, reduceCtorEq, t2], by simp only [yq97.down, zA, lemS.down, lemC.down, Int.reduceBEq, Nat.reduceAdd, Nat.reduceLeDiff, reduceIte, Nat.reduceEqDiff, Int.reduceLT, Int.reduceLE, Int.reduceGT, Int.reduceGE, Int.reduceEq, Int.reduceAdd, Int.reduceSub, Int.reduceMul, reduceCtorEq, t8], by simp only [yq97.down, zA, lemS.down, lemC.down, Int.reduceBEq, Nat.reduceAdd, Nat.reduceLeDiff, reduceIte, Nat.reduceEqDiff, Int.reduceLT, Int.reduceLE, Int.reduceGT, Int.reduceGE, Int.reduceEq, Int.reduceAdd, Int.reduceSub, Int.reduceMul, reduceCtorEq, t9], by simp only [yq97.down, zA, lemS.down, lemC.down, Int.reduceBEq, Nat.reduceAdd, Nat.reduceLeDiff, reduceIte, Nat.reduceEqDiff, Int.reduceLT, Int.reduceLE, Int.reduceGT, Int.reduceGE, Int.reduceEq, Int.reduceAdd, Int.reduceSub, Int.reduceMul, reduceCtorEq]⟩
  · obtain rfl : i = j := by omega
    have hp := zJ4 hj hlo (fun q => hhi i (Nat.le_refl _) q)
    by_cases hin : i < l.length
    · obtain ⟨B, o, ia, ld, _⟩ := hel i hin
      have d1 : decide ((i : Int) < (l.length : Int)) = true := by simp; omega
      have cf : cfi pr 98 [.agg [.int .i64 (l.getD i (0, [])).1, .string (zB (l.getD i (0, [])).2)].toArray, .int .i64 r] g = some (.int .i64 (cmpI (l.getD i (0, [])).1 r), g) := zf hf rfl
      have he := cmpI_eq (a := (l.getD i (0, [])).1) (b := r)
      have hi2 : isT l r = ((l.getD i (0, [])).1 == r) := by unfold isT; rw [hp, decide_eq_true hin, Bool.true_and]
      (repeat (first | refine zS ?_ | refine zL ?_ | refine zR ?_ | refine zE ?_ | refine zC ?_ | refine zJ ?_ | refine zK ?_ | refine zP ?_ | refine zF ?_ | refine zH ?_ | refine zG ?_ | refine zI (by decide) ?_ | refine zQ ?_ | ((first | refine zD ?_ | refine zN ?_ | refine zT rfl rfl ?_ | refine zO rfl ?_ | refine zM ?_); simp only [yq97.down, zA, lemS.down, lemC.down, Int.reduceBEq, Nat.reduceAdd, Nat.reduceLeDiff, reduceIte, Nat.reduceEqDiff, Int.reduceLT, Int.reduceLE, Int.reduceGT, Int.reduceGE, Int.reduceEq, Int.reduceAdd, Int.reduceSub, Int.reduceMul, reduceCtorEq, lemH.down, t0, t1, t2, t8, t9, t10, d1, zAG, ia, ld, zG5, zFu, cf, he])))
      refine ⟨.inr rfl, ?_, Grows.refl _⟩
      rw [hp, hi2]
      simp only [yq97.down, zA, lemS.down, lemC.down, Int.reduceBEq, Nat.reduceAdd, Nat.reduceLeDiff, reduceIte, Nat.reduceEqDiff, Int.reduceLT, Int.reduceLE, Int.reduceGT, Int.reduceGE, Int.reduceEq, Int.reduceAdd, Int.reduceSub, Int.reduceMul, reduceCtorEq]
    · have d1 : decide ((i : Int) < (l.length : Int)) = false := by simp; omega
      have hi2 : isT l r = false := by unfold isT; rw [hp, decide_eq_false hin, Bool.false_and]
      (repeat (first | refine zS ?_ | refine zL ?_ | refine zR ?_ | refine zE ?_ | refine zC ?_ | refine zJ ?_ | refine zK ?_ | refine zP ?_ | refine zF ?_ | refine zH ?_ | refine zG ?_ | refine zI (by decide) ?_ | refine zQ ?_ | ((first | refine zD ?_ | refine zN ?_ | refine zT rfl rfl ?_ | refine zO rfl ?_ | refine zM ?_); simp only [yq97.down, zA, lemS.down, lemC.down, Int.reduceBEq, Nat.reduceAdd, Nat.reduceLeDiff, reduceIte, Nat.reduceEqDiff, Int.reduceLT, Int.reduceLE, Int.reduceGT, Int.reduceGE, Int.reduceEq, Int.reduceAdd, Int.reduceSub, Int.reduceMul, reduceCtorEq, lemH.down, t0, t1, t2, t8, t9, t10, d1, zAS])))
      refine ⟨.inr rfl, ?_, Grows.refl _⟩
      rw [hp, hi2]
      simp only [yq97.down, zA, lemS.down, lemC.down, Int.reduceBEq, Nat.reduceAdd, Nat.reduceLeDiff, reduceIte, Nat.reduceEqDiff, Int.reduceLT, Int.reduceLE, Int.reduceGT, Int.reduceGE, Int.reduceEq, Int.reduceAdd, Int.reduceSub, Int.reduceMul, reduceCtorEq]
end Go.X
end
section
open Go Go.X
namespace Go.X
set_option linter.unusedVariables false
theorem box1 {h : Heap} {v : Value} (hc : cellsOf v = [v]) : ∃ g, h.new [v] = g ∧ Var g h.next [v] ∧ Grows h g ∧ g.next = h.next + 1 := ⟨_, rfl, Var.new_self, Grows.new, rfl⟩
theorem zEa {h : Heap} {v : Value} {l : TagL} (hs : zAU h v = some l) : cellsOf v = [v] ∧ oneC v = true := by
  obtain ⟨_, a, cap, rfl, _⟩ := zBT hs
  exact ⟨rfl, rfl⟩
theorem zCG {v : Value} : cellsOf (.agg [v].toArray) = [v] := rfl
theorem zVf {t : Fr} {f : Nat} : Fr.eval t (.func f) = .func (.func f) #[] #[] := rfl
def zEC : Prim := fun args h => match args with
  | [.agg ⟨[v]⟩, .int .i64 r] => match zAU h v with
    | some l => if zBL l ∧ l.length ≤ 1000000 then some (.tuple #[.int .i64 (zAM l r : Int), .bool (isT l r)], h) else none
    | none => none
  | _ => none
theorem findG_at {h : Heap} {v : Value} {l : TagL} {r : Int} (hs : zAU h v = some l) (ho : zBL l) (hl : l.length ≤ 1000000) : zEC [.agg [v].toArray, .int .i64 r] h = some (.tuple #[.int .i64 (zAM l r : Int), .bool (isT l r)], h) := by
  simp only [zEC, hs]
  rw [if_pos ⟨ho, hl⟩]
theorem find_ok (pr : Prog) (hb : pr.prim 97 = some bsG) (h : Heap) (wf : HWF h) (v : Value) (l : TagL) (r : Int) (hs : zAU h v = some l) (ho : zBL l) (hl : l.length ≤ 1000000) :
    Comes pr xq79 [.agg [v].toArray, .int .i64 r] h (.tuple #[.int .i64 (zAM l r : Int), .bool (isT l r)]) := by
  apply Comes.of
  unfold xq79
  dsimp only [zc]
  obtain ⟨g, hg, v0, gg, gn⟩ := box1 (h := h) (zEa hs).1
  have l0 : ∀ sp, g.load ⟨h.next, 0, sp⟩ = some v := fun sp => v0.load
  have c1 := zq hb (bsG_at (r := r) (zFS wf gg hs) ho hl)
  (repeat (first | refine zS ?_ | refine zL ?_ | refine zR ?_ | refine zE ?_ | refine zC ?_ | refine zJ ?_ | refine zK ?_ | refine zP ?_ | refine zF ?_ | refine zH ?_ | refine zG ?_ | refine zI (by decide) ?_ | refine zQ ?_ | ((first | refine zD ?_ | refine zN ?_ | refine zT rfl rfl ?_ | refine zO rfl ?_ | refine zM ?_); simp only [yq79.down, zA, lemS.down, lemC.down, Int.reduceBEq, Nat.reduceAdd, Nat.reduceLeDiff, reduceIte, Nat.reduceEqDiff, Int.reduceLT, Int.reduceLE, Int.reduceGT, Int.reduceGE, Int.reduceEq, Int.reduceAdd, Int.reduceSub, Int.reduceMul, reduceCtorEq, lemH.down, zCG, hg, l0, Nat.add_zero, zVf, c1])))
  exact ⟨.inr rfl, by simp only [yq79.down, zA, lemS.down, lemC.down, Int.reduceBEq, Nat.reduceAdd, Nat.reduceLeDiff, reduceIte, Nat.reduceEqDiff, Int.reduceLT, Int.reduceLE, Int.reduceGT, Int.reduceGE, Int.reduceEq, Int.reduceAdd, Int.reduceSub, Int.reduceMul, reduceCtorEq], gg⟩
structure zCb (pr : Prog) : Prop where
  find : pr.prim 79 = some zEC
  scl : pr.prim 81 = none
  sclC : pr.code 81 = some xq81
  ccl : pr.prim 50 = none
  cclC : pr.code 50 = some xq50
  ins : pr.prim 80 = some (zB2 2 24)
  add : pr.prim 48 = none
  addC : pr.code 48 = some xq48
theorem zIz (l : TagL) : (zk l).all oneC = true := by
  rw [List.all_eq_true]
  intro x hx
  unfold zk at hx
  rw [List.mem_flatMap] at hx
  obtain ⟨q, _, hq⟩ := hx
  simp only [List.mem_cons, List.not_mem_nil, or_false] at hq
  rcases hq with rfl | rfl <;> rfl
theorem zXI {h : Heap} {v : Value} {l : TagL} (hs : zAU h v = some l) {s : Value} : zAp h 2 24 s v = h.append 2 24 s l.length (zk l) := by
  unfold zAU at hs
  split at hs
  · rename_i n c
    split at hs
    · rename_i h0
      cases hs
      simp [zAp, h0, zk]
    · cases hs
  · rename_i a n c
    split at hs
    · rename_i h0
      cases hs
      simp [zAp, h0, zk]
    · rename_i h0
      split at hs
      · rename_i cs hcs
        obtain ⟨rfl, _⟩ := zG7 hs
        have hn : l.length = n := by
          have := zE0 hcs
          rw [zF1] at this
          omega
        simp only [zAp]
        rw [if_neg h0, hcs, hn]
      · cases hs
  · cases hs
theorem eqX_ns {a : Option Addr} {n c : Nat} : eqX .nslice (.slice a n c) (.slice none 0 0) = some a.isNone := by simp [eqX]
theorem zGF {z : List Value} : zt z [] = some z := rfl
def RdTags (h : Heap) (v : Value) (l : TagL) : Prop := ∀ h', Grows h h' → zAU h' v = some l
theorem RdTags.grow {h h' : Heap} {v : Value} {l : TagL} (hr : RdTags h v l) (g : Grows h h') : RdTags h' v l := fun h2 g2 => hr h2 (g.trans g2)
theorem RdTags.now {h : Heap} {v : Value} {l : TagL} (hr : RdTags h v l) : zAU h v = some l := hr h (Grows.refl h)
theorem Own.rdTags {h : Heap} {S : Nat → Prop} {v : Value} {n : Nat} {l : TagL} (ho : Own h S 2 v n (zk l)) (hb : ∀ q ∈ l, inI q.1) : RdTags h v l := fun _ g => (ho.grow g).tags hb
theorem zKJ {pr : Prog} (T : zCb pr) {h : Heap} {v : Value} {l : TagL} (hs : RdTags h v l) (hl : l.length ≤ 1000000) :
    ∃ v' h', cfi pr 81 [v] h = some (v', h') ∧ Own h' (fun A => h.next ≤ A) 2 v' l.length (zk l) ∧ Grows h h' := by
  have hr64 : zU = 140737488355328 := rfl
  refine zAg T.scl T.sclC rfl ?_
  unfold xq81
  dsimp only [zc]
  refine wpk.out (k := []) ?_
  obtain ⟨hb, a, cap, rfl, hel⟩ := zBT hs.now
  cases a with
  | none =>
    have h0 : l.length = 0 := by
      have hs := hs.now
      unfold zAU at hs
      simp only at hs
      split at hs
      · assumption
      · cases hs
    obtain rfl := List.eq_nil_of_length_eq_zero h0
    (repeat (first | refine zS ?_ | refine zL ?_ | refine zR ?_ | refine zE ?_ | refine zC ?_ | refine zJ ?_ | refine zK ?_ | refine zP ?_ | refine zF ?_ | refine zH ?_ | refine zG ?_ | refine zI (by decide) ?_ | refine zQ ?_ | ((first | refine zD ?_ | refine zN ?_ | refine zT rfl rfl ?_ | refine zO rfl ?_ | refine zM ?_); simp only [yq81.down, zA, lemS.down, lemC.down, Int.reduceBEq, Nat.reduceAdd, Nat.reduceLeDiff, reduceIte, Nat.reduceEqDiff, Int.reduceLT, Int.reduceLE, Int.reduceGT, Int.reduceGE, Int.reduceEq, Int.reduceAdd, Int.reduceSub, Int.reduceMul, reduceCtorEq, lemH.down, eqX_ns])))
    exact ⟨.inr rfl, _, by simp only [yq81.down, zA, lemS.down, lemC.down, Int.reduceBEq, Nat.reduceAdd, Nat.reduceLeDiff, reduceIte, Nat.reduceEqDiff, Int.reduceLT, Int.reduceLE, Int.reduceGT, Int.reduceGE, Int.reduceEq, Int.reduceAdd, Int.reduceSub, Int.reduceMul, reduceCtorEq], Own.nil, Grows.refl _⟩
  | some a =>
    have hO := Own.newSlice (h := h) (l := []) (n := 0) (esz := 2) (sp := none) rfl (.inl rfl)
    obtain ⟨v2, h2, e2, hO2, k2⟩ := hO.append (bytes := 24) (m := l.length) (new := zk l) (zF1 l) (zIz l) (by decide) (by decide) (by omega)
    have hsrc := zXI (hs _ (Grows.new (l := []))) (s := .slice (some ⟨h.next, 0, none⟩) 0 0)
    rw [← hsrc] at e2
    (repeat (first | refine zS ?_ | refine zL ?_ | refine zR ?_ | refine zE ?_ | refine zC ?_ | refine zJ ?_ | refine zK ?_ | refine zP ?_ | refine zF ?_ | refine zH ?_ | refine zG ?_ | refine zI (by decide) ?_ | refine zQ ?_ | ((first | refine zD ?_ | refine zN ?_ | refine zT rfl rfl ?_ | refine zO rfl ?_ | refine zM ?_); simp only [yq81.down, zA, lemS.down, lemC.down, Int.reduceBEq, Nat.reduceAdd, Nat.reduceLeDiff, reduceIte, Nat.reduceEqDiff, Int.reduceLT, Int.reduceLE, Int.reduceGT, Int.reduceGE, Int.reduceEq, Int.reduceAdd, Int.reduceSub, Int.reduceMul, reduceCtorEq, lemH.down, eqX_ns, zGF, e2])))
    refine ⟨.inr rfl, v2, by simp only [yq81.down, zA, lemS.down, lemC.down, Int.reduceBEq, Nat.reduceAdd, Nat.reduceLeDiff, reduceIte, Nat.reduceEqDiff, Int.reduceLT, Int.reduceLE, Int.reduceGT, Int.reduceGE, Int.reduceEq, Int.reduceAdd, Int.reduceSub, Int.reduceMul, reduceCtorEq], ?_, Grows.new.then k2 (fun A hA q => by omega)⟩
    rw [Nat.zero_add, List.nil_append] at hO2
    exact hO2.mono fun A hA => by
      rcases hA with q | q
      · omega
      · have : (h.new []).next = h.next + 1 := rfl
        omega
theorem zUn {pr : Prog} (T : zCb pr) {h : Heap} {v : Value} {l : TagL} (hs : RdTags h v l) (hl : l.length ≤ 1000000) :
    ∃ v' h', cfi pr 50 [.agg [v].toArray] h = some (.agg [v'].toArray, h') ∧ Own h' (fun A => h.next ≤ A) 2 v' l.length (zk l) ∧ Grows h h' := by
  have : ∃ w h', cfi pr 50 [.agg [v].toArray] h = some (w, h') ∧ ∃ v', w = .agg [v'].toArray ∧ Own h' (fun A => h.next ≤ A) 2 v' l.length (zk l) ∧ Grows h h' := by
    refine zAg T.ccl T.cclC rfl ?_
    unfold xq50
    dsimp only [zc]
    refine wpk.out (k := []) ?_
    obtain ⟨g, hg, v0, gg, gn⟩ := box1 (h := h) (zEa hs.now).1
    obtain ⟨g1, hg1, v1, gg1, gn1⟩ := box1 (h := g) (v := .slice none 0 0) rfl
    have l0 : ∀ sp, g1.load ⟨h.next, 0, sp⟩ = some v := fun sp => (v0.grow gg1).load
    obtain ⟨v2, h2, e2, hO2, g2⟩ := zKJ T (hs.grow (gg.trans gg1)) hl
    have f1 : zt [.slice none 0 0] [(0, 1, v2)] = some [v2] := zEA hO2.cell
    have vB := v1.grow g2
    have st : zu h2 1 (.pointer (some ⟨g.next, 0, none⟩)) (.agg [v2].toArray) = some (.tuple #[], h2.wr g.next [v2]) := vB.storeAll rfl rfl (by decide) (by simp [hO2.one])
    (repeat (first | refine zS ?_ | refine zL ?_ | refine zR ?_ | refine zE ?_ | refine zC ?_ | refine zJ ?_ | refine zK ?_ | refine zP ?_ | refine zF ?_ | refine zH ?_ | refine zG ?_ | refine zI (by decide) ?_ | refine zQ ?_ | ((first | refine zD ?_ | refine zN ?_ | refine zT rfl rfl ?_ | refine zO rfl ?_ | refine zM ?_); simp only [yq50.down, zA, lemS.down, lemC.down, Int.reduceBEq, Nat.reduceAdd, Nat.reduceLeDiff, reduceIte, Nat.reduceEqDiff, Int.reduceLT, Int.reduceLE, Int.reduceGT, Int.reduceGE, Int.reduceEq, Int.reduceAdd, Int.reduceSub, Int.reduceMul, reduceCtorEq, lemH.down, zCG, hg, hg1, l0, Nat.add_zero, e2, f1, st])))
    exact ⟨.inr rfl, _, zER (a := ⟨g.next, 0, none⟩) (by simp only [yq50.down, zA, lemS.down, lemC.down, Int.reduceBEq, Nat.reduceAdd, Nat.reduceLeDiff, reduceIte, Nat.reduceEqDiff, Int.reduceLT, Int.reduceLE, Int.reduceGT, Int.reduceGE, Int.reduceEq, Int.reduceAdd, Int.reduceSub, Int.reduceMul, reduceCtorEq]) (vB.wr.loadAll rfl), v2, rfl, (hO2.keep Keeps.wr (fun A hA e => by omega)).mono (fun A hA => by omega), ((gg.trans gg1).trans g2).wr (by omega)⟩
  obtain ⟨w, h', e, v', rfl, r⟩ := this
  exact ⟨v', h', e, r⟩
def addT (l : TagL) (q : Int × List UInt8) : TagL := if isT l q.1 = true then l else l.take (zAM l q.1) ++ [q] ++ l.drop (zAM l q.1)
theorem zWU (l : TagL) (r : Int) : zAM l r ≤ l.length := by
  unfold zAM
  exact List.Sublist.length_le (List.takeWhile_sublist _)
theorem zUV {l : TagL} {q : Int × List UInt8} (hb : ∀ x ∈ l, inI x.1) (hq : inI q.1) : ∀ x ∈ addT l q, inI x.1 := by
  intro x hx
  unfold addT at hx
  split at hx
  · exact hb x hx
  · simp only [List.mem_append, List.mem_singleton] at hx
    rcases hx with (hx | rfl) | hx
    · exact hb x (List.mem_of_mem_take hx)
    · exact hq
    · exact hb x (List.mem_of_mem_drop hx)
theorem zVm {r : Int} {t : List UInt8} : zt [.int .i64 0, .string (zB [])] [(0, 2, .agg #[.int .i64 r, .string (zB t)])] = some [.int .i64 r, .string (zB t)] := rfl
set_option maxHeartbeats 1000000 in
theorem zEh {pr : Prog} (T : zCb pr) {h : Heap} {v : Value} {l : TagL} (hs : RdTags h v l) (ho : zBL l) (hl : l.length ≤ 1000000) {r : Int} {t : List UInt8} (hr : inI r) :
    ∃ v' h', cfi pr 48 [.agg [v].toArray, tagV r t] h = some (.agg [v'].toArray, h') ∧ Own h' (fun A => h.next ≤ A) 2 v' (addT l (r, t)).length (zk (addT l (r, t))) ∧ Grows h h' := by
  have hr64 : zU = 140737488355328 := rfl
  have : ∃ w h', cfi pr 48 [.agg [v].toArray, tagV r t] h = some (w, h') ∧ ∃ v', w = .agg [v'].toArray ∧ Own h' (fun A => h.next ≤ A) 2 v' (addT l (r, t)).length (zk (addT l (r, t))) ∧ Grows h h' := by
    refine zAg T.add T.addC rfl ?_
    unfold xq48
    dsimp only [zc]
    refine wpk.out (k := []) ?_
    obtain ⟨hb, _⟩ := zBT hs.now
    obtain ⟨g, hg, v0, gg, gn⟩ := box1 (h := h) (zEa hs.now).1
    obtain ⟨g1, hg1, v1, gg1⟩ : ∃ g1, g.new [.int .i64 r, .string (zB t)] = g1 ∧ Var g1 g.next [.int .i64 r, .string (zB t)] ∧ Grows g g1 := ⟨_, rfl, Var.new_self, Grows.new⟩
    have gn1 : g1.next = h.next + 2 := by rw [← hg1]; show g.next + 1 = _; omega
    obtain ⟨g2, hg2, v2, gg2, gn2⟩ := box1 (h := g1) (v := .slice none 0 0) rfl
    rw [show g1.next = g.next + 1 by rw [← hg1]; rfl] at v2
    have gAll := (gg.trans gg1).trans gg2
    have hs2 := hs.grow gAll
    have a0 := v0.grow (gg1.trans gg2)
    have a1 := v1.grow gg2
    have l0 : ∀ sp, g2.loadN ⟨h.next, 0, sp⟩ 1 = some [v] := fun sp => a0.loadAll rfl
    have l0' : ∀ sp, g2.load ⟨h.next, 0, sp⟩ = some v := fun sp => a0.load
    have l1 : ∀ sp, g2.load ⟨g.next, 0, sp⟩ = some (.int .i64 r) := fun sp => a1.load
    have e4 : g1.next = g.next + 1 := by rw [← hg1]; rfl
    have l2a : ∀ sp, g2.loadN ⟨g.next, 0, sp⟩ 2 = some [.int .i64 r, .string (zB t)] := fun sp => a1.loadAll rfl
    have fd := zq T.find (findG_at (r := r) hs2.now ho hl)
    cases hi : isT l r
    · rw [hi] at fd
      obtain ⟨w1, h1, e1, hO1, k1⟩ := zKJ T hs2 hl
      have l2 : ∀ sp, h1.loadN ⟨g.next, 0, sp⟩ 2 = some [.int .i64 r, .string (zB t)] := fun sp => (a1.grow k1).loadAll rfl
      have hpl := zWU l r
      obtain ⟨w2, h2, e2, hO2, k2⟩ := hO1.insert (bytes := 24) (m := 1) (lit := [.int .i64 r, .string (zB t)]) rfl (by decide) rfl (zIz l) (by decide) (by decide) (by omega) hpl
      have e2 : cfi pr 80 [w1, .int .i64 (zAM l r : Int), .slice (some ⟨h1.next, 0, none⟩) 1 1] (h1.new [.int .i64 r, .string (zB t)]) = some (w2, h2) := zF3 T.ins e2
      have f1 : zt [.slice none 0 0] [(0, 1, w2)] = some [w2] := zEA hO2.cell
      have kk := k1.trans (Grows.new (l := [.int .i64 r, .string (zB t)]))
      have vB := (v2.grow kk).keep k2 (fun q => by omega)
      have st : zu h2 1 (.pointer (some ⟨g.next + 1, 0, none⟩)) (.agg [w2].toArray) = some (.tuple #[], h2.wr (g.next + 1) [w2]) := vB.storeAll rfl rfl (by decide) (by simp [hO2.one])
      have gF : Grows h h2 := (gAll.trans kk).then k2 (fun A hA q => by omega)
      have l2b : ∀ sp, (h1.new [.int .i64 r, .string (zB t)]).loadN ⟨g.next, 0, sp⟩ 2 = some [.int .i64 r, .string (zB t)] := fun sp => (a1.grow kk).loadAll rfl
      (repeat (first | refine zS ?_ | refine zL ?_ | refine zR ?_ | refine zE ?_ | refine zC ?_ | refine zJ ?_ | refine zK ?_ | refine zP ?_ | refine zF ?_ | refine zH ?_ | refine zG ?_ | refine zI (by decide) ?_ | refine zQ ?_ | ((first | refine zD ?_ | refine zN ?_ | refine zT rfl rfl ?_ | refine zO rfl ?_ | refine zEg rfl ?_ | refine zM ?_); simp only [yq48.down, zA, lemS.down, lemC.down, Int.reduceBEq, Nat.reduceAdd, Nat.reduceLeDiff, reduceIte, Nat.reduceEqDiff, Int.reduceLT, Int.reduceLE, Int.reduceGT, Int.reduceGE, Int.reduceEq, Int.reduceAdd, Int.reduceSub, Int.reduceMul, reduceCtorEq, lemH.down, zCG, zD0, hg, hg1, hg2, l0, l1, fd, l0', Nat.add_zero, e1, l2, zVm, e2, f1, st])))
      refine ⟨?_, ?_, ?_⟩
      · (refine zAa rfl rfl rfl ?_ ?_ <;> simp only [yq48.down, zA, lemS.down, lemC.down, Int.reduceBEq, Nat.reduceAdd, Nat.reduceLeDiff, reduceIte, Nat.reduceEqDiff, Int.reduceLT, Int.reduceLE, Int.reduceGT, Int.reduceGE, Int.reduceEq, Int.reduceAdd, Int.reduceSub, Int.reduceMul, reduceCtorEq, l2a, l2, zAH, zAE, zAI, zAF, zAD, Option.isSome_some])
      · (refine zAa rfl rfl rfl ?_ ?_ <;> simp only [yq48.down, zA, lemS.down, lemC.down, Int.reduceBEq, Nat.reduceAdd, Nat.reduceLeDiff, reduceIte, Nat.reduceEqDiff, Int.reduceLT, Int.reduceLE, Int.reduceGT, Int.reduceGE, Int.reduceEq, Int.reduceAdd, Int.reduceSub, Int.reduceMul, reduceCtorEq, l2b, l2, zAH, zAE, zAI, zAF, zAD, Option.isSome_some])
      (repeat (first | refine zS ?_ | refine zL ?_ | refine zR ?_ | refine zE ?_ | refine zC ?_ | refine zJ ?_ | refine zK ?_ | refine zP ?_ | refine zF ?_ | refine zH ?_ | refine zG ?_ | refine zI (by decide) ?_ | refine zQ ?_ | ((first | refine zD ?_ | refine zN ?_ | refine zT rfl rfl ?_ | refine zO rfl ?_ | refine zM ?_); simp only [yq48.down, zA, lemS.down, lemC.down, Int.reduceBEq, Nat.reduceAdd, Nat.reduceLeDiff, reduceIte, Nat.reduceEqDiff, Int.reduceLT, Int.reduceLE, Int.reduceGT, Int.reduceGE, Int.reduceEq, Int.reduceAdd, Int.reduceSub, Int.reduceMul, reduceCtorEq, lemH.down, f1, st])))
      refine ⟨.inr rfl, _, zER (a := ⟨g.next + 1, 0, none⟩) (by simp only [yq48.down, zA, lemS.down, lemC.down, Int.reduceBEq, Nat.reduceAdd, Nat.reduceLeDiff, reduceIte, Nat.reduceEqDiff, Int.reduceLT, Int.reduceLE, Int.reduceGT, Int.reduceGE, Int.reduceEq, Int.reduceAdd, Int.reduceSub, Int.reduceMul, reduceCtorEq]) (vB.wr.loadAll rfl), w2, rfl, ?_, gF.wr (by omega)⟩
      have ea : addT l (r, t) = l.take (zAM l r) ++ [(r, t)] ++ l.drop (zAM l r) := by unfold addT; rw [if_neg (by rw [hi]; decide)]
      have ec : (zk l).take (zAM l r * 2) ++ [.int .i64 r, .string (zB t)] ++ (zk l).drop (zAM l r * 2) = zk (addT l (r, t)) := by
        rw [ea, zI0, zI0, zUy, zI1]
        rfl
      rw [ec] at hO2
      have kn := k1.next
      have el : (addT l (r, t)).length = l.length + 1 := by
        rw [ea]
        simp only [List.length_append, List.length_take, List.length_drop, List.length_singleton]
        omega
      rw [el]
      exact (hO2.keep Keeps.wr (fun A hA e => by rcases hA with q | q <;> omega)).mono (fun A hA => by rcases hA with q | q <;> omega)
    · rw [hi] at fd
      obtain ⟨w1, h1, e1, hO1, k1⟩ := zUn T hs2 hl
      have vB := v2.grow k1
      have st : zu h1 1 (.pointer (some ⟨g.next + 1, 0, none⟩)) (.agg [w1].toArray) = some (.tuple #[], h1.wr (g.next + 1) [w1]) := vB.storeAll rfl rfl (by decide) (by simp [hO1.one])
      (repeat (first | refine zS ?_ | refine zL ?_ | refine zR ?_ | refine zE ?_ | refine zC ?_ | refine zJ ?_ | refine zK ?_ | refine zP ?_ | refine zF ?_ | refine zH ?_ | refine zG ?_ | refine zI (by decide) ?_ | refine zQ ?_ | ((first | refine zD ?_ | refine zN ?_ | refine zT rfl rfl ?_ | refine zO rfl ?_ | refine zEg rfl ?_ | refine zM ?_); simp only [yq48.down, zA, lemS.down, lemC.down, Int.reduceBEq, Nat.reduceAdd, Nat.reduceLeDiff, reduceIte, Nat.reduceEqDiff, Int.reduceLT, Int.reduceLE, Int.reduceGT, Int.reduceGE, Int.reduceEq, Int.reduceAdd, Int.reduceSub, Int.reduceMul, reduceCtorEq, lemH.down, zCG, zD0, hg, hg1, hg2, l0, l1, fd, l0', e1, st])))
      refine ⟨.inr rfl, _, zER (a := ⟨g.next + 1, 0, none⟩) (by simp only [yq48.down, zA, lemS.down, lemC.down, Int.reduceBEq, Nat.reduceAdd, Nat.reduceLeDiff, reduceIte, Nat.reduceEqDiff, Int.reduceLT, Int.reduceLE, Int.reduceGT, Int.reduceGE, Int.reduceEq, Int.reduceAdd, Int.reduceSub, Int.reduceMul, reduceCtorEq]) (vB.wr.loadAll rfl), w1, rfl, ?_, (gAll.trans k1).wr (by omega)⟩
      have : addT l (r, t) = l := by unfold addT; rw [if_pos hi]
      rw [this]
      exact (hO1.keep Keeps.wr (fun A hA e => by omega)).mono (fun A hA => by omega)
  obtain ⟨w, h', e, v', rfl, r⟩ := this
  exact ⟨v', h', e, r⟩
theorem zIR {pr : Prog} (T : zCb pr) {h : Heap} {v : Value} {l : TagL} (hs : RdTags h v l) (ho : zBL l) (hl : l.length ≤ 1000000) {r : Int} {t : List UInt8} (hr : inI r) :
    ∃ v' h', cfi pr 48 [.agg [v].toArray, tagV r t] h = some (.agg [v'].toArray, h') ∧ RdTags h' v' (addT l (r, t)) ∧ Grows h h' := by
  obtain ⟨hb, _⟩ := zBT hs.now
  obtain ⟨v', h', e, o, g⟩ := zEh T hs ho hl hr
  exact ⟨v', h', e, o.rdTags (zUV hb hr), g⟩
end Go.X
end
section
open Go Go.X
namespace Go.X
set_option linter.unusedVariables false
def zA2 (ks : List Int) : List (Value × Value) := ks.map fun k => (.int .i64 k, .bool true)
def MapAt (h : Heap) (r : Nat) (es : List (Value × Value)) : Prop := h.blks.get r = some (.map es)
theorem zEr : ∀ (ks : List Int) (x : Int) (i : Nat), (x ∉ ks → zBZ .int (.int .i64 x) (zA2 ks) i = some none) ∧ (x ∈ ks → ∃ j, zBZ .int (.int .i64 x) (zA2 ks) i = some (some (j, .bool true)))
  | [], x, i => ⟨fun _ => rfl, fun h => by simp at h⟩
  | k :: ks, x, i => by
    have ih := zEr ks x (i + 1)
    unfold zA2 at ih ⊢
    simp only [List.map_cons, zBZ, eqX_i]
    by_cases e : x = k
    · subst e
      simp
    · have hb : (x == k) = false := by rw [beq_eq_false_iff_ne]; exact e
      rw [hb]
      refine ⟨fun h => ?_, fun h => ?_⟩
      · exact ih.1 (fun q => h (by simp [q]))
      · rcases List.mem_cons.1 h with q | q
        · exact absurd q e
        · exact ih.2 q
def zE1 (h : Heap) (z : Value) (ok : Bool) (k : EqK) (m key : Value) : Option Value := match m with
  | .map none => some (if ok then .tuple #[z, .bool false] else z)
  | .map (some r) => (match h.blks.get r with
    | some (.map es) => (match zBZ k key es 0 with
      | some (some (_, v)) => some (if ok then .tuple #[v, .bool true] else v)
      | some none => some (if ok then .tuple #[z, .bool false] else z)
      | none => none)
    | _ => none)
  | _ => none
theorem zKA {t : Fr} {h : Heap} {z : Value} {ok : Bool} {k : EqK} {m key : Operand} : zn t h (.lookup z ok k m key) = zE1 h z ok k (t.eval m) (t.eval key) := by
  simp only [zn, zE1]
  cases t.eval m <;> first | rfl | (rename_i r; cases r <;> rfl)
theorem zWC {h : Heap} {r : Nat} {ks : List Int} (hm : MapAt h r (zA2 ks)) (x : Int) : zE1 h (.bool false) false .int (.map (some r)) (.int .i64 x) = some (.bool (ks.contains x)) := by
  unfold MapAt at hm
  simp only [zE1, hm]
  by_cases hx : x ∈ ks
  · obtain ⟨j, e⟩ := (zEr ks x 0).2 hx
    rw [e]
    simp [hx]
  · rw [(zEr ks x 0).1 hx]
    simp [hx]
def mupdV (h : Heap) (k : EqK) (m key v : Value) : Option (Value × Heap) := match m with
  | .map (some r) => match h.blks.get r with
    | some (.map es) => (match zBZ k key es 0 with
      | some (some (i, _)) => some (.tuple #[], h.setBlk r (.map (es.set i (key, v))))
      | some none => some (.tuple #[], h.setBlk r (.map (es ++ [(key, v)])))
      | none => none)
    | _ => none
  | _ => none
theorem zJB {t : Fr} {h : Heap} {k : EqK} {m key v : Operand} : effX t h (.mupd k m key v) = mupdV h k (t.eval m) (t.eval key) (t.eval v) := by
  simp only [effX, mupdV]
  cases t.eval m <;> first | rfl | (rename_i r; cases r <;> rfl)
theorem zWN {h : Heap} {r : Nat} {ks : List Int} (hm : MapAt h r (zA2 ks)) {x : Int} (hx : x ∉ ks) : mupdV h .int (.map (some r)) (.int .i64 x) (.bool true) = some (.tuple #[], h.setBlk r (.map (zA2 (ks ++ [x])))) := by
  unfold MapAt at hm
  simp only [mupdV, hm, (zEr ks x 0).1 hx]
  simp [zA2]
theorem MapAt.set {h : Heap} {r : Nat} {es : List (Value × Value)} : MapAt (h.setBlk r (.map es)) r es := PT.get_set_eq _ _ _
theorem Keeps.setMap {h : Heap} {r : Nat} {b : Blk} : Keeps (fun A => A = r) h (h.setBlk r b) := ⟨Nat.le_refl _, fun A _ hn => PT.get_set_ne _ _ hn, fun A _ _ => rfl⟩
theorem zWO {h : Heap} : h.newMap.next = h.next + 1 := rfl
theorem Grows.newMap {h : Heap} : Grows h h.newMap := ⟨Nat.le_succ _, fun A hA => PT.get_set_ne _ _ (by omega), fun A _ => rfl⟩
theorem MapAt.keep {h h' : Heap} {r : Nat} {es : List (Value × Value)} {K : Nat → Prop} (hm : MapAt h r es) (hr : r < h.next) (hk : Keeps K h h') (hn : ¬ K r) : MapAt h' r es := by
  unfold MapAt
  rw [hk.blks r hr hn]
  exact hm
theorem val_map {id : Nat} : Mk.val id .map = .map (some id) := rfl
theorem al_mkmap {t : Fr} : zAf t .mkmap = some (.map, .map) := rfl
def zEL : List Value → Option Value
  | [.int .i64 n] => if 0 ≤ n ∧ n ≤ 1000000 then some (.int .i64 (n / 2 + 1)) else none
  | _ => none
theorem most_ok (pr : Prog) (n : Int) (h0 : 0 ≤ n ∧ n ≤ 1000000) (h : Heap) : Comes pr xq102 [.int .i64 n] h (.int .i64 (n / 2 + 1)) := by
  apply Comes.of
  unfold xq102
  dsimp only [zc]
  have q := zIp (k := .i64) (a := n) (b := 2) (by decide)
  rw [Int.tdiv_eq_ediv_of_nonneg h0.1, wrap_i64 (by omega) (by omega)] at q
  have w : IntKind.i64.wrap (n / 2 + 1) = n / 2 + 1 := wrap_i64 (by omega) (by omega)
  (repeat (first | refine zS ?_ | refine zL ?_ | refine zR ?_ | refine zE ?_ | refine zC ?_ | refine zJ ?_ | refine zK ?_ | refine zP ?_ | refine zF ?_ | refine zH ?_ | refine zG ?_ | refine zI (by decide) ?_ | refine zQ ?_ | ((first | refine zD ?_ | refine zN ?_ | refine zT rfl rfl ?_ | refine zO rfl ?_ | refine zM ?_); simp only [yq102.down, zA, lemS.down, lemC.down, Int.reduceBEq, Nat.reduceAdd, Nat.reduceLeDiff, reduceIte, Nat.reduceEqDiff, Int.reduceLT, Int.reduceLE, Int.reduceGT, Int.reduceGE, Int.reduceEq, Int.reduceAdd, Int.reduceSub, Int.reduceMul, reduceCtorEq, q, w])))
  exact ⟨.inr rfl, by simp only [yq102.down, zA, lemS.down, lemC.down, Int.reduceBEq, Nat.reduceAdd, Nat.reduceLeDiff, reduceIte, Nat.reduceEqDiff, Int.reduceLT, Int.reduceLE, Int.reduceGT, Int.reduceGE, Int.reduceEq, Int.reduceAdd, Int.reduceSub, Int.reduceMul, reduceCtorEq], Grows.refl h⟩
def zBO (ms ks : List Int) : Bool := decide (0 < ms.length) && decide (ms.length / 2 + 1 ≤ (ms.filter (fun m => ks.contains m)).length)
def zDQ : List (Value × Value) → Option (List Int)
  | [] => some []
  | (.int .i64 k, .bool true) :: r => match zDQ r with | some l => some (k :: l) | none => none
  | _ :: _ => none
theorem zJh : ∀ ks : List Int, zDQ (zA2 ks) = some ks
  | [] => rfl
  | k :: ks => by
    have := zJh ks
    unfold zA2 at this ⊢
    simp only [List.map_cons, zDQ, this]
theorem zJg : ∀ {es : List (Value × Value)} {ks : List Int}, zDQ es = some ks → es = zA2 ks
  | [], ks, h => by cases h; rfl
  | e :: es, ks, h => by
    unfold zDQ at h
    split at h
    · rename_i heq; cases heq
    · rename_i k r heq
      cases heq
      split at h
      · rename_i l hl
        cases h
        rw [zJg hl]
        rfl
      · cases h
    · cases h
def zEK : Prim := fun args h => match args with
  | [mv, .map (some r)] => match zw h mv, h.blks.get r with
    | some ms, some (.map es) => match zDQ es with
      | some ks => if ms.length ≤ 1000000 then some (.bool (zBO ms ks), h) else none
      | none => none
    | _, _ => none
  | _ => none
theorem mostG_at {h : Heap} {mv : Value} {r : Nat} {ms ks : List Int} (hs : zw h mv = some ms) (hm : MapAt h r (zA2 ks)) (hl : ms.length ≤ 1000000) : zEK [mv, .map (some r)] h = some (.bool (zBO ms ks), h) := by
  unfold MapAt at hm
  simp only [zEK, hs, hm, zJh]
  rw [if_pos hl]
theorem cmost_ok (pr : Prog) (hh : pr.prim 102 = some (za zEL)) (h : Heap) (mv : Value) (r : Nat) (ms ks : List Int) (hs : zw h mv = some ms) (hm : MapAt h r (zA2 ks)) (hl : ms.length ≤ 1000000) : Comes pr xq83 [mv, .map (some r)] h (.bool (zBO ms ks)) := by
  apply Comes.of
  unfold xq83
  dsimp only [zc]
  obtain ⟨hb, a, cap, rfl, hel⟩ := zB3 hs
  (repeat (first | refine zS ?_ | refine zL ?_ | refine zR ?_ | refine zE ?_ | refine zC ?_ | refine zJ ?_ | refine zK ?_ | refine zP ?_ | refine zF ?_ | refine zH ?_ | refine zG ?_ | refine zI (by decide) ?_ | refine zQ ?_ | ((first | refine zD ?_ | refine zN ?_ | refine zT rfl rfl ?_ | refine zO rfl ?_ | refine zM ?_); simp only [yq83.down, zA, lemS.down, lemC.down, Int.reduceBEq, Nat.reduceAdd, Nat.reduceLeDiff, reduceIte, Nat.reduceEqDiff, Int.reduceLT, Int.reduceLE, Int.reduceGT, Int.reduceGE, Int.reduceEq, Int.reduceAdd, Int.reduceSub, Int.reduceMul, reduceCtorEq, lemH.down])))
  refine zo (fun m t g => ∃ i, m = ms.length - i ∧ i ≤ ms.length ∧ g = h ∧ t.get 0 = .slice a ms.length cap ∧ t.get 1 = .map (some r) ∧ t.get 5 = .int .i64 (((ms.take i).filter (fun m => ks.contains m)).length : Int) ∧ t.get 8 = .slice a ms.length cap ∧ t.get 9 = .int .i64 (ms.length : Int) ∧ t.get 10 = .int .i64 (i : Int)) ?_ ms.length _ _ ⟨0, rfl, by omega, rfl, by simp only [yq83.down, zA, lemS.down, lemC.down, Int.reduceBEq, Nat.reduceAdd, Nat.reduceLeDiff, reduceIte, Nat.reduceEqDiff, Int.reduceLT, Int.reduceLE, Int.reduceGT, Int.reduceGE, Int.reduceEq, Int.reduceAdd, Int.reduceSub, Int.reduceMul, reduceCtorEq], by simp only [yq83.down, zA, lemS.down, lemC.down, Int.reduceBEq, Nat.reduceAdd, Nat.reduceLeDiff, reduceIte, Nat.reduceEqDiff, Int.reduceLT, Int.reduceLE, Int.reduceGT, Int.reduceGE, Int.reduceEq, Int.reduceAdd, Int.reduceSub, Int.reduceMul, reduceCtorEq], by (simp only [yq83.down, zA, lemS.down, lemC.down, Int.reduceBEq, Nat.reduceAdd, Nat.reduceLeDiff, reduceIte, Nat.reduceEqDiff, Int.reduceLT, Int.reduceLE, Int.reduceGT, Int.reduceGE, Int.reduceEq, Int.reduceAdd, Int.reduceSub, Int.reduceMul, reduceCtorEq]) <;> rfl, by simp only [yq83.down, zA, lemS.down, lemC.down, Int.reduceBEq, Nat.reduceAdd, Nat.reduceLeDiff, reduceIte, Nat.reduceEqDiff, Int.reduceLT, Int.reduceLE, Int.reduceGT, Int.reduceGE, Int.reduceEq, Int.reduceAdd, Int.reduceSub, Int.reduceMul, reduceCtorEq], by simp only [yq83.down, zA, lemS.down, lemC.down, Int.reduceBEq, Nat.reduceAdd, Nat.reduceLeDiff, reduceIte, Nat.reduceEqDiff, Int.reduceLT, Int.reduceLE, Int.reduceGT, Int.reduceGE, Int.reduceEq, Int.reduceAdd, Int.reduceSub, Int.reduceMul, reduceCtorEq], by (simp only [yq83.down, zA, lemS.down, lemC.down, Int.reduceBEq, Nat.reduceAdd, Nat.reduceLeDiff, reduceIte, Nat.reduceEqDiff, Int.reduceLT, Int.reduceLE, Int.reduceGT, Int.reduceGE, Int.reduceEq, Int.reduceAdd, Int.reduceSub, Int.reduceMul, reduceCtorEq]) <;> rfl⟩
  rintro m t g ⟨i, rfl, hi, rfl, t0, t1, t5, t8, t9, t10⟩ hnext
  refine xq83_8k ?_
  dsimp only [zID]
  (repeat (first | refine zS ?_ | refine zL ?_ | refine zR ?_ | refine zE ?_ | refine zC ?_ | refine zJ ?_ | refine zK ?_ | refine zP ?_ | refine zF ?_ | refine zH ?_ | refine zG ?_ | refine zI (by decide) ?_ | refine zQ ?_ | ((first | refine zD ?_ | refine zN ?_ | refine zT rfl rfl ?_ | refine zO rfl ?_ | refine zM ?_); simp only [yq83.down, zA, lemS.down, lemC.down, Int.reduceBEq, Nat.reduceAdd, Nat.reduceLeDiff, reduceIte, Nat.reduceEqDiff, Int.reduceLT, Int.reduceLE, Int.reduceGT, Int.reduceGE, Int.reduceEq, Int.reduceAdd, Int.reduceSub, Int.reduceMul, reduceCtorEq, lemH.down, t0, t1, t5, t8, t9, t10])))
  refine ⟨fun hlt => ?_, fun hge => ?_⟩
  · have hi' : i < ms.length := by omega
    obtain ⟨B, o, ia, ld⟩ := hel i hi'
    have ld : ∀ sp, g.load ⟨B, o, sp⟩ = some (.int .i64 (ms.getD i 0)) := fun sp => ld
    have lk := zWC hm (ms.getD i 0)
    have ww : IntKind.i64.wrap ((i : Int) + 1) = ((i + 1 : Nat) : Int) := by rw [wrap_i64 (by omega) (by omega)]; omega
    have hle : ((ms.take i).filter (fun m => ks.contains m)).length ≤ ms.length := Nat.le_trans (List.length_filter_le _ _) (by rw [List.length_take]; omega)
    have w5 : IntKind.i64.wrap ((((ms.take i).filter (fun m => ks.contains m)).length : Int) + 1) = ((((ms.take i).filter (fun m => ks.contains m)).length + 1 : Nat) : Int) := by rw [wrap_i64 (by omega) (by omega)]; omega
    have ht : ms.take (i + 1) = ms.take i ++ [ms.getD i 0] := by
      rw [List.take_succ_eq_append_getElem hi']
      simp [List.getD_eq_getElem?_getD, List.getElem?_eq_getElem hi']
    cases hc : ks.contains (ms.getD i 0)
    · rw [hc] at lk
      (repeat (first | refine zS ?_ | refine zL ?_ | refine zR ?_ | refine zE ?_ | refine zC ?_ | refine zJ ?_ | refine zK ?_ | refine zP ?_ | refine zF ?_ | refine zH ?_ | refine zG ?_ | refine zI (by decide) ?_ | refine zQ ?_ | ((first | refine zD ?_ | refine zN ?_ | refine zT rfl rfl ?_ | refine zO rfl ?_ | refine zM ?_); simp only [yq83.down, zA, lemS.down, lemC.down, Int.reduceBEq, Nat.reduceAdd, Nat.reduceLeDiff, reduceIte, Nat.reduceEqDiff, Int.reduceLT, Int.reduceLE, Int.reduceGT, Int.reduceGE, Int.reduceEq, Int.reduceAdd, Int.reduceSub, Int.reduceMul, reduceCtorEq, lemH.down, t0, t1, t5, t8, t9, t10, zAG, ia, ld, zKA, lk, ww])))
      exact hnext (ms.length - (i + 1)) _ g (by omega) ⟨i + 1, rfl, by omega, rfl, by simp only [yq83.down, zA, lemS.down, lemC.down, Int.reduceBEq, Nat.reduceAdd, Nat.reduceLeDiff, reduceIte, Nat.reduceEqDiff, Int.reduceLT, Int.reduceLE, Int.reduceGT, Int.reduceGE, Int.reduceEq, Int.reduceAdd, Int.reduceSub, Int.reduceMul, reduceCtorEq, t0], by simp only [yq83.down, zA, lemS.down, lemC.down, Int.reduceBEq, Nat.reduceAdd, Nat.reduceLeDiff, reduceIte, Nat.reduceEqDiff, Int.reduceLT, Int.reduceLE, Int.reduceGT, Int.reduceGE, Int.reduceEq, Int.reduceAdd, Int.reduceSub, Int.reduceMul, reduceCtorEq, t1], by rw [ht, List.filter_append, List.filter_cons_of_neg (by rw [hc]; decide), List.filter_nil, List.append_nil]; simp only [yq83.down, zA, lemS.down, lemC.down, Int.reduceBEq, Nat.reduceAdd, Nat.reduceLeDiff, reduceIte, Nat.reduceEqDiff, Int.reduceLT, Int.reduceLE, Int.reduceGT, Int.reduceGE, Int.reduceEq, Int.reduceAdd, Int.reduceSub, Int.reduceMul, reduceCtorEq, t5], by simp only [yq83.down, zA, lemS.down, lemC.down, Int.reduceBEq, Nat.reduceAdd, Nat.reduceLeDiff, reduceIte, Nat.reduceEqDiff, Int.reduceLT, Int.reduceLE, Int.reduceGT, Int.reduceGE, Int.reduceEq, Int.reduceAdd, Int.reduceSub, Int.reduceMul, reduceCtorEq, t8], by simp only [yq83.down, zA, lemS.down, lemC.down, Int.reduceBEq, Nat.reduceAdd, Nat.reduceLeDiff, reduceIte, Nat.reduceEqDiff, Int.reduceLT, Int.reduceLE, Int.reduceGT, Int.reduceGE, Int.reduceEq, Int.reduceAdd, Int.reduceSub, Int.reduceMul, reduceCtorEq, t9], by simp only [yq83.down, zA, lemS.down, lemC.down, Int.reduceBEq, Nat.reduceAdd, Nat.reduceLeDiff, reduceIte, Nat.reduceEqDiff, Int.reduceLT, Int.reduceLE, Int.reduceGT, Int.reduceGE, Int.reduceEq, Int.reduceAdd, Int.reduceSub, Int.reduceMul, reduceCtorEq]⟩
    · rw [hc] at lk
      (repeat (first | refine zS ?_ | refine zL ?_ | refine zR ?_ | refine zE ?_ | refine zC ?_ | refine zJ ?_ | refine zK ?_ | refine zP ?_ | refine zF ?_ | refine zH ?_ | refine zG ?_ | refine zI (by decide) ?_ | refine zQ ?_ | ((first | refine zD ?_ | refine zN ?_ | refine zT rfl rfl ?_ | refine zO rfl ?_ | refine zM ?_); simp only [yq83.down, zA, lemS.down, lemC.down, Int.reduceBEq, Nat.reduceAdd, Nat.reduceLeDiff, reduceIte, Nat.reduceEqDiff, Int.reduceLT, Int.reduceLE, Int.reduceGT, Int.reduceGE, Int.reduceEq, Int.reduceAdd, Int.reduceSub, Int.reduceMul, reduceCtorEq, lemH.down, t0, t1, t5, t8, t9, t10, zAG, ia, ld, zKA, lk, ww, w5])))
      exact hnext (ms.length - (i + 1)) _ g (by omega) ⟨i + 1, rfl, by omega, rfl, by simp only [yq83.down, zA, lemS.down, lemC.down, Int.reduceBEq, Nat.reduceAdd, Nat.reduceLeDiff, reduceIte, Nat.reduceEqDiff, Int.reduceLT, Int.reduceLE, Int.reduceGT, Int.reduceGE, Int.reduceEq, Int.reduceAdd, Int.reduceSub, Int.reduceMul, reduceCtorEq, t0], by simp only [yq83.down, zA, lemS.down, lemC.down, Int.reduceBEq, Nat.reduceAdd, Nat.reduceLeDiff, reduceIte, Nat.reduceEqDiff, Int.reduceLT, Int.reduceLE, Int.reduceGT, Int.reduceGE, Int.reduceEq, Int.reduceAdd, Int.reduceSub, Int.reduceMul, reduceCtorEq, t1], by rw [ht, List.filter_append, List.filter_cons_of_pos (by rw [hc]), List.filter_nil, List.length_append, List.length_singleton]; simp only [yq83.down, zA, lemS.down, lemC.down, Int.reduceBEq, Nat.reduceAdd, Nat.reduceLeDiff, reduceIte, Nat.reduceEqDiff, Int.reduceLT, Int.reduceLE, Int.reduceGT, Int.reduceGE, Int.reduceEq, Int.reduceAdd, Int.reduceSub, Int.reduceMul, reduceCtorEq], by simp only [yq83.down, zA, lemS.down, lemC.down, Int.reduceBEq, Nat.reduceAdd, Nat.reduceLeDiff, reduceIte, Nat.reduceEqDiff, Int.reduceLT, Int.reduceLE, Int.reduceGT, Int.reduceGE, Int.reduceEq, Int.reduceAdd, Int.reduceSub, Int.reduceMul, reduceCtorEq, t8], by simp only [yq83.down, zA, lemS.down, lemC.down, Int.reduceBEq, Nat.reduceAdd, Nat.reduceLeDiff, reduceIte, Nat.reduceEqDiff, Int.reduceLT, Int.reduceLE, Int.reduceGT, Int.reduceGE, Int.reduceEq, Int.reduceAdd, Int.reduceSub, Int.reduceMul, reduceCtorEq, t9], by simp only [yq83.down, zA, lemS.down, lemC.down, Int.reduceBEq, Nat.reduceAdd, Nat.reduceLeDiff, reduceIte, Nat.reduceEqDiff, Int.reduceLT, Int.reduceLE, Int.reduceGT, Int.reduceGE, Int.reduceEq, Int.reduceAdd, Int.reduceSub, Int.reduceMul, reduceCtorEq]⟩
  · obtain rfl : i = ms.length := by omega
    rw [List.take_length] at t5
    have hm1 := zf (h := g) hh (s := zEL) (args := [.int .i64 (ms.length : Int)]) (v := .int .i64 ((ms.length : Int) / 2 + 1)) (by simp only [zEL]; rw [if_pos ⟨by omega, by omega⟩])
    unfold zBO
    by_cases h0 : 0 < ms.length
    · have d1 : decide ((ms.length : Int) > 0) = true := decide_eq_true (by omega)
      have d2 : decide (0 < ms.length) = true := by simpa using h0
      have d3 : decide (((ms.filter (fun m => ks.contains m)).length : Int) ≥ (ms.length : Int) / 2 + 1) = decide (ms.length / 2 + 1 ≤ (ms.filter (fun m => ks.contains m)).length) := by
        generalize (ms.filter (fun m => ks.contains m)).length = c
        rw [Bool.eq_iff_iff]
        simp only [ge_iff_le, decide_eq_true_eq]
        omega
      rw [d2, Bool.true_and]
      (repeat (first | refine zS ?_ | refine zL ?_ | refine zR ?_ | refine zE ?_ | refine zC ?_ | refine zJ ?_ | refine zK ?_ | refine zP ?_ | refine zF ?_ | refine zH ?_ | refine zG ?_ | refine zI (by decide) ?_ | refine zQ ?_ | ((first | refine zD ?_ | refine zN ?_ | refine zT rfl rfl ?_ | refine zO rfl ?_ | refine zM ?_); simp only [yq83.down, zA, lemS.down, lemC.down, Int.reduceBEq, Nat.reduceAdd, Nat.reduceLeDiff, reduceIte, Nat.reduceEqDiff, Int.reduceLT, Int.reduceLE, Int.reduceGT, Int.reduceGE, Int.reduceEq, Int.reduceAdd, Int.reduceSub, Int.reduceMul, reduceCtorEq, lemH.down, t0, t1, t5, t8, t9, t10, d1, hm1, d3])))
      exact ⟨.inr rfl, by simp only [yq83.down, zA, lemS.down, lemC.down, Int.reduceBEq, Nat.reduceAdd, Nat.reduceLeDiff, reduceIte, Nat.reduceEqDiff, Int.reduceLT, Int.reduceLE, Int.reduceGT, Int.reduceGE, Int.reduceEq, Int.reduceAdd, Int.reduceSub, Int.reduceMul, reduceCtorEq], Grows.refl _⟩
    · have d1 : decide ((ms.length : Int) > 0) = false := decide_eq_false (by omega)
      have d2 : decide (0 < ms.length) = false := by simpa using h0
      rw [d2, Bool.false_and]
      (repeat (first | refine zS ?_ | refine zL ?_ | refine zR ?_ | refine zE ?_ | refine zC ?_ | refine zJ ?_ | refine zK ?_ | refine zP ?_ | refine zF ?_ | refine zH ?_ | refine zG ?_ | refine zI (by decide) ?_ | refine zQ ?_ | ((first | refine zD ?_ | refine zN ?_ | refine zT rfl rfl ?_ | refine zO rfl ?_ | refine zM ?_); simp only [yq83.down, zA, lemS.down, lemC.down, Int.reduceBEq, Nat.reduceAdd, Nat.reduceLeDiff, reduceIte, Nat.reduceEqDiff, Int.reduceLT, Int.reduceLE, Int.reduceGT, Int.reduceGE, Int.reduceEq, Int.reduceAdd, Int.reduceSub, Int.reduceMul, reduceCtorEq, lemH.down, t0, t1, t5, t8, t9, t10, d1, zAS])))
      exact ⟨.inr rfl, by simp only [yq83.down, zA, lemS.down, lemC.down, Int.reduceBEq, Nat.reduceAdd, Nat.reduceLeDiff, reduceIte, Nat.reduceEqDiff, Int.reduceLT, Int.reduceLE, Int.reduceGT, Int.reduceGE, Int.reduceEq, Int.reduceAdd, Int.reduceSub, Int.reduceMul, reduceCtorEq], Grows.refl _⟩
end Go.X
end
section
open Go Go.X
namespace Go.X
set_option linter.unusedVariables false
def zAR (keys : List (List UInt8)) (x : Hdr) (l : TagL) (i : Nat) : Bool := !(decide (0 < i) && decide ((l.getD (i - 1) (0, [])).1 ≥ (l.getD i (0, [])).1)) && zA7 keys x (l.getD i (0, [])).1 (l.getD i (0, [])).2
def zBj (keys : List (List UInt8)) (x : Hdr) (l : TagL) (ms : List Int) : Nat :=
  if zA0 ms = false then 1 else if zAP x ≠ 0 then zAP x else if (List.range l.length).all (zAR keys x l) = false then 170 else if zBO ms (l.map (·.1)) then 0 else 170
theorem okTag_lt {keys : List (List UInt8)} {x : Hdr} {l : TagL} {i : Nat} (h : ∀ j, j ≤ i → zAR keys x l j = true) : ∀ j, j < i → (l.getD j (0, [])).1 < (l.getD i (0, [])).1 := by
  induction i with
  | zero => intro j hj; omega
  | succ i ih =>
    have h1 := h (i + 1) (Nat.le_refl _)
    simp only [zAR, Nat.zero_lt_succ, decide_true, Bool.true_and, Nat.add_sub_cancel, Bool.and_eq_true, Bool.not_eq_true', decide_eq_false_iff_not] at h1
    intro j hj
    rcases Nat.lt_or_ge j i with q | q
    · have := ih (fun k hk => h k (by omega)) j q
      omega
    · obtain rfl : j = i := by omega
      omega
theorem zWS {keys : List (List UInt8)} {x : Hdr} {l : TagL} {i : Nat} (hi : i < l.length) (h : ∀ j, j ≤ i → zAR keys x l j = true) : (l.getD i (0, [])).1 ∉ (l.take i).map (·.1) := by
  intro hm
  rw [List.mem_map] at hm
  obtain ⟨q, hq, e⟩ := hm
  obtain ⟨j, hj, rfl⟩ := List.getElem_of_mem hq
  rw [List.length_take] at hj
  have := okTag_lt h j (by omega)
  rw [List.getElem_take] at e
  rw [zED (by omega : j < l.length)] at this
  omega
structure CheckTab (pr : Prog) : Prop where
  mem : pr.prim 82 = some zCu
  chk : pr.prim 75 = some zCK
  good : pr.prim 46 = some zDL
  most : pr.prim 83 = some zEK
set_option maxHeartbeats 2000000 in
theorem zUt (pr : Prog) (T : CheckTab pr) (h : Heap) (wf : HWF h) (a : Addr) (keys : List (List UInt8)) (hr : zy h a = some keys) (hk : zAW keys = true) (x : Hdr) (mv : Value) (hx : HdAt h x mv) (tv : Value) (l : TagL) (hs : zAU h tv = some l) (hl : l.length ≤ 1000000) (msv : Value) (ms : List Int) (hms : zw h msv = some ms) (hml : ms.length ≤ 1000000) :
    Comes pr xq49 [.pointer (some a), .agg (zd x mv).toArray, .agg [tv].toArray, msv] h (.int .i64 (zBj keys x l ms : Int)) := by
  apply Comes.of
  unfold xq49
  dsimp only [zc]
  have hr64 : zU = 140737488355328 := rfl
  obtain ⟨g, hg, gg, gx, lN, _⟩ := zBk hx wf
  have v5 : Var g h.next (zd x mv) := by rw [← hg]; exact Var.new_self
  have gn : g.next = h.next + 1 := by rw [← hg]; rfl
  obtain ⟨g0, hg0, v6, gg0, gn0⟩ := box1 (h := g) (zEa hs).1
  have e6 : g.next = h.next + 1 := gn
  have gA := gg.trans gg0
  have wf0 : HWF g0 := by rw [← hg0, ← hg]; exact (wf.push (.cells _)).push (.cells _)
  have v50 := v5.grow gg0
  have l5 : ∀ sp, g0.loadN ⟨h.next, 0, sp⟩ 5 = some (zd x mv) := fun sp => v50.loadAll rfl
  have cm := zq T.mem (zJm (zEy wf gA hms) (by omega))
  have cc := zq T.chk (zGM (hx.grow wf gA))
  obtain ⟨hb, b, cap, rfl, _⟩ := zBT hs
  unfold zBj
  cases hmp : zA0 ms
  · rw [if_pos rfl]
    rw [hmp] at cm
    (repeat (first | refine zS ?_ | refine zL ?_ | refine zR ?_ | refine zE ?_ | refine zC ?_ | refine zJ ?_ | refine zK ?_ | refine zP ?_ | refine zF ?_ | refine zH ?_ | refine zG ?_ | refine zI (by decide) ?_ | refine zQ ?_ | ((first | refine zD ?_ | refine zN ?_ | refine zT rfl rfl ?_ | refine zO rfl ?_ | refine zM ?_); simp only [yq49.down, zA, lemS.down, lemC.down, Int.reduceBEq, Nat.reduceAdd, Nat.reduceLeDiff, reduceIte, Nat.reduceEqDiff, Int.reduceLT, Int.reduceLE, Int.reduceGT, Int.reduceGE, Int.reduceEq, Int.reduceAdd, Int.reduceSub, Int.reduceMul, reduceCtorEq, lemH.down, zAY, zCG, hg, hg0, cm])))
    exact ⟨.inr rfl, by (simp only [yq49.down, zA, lemS.down, lemC.down, Int.reduceBEq, Nat.reduceAdd, Nat.reduceLeDiff, reduceIte, Nat.reduceEqDiff, Int.reduceLT, Int.reduceLE, Int.reduceGT, Int.reduceGE, Int.reduceEq, Int.reduceAdd, Int.reduceSub, Int.reduceMul, reduceCtorEq]) <;> rfl, gA⟩
  rw [if_neg (by decide)]
  rw [hmp] at cm
  by_cases h0 : zAP x = 0
  rotate_left
  · have b0 : ((zAP x : Int) == 0) = false := by rw [beq_eq_false_iff_ne]; omega
    rw [if_pos h0]
    (repeat (first | refine zS ?_ | refine zL ?_ | refine zR ?_ | refine zE ?_ | refine zC ?_ | refine zJ ?_ | refine zK ?_ | refine zP ?_ | refine zF ?_ | refine zH ?_ | refine zG ?_ | refine zI (by decide) ?_ | refine zQ ?_ | ((first | refine zD ?_ | refine zN ?_ | refine zT rfl rfl ?_ | refine zO rfl ?_ | refine zM ?_); simp only [yq49.down, zA, lemS.down, lemC.down, Int.reduceBEq, Nat.reduceAdd, Nat.reduceLeDiff, reduceIte, Nat.reduceEqDiff, Int.reduceLT, Int.reduceLE, Int.reduceGT, Int.reduceGE, Int.reduceEq, Int.reduceAdd, Int.reduceSub, Int.reduceMul, reduceCtorEq, lemH.down, zAY, zCG, hg, hg0, cm, l5, cc, b0])))
    exact ⟨.inr rfl, by simp only [yq49.down, zA, lemS.down, lemC.down, Int.reduceBEq, Nat.reduceAdd, Nat.reduceLeDiff, reduceIte, Nat.reduceEqDiff, Int.reduceLT, Int.reduceLE, Int.reduceGT, Int.reduceGE, Int.reduceEq, Int.reduceAdd, Int.reduceSub, Int.reduceMul, reduceCtorEq], gA⟩
  have b0 : ((zAP x : Int) == 0) = true := by rw [h0]; rfl
  rw [if_neg (by omega)]
  obtain ⟨g1, hg1, gg1, gn1, m1⟩ : ∃ g1, g0.newMap = g1 ∧ Grows g0 g1 ∧ g1.next = g0.next + 1 ∧ MapAt g1 g0.next (zA2 []) := ⟨_, rfl, Grows.newMap, rfl, PT.get_set_eq _ _ _⟩
  have gB := gA.trans gg1
  have v51 := v50.grow gg1
  have v61 := v6.grow gg1
  have l6 : ∀ sp, g1.load ⟨g.next, 0, sp⟩ = some (.slice b l.length cap) := fun sp => v61.load
  (repeat (first | refine zS ?_ | refine zL ?_ | refine zR ?_ | refine zE ?_ | refine zC ?_ | refine zJ ?_ | refine zK ?_ | refine zP ?_ | refine zF ?_ | refine zH ?_ | refine zG ?_ | refine zI (by decide) ?_ | refine zQ ?_ | ((first | refine zD ?_ | refine zN ?_ | refine zT rfl rfl ?_ | refine zO rfl ?_ | refine zM ?_); simp only [yq49.down, zA, lemS.down, lemC.down, Int.reduceBEq, Nat.reduceAdd, Nat.reduceLeDiff, reduceIte, Nat.reduceEqDiff, Int.reduceLT, Int.reduceLE, Int.reduceGT, Int.reduceGE, Int.reduceEq, Int.reduceAdd, Int.reduceSub, Int.reduceMul, reduceCtorEq, lemH.down, zAY, zCG, hg, hg0, cm, l5, cc, b0, mkH_map, val_map, al_mkmap, zWO, hg1, l6])))
  have hbad : ∀ i, i < l.length → zAR keys x l i = false → (if (List.range l.length).all (zAR keys x l) = false then 170 else if zBO ms (l.map (·.1)) = true then 0 else 170) = 170 := fun i hi hf => by
    rw [if_pos]
    rw [List.all_eq_false]
    exact ⟨i, by simpa using hi, by simp [hf]⟩
  have hgood : (∀ j, j < l.length → zAR keys x l j = true) → (if (List.range l.length).all (zAR keys x l) = false then 170 else if zBO ms (l.map (·.1)) = true then 0 else 170) = if zBO ms (l.map (·.1)) = true then 0 else 170 := fun hf => by
    rw [if_neg]
    have : (List.range l.length).all (zAR keys x l) = true := by
      rw [List.all_eq_true]
      intro j hj
      exact hf j (by simpa using hj)
    rw [this]
    decide
  generalize hX : (if (List.range l.length).all (zAR keys x l) = false then 170 else if zBO ms (l.map (·.1)) = true then 0 else 170) = X at *
  refine zo (fun m t g' => ∃ i, m = l.length - i ∧ i ≤ l.length ∧ (∀ j, j < i → zAR keys x l j = true) ∧ Keeps (fun A => A = g0.next) g1 g' ∧ MapAt g' g0.next (zA2 ((l.take i).map (·.1))) ∧ t.get 0 = .pointer (some a) ∧ t.get 3 = msv ∧ t.get 5 = .pointer (some ⟨h.next, 0, none⟩) ∧ t.get 6 = .pointer (some ⟨g.next, 0, none⟩) ∧ t.get 10 = .map (some g0.next) ∧ t.get 23 = .slice b l.length cap ∧ t.get 24 = .int .i64 (l.length : Int) ∧ t.get 25 = .int .i64 (i : Int)) ?_ l.length _ _ ⟨0, rfl, by omega, by simp, Keeps.refl, m1, by simp only [yq49.down, zA, lemS.down, lemC.down, Int.reduceBEq, Nat.reduceAdd, Nat.reduceLeDiff, reduceIte, Nat.reduceEqDiff, Int.reduceLT, Int.reduceLE, Int.reduceGT, Int.reduceGE, Int.reduceEq, Int.reduceAdd, Int.reduceSub, Int.reduceMul, reduceCtorEq], by simp only [yq49.down, zA, lemS.down, lemC.down, Int.reduceBEq, Nat.reduceAdd, Nat.reduceLeDiff, reduceIte, Nat.reduceEqDiff, Int.reduceLT, Int.reduceLE, Int.reduceGT, Int.reduceGE, Int.reduceEq, Int.reduceAdd, Int.reduceSub, Int.reduceMul, reduceCtorEq], by simp only [yq49.down, zA, lemS.down, lemC.down, Int.reduceBEq, Nat.reduceAdd, Nat.reduceLeDiff, reduceIte, Nat.reduceEqDiff, Int.reduceLT, Int.reduceLE, Int.reduceGT, Int.reduceGE, Int.reduceEq, Int.reduceAdd, Int.reduceSub, Int.reduceMul, reduceCtorEq], by simp only [yq49.down, zA, lemS.down, lemC.down, Int.reduceBEq, Nat.reduceAdd, Nat.reduceLeDiff, reduceIte, Nat.reduceEqDiff, Int.reduceLT, Int.reduceLE, Int.reduceGT, Int.reduceGE, Int.reduceEq, Int.reduceAdd, Int.reduceSub, Int.reduceMul, reduceCtorEq], by simp only [yq49.down, zA, lemS.down, lemC.down, Int.reduceBEq, Nat.reduceAdd, Nat.reduceLeDiff, reduceIte, Nat.reduceEqDiff, Int.reduceLT, Int.reduceLE, Int.reduceGT, Int.reduceGE, Int.reduceEq, Int.reduceAdd, Int.reduceSub, Int.reduceMul, reduceCtorEq], by simp only [yq49.down, zA, lemS.down, lemC.down, Int.reduceBEq, Nat.reduceAdd, Nat.reduceLeDiff, reduceIte, Nat.reduceEqDiff, Int.reduceLT, Int.reduceLE, Int.reduceGT, Int.reduceGE, Int.reduceEq, Int.reduceAdd, Int.reduceSub, Int.reduceMul, reduceCtorEq], by simp only [yq49.down, zA, lemS.down, lemC.down, Int.reduceBEq, Nat.reduceAdd, Nat.reduceLeDiff, reduceIte, Nat.reduceEqDiff, Int.reduceLT, Int.reduceLE, Int.reduceGT, Int.reduceGE, Int.reduceEq, Int.reduceAdd, Int.reduceSub, Int.reduceMul, reduceCtorEq], by (simp only [yq49.down, zA, lemS.down, lemC.down, Int.reduceBEq, Nat.reduceAdd, Nat.reduceLeDiff, reduceIte, Nat.reduceEqDiff, Int.reduceLT, Int.reduceLE, Int.reduceGT, Int.reduceGE, Int.reduceEq, Int.reduceAdd, Int.reduceSub, Int.reduceMul, reduceCtorEq]) <;> rfl⟩
  rintro m t q ⟨i, rfl, hi, hall, qk, qm, t0, t3, t5, t6, t10, t23, t24, t25⟩ hnext
  refine xq49_14k ?_
  dsimp only [zH3]
  (repeat (first | refine zS ?_ | refine zL ?_ | refine zR ?_ | refine zE ?_ | refine zC ?_ | refine zJ ?_ | refine zK ?_ | refine zP ?_ | refine zF ?_ | refine zH ?_ | refine zG ?_ | refine zI (by decide) ?_ | refine zQ ?_ | ((first | refine zD ?_ | refine zN ?_ | refine zT rfl rfl ?_ | refine zO rfl ?_ | refine zM ?_); simp only [yq49.down, zA, lemS.down, lemC.down, Int.reduceBEq, Nat.reduceAdd, Nat.reduceLeDiff, reduceIte, Nat.reduceEqDiff, Int.reduceLT, Int.reduceLE, Int.reduceGT, Int.reduceGE, Int.reduceEq, Int.reduceAdd, Int.reduceSub, Int.reduceMul, reduceCtorEq, lemH.down, t0, t3, t5, t6, t10, t23, t24, t25])))
  have gQ : Grows h q := gB.then qk (fun A hA e => by omega)
  have qn := qk.next
  refine ⟨fun hlt => ?_, fun hge => ?_⟩
  · have hi' : i < l.length := by omega
    obtain ⟨_, _, _, _, hel⟩ := zBT (zFS wf gQ hs)
    obtain ⟨B, o, ia, ld, _⟩ := hel i hi'
    obtain ⟨q1, hq1, w1, gq1, qn1⟩ : ∃ q1, q.new [.int .i64 0, .string (zB [])] = q1 ∧ Var q1 q.next [.int .i64 0, .string (zB [])] ∧ Grows q q1 ∧ q1.next = q.next + 1 := ⟨_, rfl, Var.new_self, Grows.new, rfl⟩
    have st : zu q1 2 (.pointer (some ⟨q.next, 0, none⟩)) (.agg [.int .i64 (l.getD i (0, [])).1, .string (zB (l.getD i (0, [])).2)].toArray) = some (.tuple #[], q1.wr q.next [.int .i64 (l.getD i (0, [])).1, .string (zB (l.getD i (0, [])).2)]) := w1.storeAll rfl rfl (by decide) rfl
    obtain ⟨q2, hq2, w2, gq2⟩ : ∃ q2, q1.wr q.next [.int .i64 (l.getD i (0, [])).1, .string (zB (l.getD i (0, [])).2)] = q2 ∧ Var q2 q.next [.int .i64 (l.getD i (0, [])).1, .string (zB (l.getD i (0, [])).2)] ∧ Grows q q2 := ⟨_, rfl, w1.wr, gq1.wr (Nat.le_refl _)⟩
    rw [hq2] at st
    have gQ2 := gQ.trans gq2
    have k2 : Keeps (fun A => A = g0.next) g1 q2 := qk.trans (gq2.keeps (W := zB5)) (fun A hA (e : zB5 A) => False.elim e)
    have u5 : ∀ sp, q2.loadN ⟨h.next, 0, sp⟩ 5 = some (zd x mv) := fun sp => (v51.keep k2 (by omega)).loadAll rfl
    have u6 : ∀ sp, q2.load ⟨g.next, 0, sp⟩ = some (.slice b l.length cap) := fun sp => (v61.keep k2 (by omega)).load
    have u0 : ∀ sp, q2.load ⟨q.next, 0, sp⟩ = some (.int .i64 (l.getD i (0, [])).1) := fun sp => w2.load
    have uN : ∀ sp, q2.loadN ⟨q.next, 0, sp⟩ 2 = some [.int .i64 (l.getD i (0, [])).1, .string (zB (l.getD i (0, [])).2)] := fun sp => w2.loadAll rfl
    have gd := zq T.good (goodG_at (r := (l.getD i (0, [])).1) (t := (l.getD i (0, [])).2) (zGo wf gQ2 hr) hk (hx.grow wf gQ2))
    have gd : cfi pr 46 [.pointer (some a), .agg (zd x mv).toArray, .agg [.int .i64 (l.getD i (0, [])).1, .string (zB (l.getD i (0, [])).2)].toArray] q2 = _ := gd
    have ww : IntKind.i64.wrap ((i : Int) + 1) = ((i + 1 : Nat) : Int) := by rw [wrap_i64 (by omega) (by omega)]; omega
    have wm : IntKind.i64.wrap ((i : Int) - 1) = (i : Int) - 1 := wrap_i64 (by omega) (by omega)
    have qm2 := qm.keep (by have := qk.next; omega) (gq2.keeps (W := zB5)) id
    have htk : l.take (i + 1) = l.take i ++ [l.getD i (0, [])] := by
      rw [List.take_succ_eq_append_getElem hi', zED hi']
    have fin := fun (hm : zAR keys x l i = true) (t' : Fr) (s0 : t'.get 0 = .pointer (some a)) (s3 : t'.get 3 = msv) (s5 : t'.get 5 = .pointer (some ⟨h.next, 0, none⟩)) (s6 : t'.get 6 = .pointer (some ⟨g.next, 0, none⟩)) (s10 : t'.get 10 = .map (some g0.next)) (s23 : t'.get 23 = .slice b l.length cap) (s24 : t'.get 24 = .int .i64 (l.length : Int)) (s25 : t'.get 25 = .int .i64 ((i + 1 : Nat) : Int)) => hnext (l.length - (i + 1)) t' (q2.setBlk g0.next (.map (zA2 ((l.take i).map (·.1) ++ [(l.getD i (0, [])).1])))) (by omega) ⟨i + 1, rfl, by omega, fun j hj => by
      rcases Nat.lt_or_ge j i with h | h
      · exact hall j h
      · obtain rfl : j = i := by omega
        exact hm, k2.trans Keeps.setMap (fun A _ e => e), by rw [htk, List.map_append]; exact MapAt.set, s0, s3, s5, s6, s10, s23, s24, s25⟩
    have mu := fun (hm : zAR keys x l i = true) => zWN qm2 (zWS (keys := keys) (x := x) hi' (fun j hj => by
      rcases Nat.lt_or_ge j i with h | h
      · exact hall j h
      · obtain rfl : j = i := by omega
        exact hm))
    cases hgd : zA7 keys x (l.getD i (0, [])).1 (l.getD i (0, [])).2
    · rw [hgd] at gd
      have hb1 := hbad i hi' (by simp only [zAR, hgd, Bool.and_false])
      by_cases c3 : 0 < i
      · have d3 : decide ((i : Int) > 0) = true := decide_eq_true (by omega)
        obtain ⟨_, _, _, _, hel2⟩ := zBT (zFS wf gQ2 hs)
        obtain ⟨B2, o2, ia2, _, ld2, _⟩ := hel2 (i - 1) (by omega)
        rw [show ((i - 1 : Nat) : Int) = (i : Int) - 1 by omega] at ia2
        cases d4 : decide ((l.getD (i - 1) (0, [])).1 ≥ (l.getD i (0, [])).1)
        · (repeat (first | refine zS ?_ | refine zL ?_ | refine zR ?_ | refine zE ?_ | refine zC ?_ | refine zJ ?_ | refine zK ?_ | refine zP ?_ | refine zF ?_ | refine zH ?_ | refine zG ?_ | refine zI (by decide) ?_ | refine zQ ?_ | ((first | refine zD ?_ | refine zN ?_ | refine zT rfl rfl ?_ | refine zO rfl ?_ | refine zM ?_); simp only [yq49.down, zA, lemS.down, lemC.down, Int.reduceBEq, Nat.reduceAdd, Nat.reduceLeDiff, reduceIte, Nat.reduceEqDiff, Int.reduceLT, Int.reduceLE, Int.reduceGT, Int.reduceGE, Int.reduceEq, Int.reduceAdd, Int.reduceSub, Int.reduceMul, reduceCtorEq, lemH.down, t0, t3, t5, t6, t10, t23, t24, t25, zAG, ia, ld, hq1, st, d3, u6, wm, ia2, ld2, u0, d4, u5, uN, gd, Nat.add_zero])))
          exact ⟨.inr rfl, by (simp only [yq49.down, zA, lemS.down, lemC.down, Int.reduceBEq, Nat.reduceAdd, Nat.reduceLeDiff, reduceIte, Nat.reduceEqDiff, Int.reduceLT, Int.reduceLE, Int.reduceGT, Int.reduceGE, Int.reduceEq, Int.reduceAdd, Int.reduceSub, Int.reduceMul, reduceCtorEq]) <;> (rw [hb1]; rfl), gQ2⟩
        · (repeat (first | refine zS ?_ | refine zL ?_ | refine zR ?_ | refine zE ?_ | refine zC ?_ | refine zJ ?_ | refine zK ?_ | refine zP ?_ | refine zF ?_ | refine zH ?_ | refine zG ?_ | refine zI (by decide) ?_ | refine zQ ?_ | ((first | refine zD ?_ | refine zN ?_ | refine zT rfl rfl ?_ | refine zO rfl ?_ | refine zM ?_); simp only [yq49.down, zA, lemS.down, lemC.down, Int.reduceBEq, Nat.reduceAdd, Nat.reduceLeDiff, reduceIte, Nat.reduceEqDiff, Int.reduceLT, Int.reduceLE, Int.reduceGT, Int.reduceGE, Int.reduceEq, Int.reduceAdd, Int.reduceSub, Int.reduceMul, reduceCtorEq, lemH.down, t0, t3, t5, t6, t10, t23, t24, t25, zAG, ia, ld, hq1, st, d3, u6, wm, ia2, ld2, u0, d4, zAS, Nat.add_zero])))
          exact ⟨.inr rfl, by (simp only [yq49.down, zA, lemS.down, lemC.down, Int.reduceBEq, Nat.reduceAdd, Nat.reduceLeDiff, reduceIte, Nat.reduceEqDiff, Int.reduceLT, Int.reduceLE, Int.reduceGT, Int.reduceGE, Int.reduceEq, Int.reduceAdd, Int.reduceSub, Int.reduceMul, reduceCtorEq]) <;> (rw [hb1]; rfl), gQ2⟩
      · have d3 : decide ((i : Int) > 0) = false := decide_eq_false (by omega)
        (repeat (first | refine zS ?_ | refine zL ?_ | refine zR ?_ | refine zE ?_ | refine zC ?_ | refine zJ ?_ | refine zK ?_ | refine zP ?_ | refine zF ?_ | refine zH ?_ | refine zG ?_ | refine zI (by decide) ?_ | refine zQ ?_ | ((first | refine zD ?_ | refine zN ?_ | refine zT rfl rfl ?_ | refine zO rfl ?_ | refine zM ?_); simp only [yq49.down, zA, lemS.down, lemC.down, Int.reduceBEq, Nat.reduceAdd, Nat.reduceLeDiff, reduceIte, Nat.reduceEqDiff, Int.reduceLT, Int.reduceLE, Int.reduceGT, Int.reduceGE, Int.reduceEq, Int.reduceAdd, Int.reduceSub, Int.reduceMul, reduceCtorEq, lemH.down, t0, t3, t5, t6, t10, t23, t24, t25, zAG, ia, ld, hq1, st, d3, u5, uN, gd, zAS, Nat.add_zero])))
        exact ⟨.inr rfl, by (simp only [yq49.down, zA, lemS.down, lemC.down, Int.reduceBEq, Nat.reduceAdd, Nat.reduceLeDiff, reduceIte, Nat.reduceEqDiff, Int.reduceLT, Int.reduceLE, Int.reduceGT, Int.reduceGE, Int.reduceEq, Int.reduceAdd, Int.reduceSub, Int.reduceMul, reduceCtorEq]) <;> (rw [hb1]; rfl), gQ2⟩
    · rw [hgd] at gd
      by_cases c3 : 0 < i
      · have d3 : decide ((i : Int) > 0) = true := decide_eq_true (by omega)
        obtain ⟨_, _, _, _, hel2⟩ := zBT (zFS wf gQ2 hs)
        obtain ⟨B2, o2, ia2, _, ld2, _⟩ := hel2 (i - 1) (by omega)
        rw [show ((i - 1 : Nat) : Int) = (i : Int) - 1 by omega] at ia2
        cases d4 : decide ((l.getD (i - 1) (0, [])).1 ≥ (l.getD i (0, [])).1)
        · have hok : zAR keys x l i = true := by simp only [zAR, hgd, d4, Bool.and_false]; rfl
          have mu := mu hok
          (repeat (first | refine zS ?_ | refine zL ?_ | refine zR ?_ | refine zE ?_ | refine zC ?_ | refine zJ ?_ | refine zK ?_ | refine zP ?_ | refine zF ?_ | refine zH ?_ | refine zG ?_ | refine zI (by decide) ?_ | refine zQ ?_ | ((first | refine zD ?_ | refine zN ?_ | refine zT rfl rfl ?_ | refine zO rfl ?_ | refine zM ?_); simp only [yq49.down, zA, lemS.down, lemC.down, Int.reduceBEq, Nat.reduceAdd, Nat.reduceLeDiff, reduceIte, Nat.reduceEqDiff, Int.reduceLT, Int.reduceLE, Int.reduceGT, Int.reduceGE, Int.reduceEq, Int.reduceAdd, Int.reduceSub, Int.reduceMul, reduceCtorEq, lemH.down, t0, t3, t5, t6, t10, t23, t24, t25, zAG, ia, ld, hq1, st, d3, u6, wm, ia2, ld2, u0, d4, u5, uN, gd, Nat.add_zero, zJB, mu, ww])))
          exact fin hok _ (by simp only [yq49.down, zA, lemS.down, lemC.down, Int.reduceBEq, Nat.reduceAdd, Nat.reduceLeDiff, reduceIte, Nat.reduceEqDiff, Int.reduceLT, Int.reduceLE, Int.reduceGT, Int.reduceGE, Int.reduceEq, Int.reduceAdd, Int.reduceSub, Int.reduceMul, reduceCtorEq, t0]) (by simp only [yq49.down, zA, lemS.down, lemC.down, Int.reduceBEq, Nat.reduceAdd, Nat.reduceLeDiff, reduceIte, Nat.reduceEqDiff, Int.reduceLT, Int.reduceLE, Int.reduceGT, Int.reduceGE, Int.reduceEq, Int.reduceAdd, Int.reduceSub, Int.reduceMul, reduceCtorEq, t3]) (by simp only [yq49.down, zA, lemS.down, lemC.down, Int.reduceBEq, Nat.reduceAdd, Nat.reduceLeDiff, reduceIte, Nat.reduceEqDiff, Int.reduceLT, Int.reduceLE, Int.reduceGT, Int.reduceGE, Int.reduceEq, Int.reduceAdd, Int.reduceSub, Int.reduceMul, reduceCtorEq, t5]) (by simp only [yq49.down, zA, lemS.down, lemC.down, Int.reduceBEq, Nat.reduceAdd, Nat.reduceLeDiff, reduceIte, Nat.reduceEqDiff, Int.reduceLT, Int.reduceLE, Int.reduceGT, Int.reduceGE, Int.reduceEq, Int.reduceAdd, Int.reduceSub, Int.reduceMul, reduceCtorEq, t6]) (by simp only [yq49.down, zA, lemS.down, lemC.down, Int.reduceBEq, Nat.reduceAdd, Nat.reduceLeDiff, reduceIte, Nat.reduceEqDiff, Int.reduceLT, Int.reduceLE, Int.reduceGT, Int.reduceGE, Int.reduceEq, Int.reduceAdd, Int.reduceSub, Int.reduceMul, reduceCtorEq, t10]) (by simp only [yq49.down, zA, lemS.down, lemC.down, Int.reduceBEq, Nat.reduceAdd, Nat.reduceLeDiff, reduceIte, Nat.reduceEqDiff, Int.reduceLT, Int.reduceLE, Int.reduceGT, Int.reduceGE, Int.reduceEq, Int.reduceAdd, Int.reduceSub, Int.reduceMul, reduceCtorEq, t23]) (by simp only [yq49.down, zA, lemS.down, lemC.down, Int.reduceBEq, Nat.reduceAdd, Nat.reduceLeDiff, reduceIte, Nat.reduceEqDiff, Int.reduceLT, Int.reduceLE, Int.reduceGT, Int.reduceGE, Int.reduceEq, Int.reduceAdd, Int.reduceSub, Int.reduceMul, reduceCtorEq, t24]) (by simp only [yq49.down, zA, lemS.down, lemC.down, Int.reduceBEq, Nat.reduceAdd, Nat.reduceLeDiff, reduceIte, Nat.reduceEqDiff, Int.reduceLT, Int.reduceLE, Int.reduceGT, Int.reduceGE, Int.reduceEq, Int.reduceAdd, Int.reduceSub, Int.reduceMul, reduceCtorEq])
        · have hb1 := hbad i hi' (by simp only [zAR, d4, decide_eq_true c3, Bool.and_self, Bool.not_true, Bool.false_and])
          (repeat (first | refine zS ?_ | refine zL ?_ | refine zR ?_ | refine zE ?_ | refine zC ?_ | refine zJ ?_ | refine zK ?_ | refine zP ?_ | refine zF ?_ | refine zH ?_ | refine zG ?_ | refine zI (by decide) ?_ | refine zQ ?_ | ((first | refine zD ?_ | refine zN ?_ | refine zT rfl rfl ?_ | refine zO rfl ?_ | refine zM ?_); simp only [yq49.down, zA, lemS.down, lemC.down, Int.reduceBEq, Nat.reduceAdd, Nat.reduceLeDiff, reduceIte, Nat.reduceEqDiff, Int.reduceLT, Int.reduceLE, Int.reduceGT, Int.reduceGE, Int.reduceEq, Int.reduceAdd, Int.reduceSub, Int.reduceMul, reduceCtorEq, lemH.down, t0, t3, t5, t6, t10, t23, t24, t25, zAG, ia, ld, hq1, st, d3, u6, wm, ia2, ld2, u0, d4, zAS, Nat.add_zero])))
          exact ⟨.inr rfl, by (simp only [yq49.down, zA, lemS.down, lemC.down, Int.reduceBEq, Nat.reduceAdd, Nat.reduceLeDiff, reduceIte, Nat.reduceEqDiff, Int.reduceLT, Int.reduceLE, Int.reduceGT, Int.reduceGE, Int.reduceEq, Int.reduceAdd, Int.reduceSub, Int.reduceMul, reduceCtorEq]) <;> (rw [hb1]; rfl), gQ2⟩
      · have d3 : decide ((i : Int) > 0) = false := decide_eq_false (by omega)
        have hok : zAR keys x l i = true := by simp only [zAR, hgd, decide_eq_false c3, Bool.false_and, Bool.not_false, Bool.and_self]
        have mu := mu hok
        (repeat (first | refine zS ?_ | refine zL ?_ | refine zR ?_ | refine zE ?_ | refine zC ?_ | refine zJ ?_ | refine zK ?_ | refine zP ?_ | refine zF ?_ | refine zH ?_ | refine zG ?_ | refine zI (by decide) ?_ | refine zQ ?_ | ((first | refine zD ?_ | refine zN ?_ | refine zT rfl rfl ?_ | refine zO rfl ?_ | refine zM ?_); simp only [yq49.down, zA, lemS.down, lemC.down, Int.reduceBEq, Nat.reduceAdd, Nat.reduceLeDiff, reduceIte, Nat.reduceEqDiff, Int.reduceLT, Int.reduceLE, Int.reduceGT, Int.reduceGE, Int.reduceEq, Int.reduceAdd, Int.reduceSub, Int.reduceMul, reduceCtorEq, lemH.down, t0, t3, t5, t6, t10, t23, t24, t25, zAG, ia, ld, hq1, st, d3, u0, u5, uN, gd, zAS, Nat.add_zero, zJB, mu, ww])))
        exact fin hok _ (by simp only [yq49.down, zA, lemS.down, lemC.down, Int.reduceBEq, Nat.reduceAdd, Nat.reduceLeDiff, reduceIte, Nat.reduceEqDiff, Int.reduceLT, Int.reduceLE, Int.reduceGT, Int.reduceGE, Int.reduceEq, Int.reduceAdd, Int.reduceSub, Int.reduceMul, reduceCtorEq, t0]) (by simp only [yq49.down, zA, lemS.down, lemC.down, Int.reduceBEq, Nat.reduceAdd, Nat.reduceLeDiff, reduceIte, Nat.reduceEqDiff, Int.reduceLT, Int.reduceLE, Int.reduceGT, Int.reduceGE, Int.reduceEq, Int.reduceAdd, Int.reduceSub, Int.reduceMul, reduceCtorEq, t3]) (by simp only [yq49.down, zA, lemS.down, lemC.down, Int.reduceBEq, Nat.reduceAdd, Nat.reduceLeDiff, reduceIte, Nat.reduceEqDiff, Int.reduceLT, Int.reduceLE, Int.reduceGT, Int.reduceGE, Int.reduceEq, Int.reduceAdd, Int.reduceSub, Int.reduceMul, reduceCtorEq, t5]) (by simp only [yq49.down, zA, lemS.down, lemC.down, Int.reduceBEq, Nat.reduceAdd, Nat.reduceLeDiff, reduceIte, Nat.reduceEqDiff, Int.reduceLT, Int.reduceLE, Int.reduceGT, Int.reduceGE, Int.reduceEq, Int.reduceAdd, Int.reduceSub, Int.reduceMul, reduceCtorEq, t6]) (by simp only [yq49.down, zA, lemS.down, lemC.down, Int.reduceBEq, Nat.reduceAdd, Nat.reduceLeDiff, reduceIte, Nat.reduceEqDiff, Int.reduceLT, Int.reduceLE, Int.reduceGT, Int.reduceGE, Int.reduceEq, Int.reduceAdd, Int.reduceSub, Int.reduceMul, reduceCtorEq, t10]) (by simp only [yq49.down, zA, lemS.down, lemC.down, Int.reduceBEq, Nat.reduceAdd, Nat.reduceLeDiff, reduceIte, Nat.reduceEqDiff, Int.reduceLT, Int.reduceLE, Int.reduceGT, Int.reduceGE, Int.reduceEq, Int.reduceAdd, Int.reduceSub, Int.reduceMul, reduceCtorEq, t23]) (by simp only [yq49.down, zA, lemS.down, lemC.down, Int.reduceBEq, Nat.reduceAdd, Nat.reduceLeDiff, reduceIte, Nat.reduceEqDiff, Int.reduceLT, Int.reduceLE, Int.reduceGT, Int.reduceGE, Int.reduceEq, Int.reduceAdd, Int.reduceSub, Int.reduceMul, reduceCtorEq, t24]) (by simp only [yq49.down, zA, lemS.down, lemC.down, Int.reduceBEq, Nat.reduceAdd, Nat.reduceLeDiff, reduceIte, Nat.reduceEqDiff, Int.reduceLT, Int.reduceLE, Int.reduceGT, Int.reduceGE, Int.reduceEq, Int.reduceAdd, Int.reduceSub, Int.reduceMul, reduceCtorEq])
  · obtain rfl : i = l.length := by omega
    rw [List.take_length] at qm
    have mo := zq T.most (mostG_at (zEy wf gQ hms) qm hml)
    have hX2 := hgood hall
    cases hmo : zBO ms (l.map (·.1))
    · rw [hmo] at mo hX2
      rw [if_neg (by decide)] at hX2
      (repeat (first | refine zS ?_ | refine zL ?_ | refine zR ?_ | refine zE ?_ | refine zC ?_ | refine zJ ?_ | refine zK ?_ | refine zP ?_ | refine zF ?_ | refine zH ?_ | refine zG ?_ | refine zI (by decide) ?_ | refine zQ ?_ | ((first | refine zD ?_ | refine zN ?_ | refine zT rfl rfl ?_ | refine zO rfl ?_ | refine zM ?_); simp only [yq49.down, zA, lemS.down, lemC.down, Int.reduceBEq, Nat.reduceAdd, Nat.reduceLeDiff, reduceIte, Nat.reduceEqDiff, Int.reduceLT, Int.reduceLE, Int.reduceGT, Int.reduceGE, Int.reduceEq, Int.reduceAdd, Int.reduceSub, Int.reduceMul, reduceCtorEq, lemH.down, t0, t3, t5, t6, t10, t23, t24, t25, mo])))
      exact ⟨.inr rfl, by (simp only [yq49.down, zA, lemS.down, lemC.down, Int.reduceBEq, Nat.reduceAdd, Nat.reduceLeDiff, reduceIte, Nat.reduceEqDiff, Int.reduceLT, Int.reduceLE, Int.reduceGT, Int.reduceGE, Int.reduceEq, Int.reduceAdd, Int.reduceSub, Int.reduceMul, reduceCtorEq]) <;> (rw [hX2]; rfl), gQ⟩
    · rw [hmo] at mo hX2
      rw [if_pos rfl] at hX2
      (repeat (first | refine zS ?_ | refine zL ?_ | refine zR ?_ | refine zE ?_ | refine zC ?_ | refine zJ ?_ | refine zK ?_ | refine zP ?_ | refine zF ?_ | refine zH ?_ | refine zG ?_ | refine zI (by decide) ?_ | refine zQ ?_ | ((first | refine zD ?_ | refine zN ?_ | refine zT rfl rfl ?_ | refine zO rfl ?_ | refine zM ?_); simp only [yq49.down, zA, lemS.down, lemC.down, Int.reduceBEq, Nat.reduceAdd, Nat.reduceLeDiff, reduceIte, Nat.reduceEqDiff, Int.reduceLT, Int.reduceLE, Int.reduceGT, Int.reduceGE, Int.reduceEq, Int.reduceAdd, Int.reduceSub, Int.reduceMul, reduceCtorEq, lemH.down, t0, t3, t5, t6, t10, t23, t24, t25, mo])))
      exact ⟨.inr rfl, by (simp only [yq49.down, zA, lemS.down, lemC.down, Int.reduceBEq, Nat.reduceAdd, Nat.reduceLeDiff, reduceIte, Nat.reduceEqDiff, Int.reduceLT, Int.reduceLE, Int.reduceGT, Int.reduceGE, Int.reduceEq, Int.reduceAdd, Int.reduceSub, Int.reduceMul, reduceCtorEq]) <;> (rw [hX2]; rfl), gQ⟩
end Go.X
end
section
open Go Go.Proofs Go.RowKit Go.Lib
namespace Go.X
set_option linter.unusedVariables false
theorem zFJ {P : Program} (w : World) (dT sT ty elem : TypeId) (e b o dLen dCap : Nat) (a : Addr) (sLen sCap : Nat) (cs : List Value)
    (hu : P.underlying dT = some (.slice elem)) (hs : (P.info? elem).map (·.size) = some e) (hn : cs.length = Nat.min sLen dLen * e)
    (hsrc : ∀ j v, cs[j]? = some v → w.cell? (a.add j) = some v) (hc : ∀ j, j < cs.length → (w.cell? ⟨b, o + j, none⟩).isSome = true) (hf : ∀ j, j < cs.length → w.frozen? ⟨b, o + j, none⟩ = false) (h1 : ∀ v ∈ cs, v.oneCell' = true) :
    (Builtin.copy_ #[dT, sT] ty #[.slice (some ⟨b, o, none⟩) dLen dCap, .slice (some a) sLen sCap]).run P w = .ok (goInt (Nat.min sLen dLen)) (w.setCells b o cs) := by
  have hl := run_loadCells_list (P := P) w a cs hsrc
  have hst := run_storeCells_cells (P := P) b o cs 0 w (by simpa using hc) (by simpa using hf) h1
  cases hq : P.info? elem with
  | none => simp [hq] at hs
  | some i =>
    have hi : i.size = e := by simpa [hq] using hs
    simp [Builtin.copy_, run_underlying hu, Builtin.lenOf, Builtin.firstCells, sizeOf, typeInfo, hq, hi, ← hn, hl, hst]
theorem zGP : (Try.prog.info? 65).map (fun i => (i.zero, i.size, i.bytes)) = some (some (.agg #[.int .i64 0, .string ⟨#[]⟩]), 2, 24) := by kernel_rfl
theorem sizeTag (w : World) : (Go.sizeOf 65).run Try.prog w = .ok 2 w := by
  obtain ⟨i, hi, _, h2, _⟩ := info_parts zGP
  simp [Go.sizeOf, typeInfo, hi, h2]
set_option maxHeartbeats 4000000 in
set_option maxRecDepth 100000 in
theorem zV4 (b off n c i vb voff m vc : Nat) (cs vs : List Value) (w : World) (hi : i < n) (hm : 0 < m) (hroom : n + m ≤ c) (hc63 : n + m ≤ 9223372036854775807) (hvb : vb ≠ b)
    (hcl : cs.length = n * 2) (hvl : vs.length = m * 2)
    (hcs : ∀ j v, cs[j]? = some v → w.cell? ⟨b, off + j, none⟩ = some v) (hsp : ∀ j, j < (n + m) * 2 → (w.cell? ⟨b, off + j, none⟩).isSome = true) (hfz : ∀ j, j < (n + m) * 2 → w.frozen? ⟨b, off + j, none⟩ = false)
    (hvs : ∀ j v, vs[j]? = some v → w.cell? ⟨vb, voff + j, none⟩ = some v) (h1c : ∀ v ∈ cs.drop (i * 2), v.oneCell' = true) (h1v : ∀ v ∈ vs, v.oneCell' = true)
    (tA tB : TypeId) (kA kB : Nat) (hsa : w.shape? vb = some (tA, kA)) (hsb : w.shape? b = some (tB, kB)) (hkB : kB ≠ 0) (hfa : w.frozen? ⟨vb, voff, none⟩ = false) (hfe : w.frozen? ⟨vb, kA, none⟩ = false) :
    Calls Try.prog 80 #[.slice (some ⟨b, off, none⟩) n c, .int .i64 i, .slice (some ⟨vb, voff, none⟩) m vc] w fun e w' =>
      e = .returned (.slice (some ⟨b, off, none⟩) (n + m) c) ∧ w' = (w.drew.setCells b (off + (i + m) * 2) (cs.drop (i * 2))).setCells b (off + i * 2) vs := by
  have hz1 : ¬ ((m : Int) = 0) := by omega
  have hz2 : ¬ ((i : Int) = (n : Int)) := by omega
  have hsz : (Try.prog.info? 65).map (·.size) = some 2 := by kernel_rfl
  have hz2s : ∀ w : World, (Go.sizeOf 65).run Try.prog w = .ok 2 w := sizeTag
  have hov : ∀ lb cb, (callFunc 100 #[.slice (some ⟨vb, voff, none⟩) m vc, .slice (some ⟨b, off + (i + m) * 2, none⟩) lb cb]).run Try.prog w = .ok (.value (.bool false)) w := fun lb cb => by
    rw [run_callFunc_extern Try.func100 (by kernel_rfl) (by kernel_rfl) (by kernel_rfl) (e := Extern.SlicesOverlaps.overlaps #[77, 77] #[4]) (by kernel_rfl),
      Lib.run_overlaps_apart w 77 4 65 Try.underlying77 2 hz2s ⟨vb, voff, none⟩ ⟨b, off + (i + m) * 2, none⟩ m vc lb cb hvb tA tB kA kB hsa hsb hkB hfa hfe]
    rfl
  have hdl : (cs.drop (i * 2)).length = (n - i) * 2 := by rw [List.length_drop, hcl]; omega
  have mixed : Try.prog.follows .mixedOrders = true := by kernel_rfl
  have hw1 : IntKind.i64.wrap ((i : Int) + (m : Int)) = (i : Int) + (m : Int) := by rw [IntKind.wrap_i64]; omega
  have hb1 : (0 : Int) ≤ (i : Int) + (m : Int) := by omega
  have hin : i ≤ n := by omega
  have htn : ((i : Int) + (m : Int)).toNat = i + m := by omega
  have hb2 : ¬ (c = i + m) := by omega
  have hb3 : (i : Int) ≤ (n : Int) + (m : Int) := by omega
  have hb4 : ¬ (c = i) := by omega
  have hcp1 : ∀ ty dc sc, (Builtin.copy_ #[77, 77] ty #[.slice (some ⟨b, off + (i + m) * 2, none⟩) (n + m - (i + m)) dc, .slice (some ⟨b, off + i * 2, none⟩) (n + m - i) sc]).run Try.prog w.drew = .ok (goInt (Nat.min (n + m - i) (n + m - (i + m)))) (w.drew.setCells b (off + (i + m) * 2) (cs.drop (i * 2))) := fun ty dc sc =>
    zFJ w.drew _ _ ty 65 2 b (off + (i + m) * 2) (n + m - (i + m)) dc ⟨b, off + i * 2, none⟩ (n + m - i) sc (cs.drop (i * 2)) Try.underlying77 hsz (by rw [hdl]; simp only [Nat.min_def]; split <;> omega)
      (fun j v hj => by rw [Addr.add_lit, Nat.add_assoc]; exact hcs (i * 2 + j) v (by rwa [List.getElem?_drop] at hj))
      (fun j hj => by rw [Nat.add_assoc]; exact hsp _ (by omega)) (fun j hj => by rw [Nat.add_assoc]; exact hfz _ (by omega)) h1c
  obtain ⟨W1, hW1⟩ : ∃ W1, W1 = w.drew.setCells b (off + (i + m) * 2) (cs.drop (i * 2)) := ⟨_, rfl⟩
  have hsp1 : ∀ k, k < (n + m) * 2 → (W1.cell? ⟨b, off + k, none⟩).isSome = true := fun k hk => by
    rw [hW1]
    exact isSome_setCells b _ _ _ (fun j hj => by rw [Nat.add_assoc]; exact hsp _ (by omega)) _ (hsp k hk)
  have hcp2 : ∀ (W : World), (∀ x, W.cell? x = W1.cell? x) → (∀ x, W.frozen? x = W1.frozen? x) → ∀ ty dc, (Builtin.copy_ #[77, 77] ty #[.slice (some ⟨b, off + i * 2, none⟩) (n + m - i) dc, .slice (some ⟨vb, voff, none⟩) m vc]).run Try.prog W = .ok (goInt (Nat.min m (n + m - i))) (W.setCells b (off + i * 2) vs) := fun W hWc hWf ty dc =>
    zFJ W _ _ ty 65 2 b (off + i * 2) (n + m - i) dc ⟨vb, voff, none⟩ m vc vs Try.underlying77 hsz (by rw [hvl]; simp only [Nat.min_def]; split <;> omega)
      (fun j v hj => by
        rw [Addr.add_lit, hWc, hW1, World.cell?_setCells_out b _ _ _ _ (fun h _ => absurd h hvb)]
        exact hvs j v hj)
      (fun j hj => by rw [hWc, Nat.add_assoc]; exact hsp1 _ (by omega)) (fun j hj => by rw [hWf, hW1, World.frozen?_setCells, Nat.add_assoc]; exact hfz _ (by omega)) h1v
  rw [← hW1] at hcp1
  have u77 := run_underlying Try.underlying77
  go_enter Try.func80, Try.ntmps80
  go_wp2_with (simp only [hov])
  go_region_law_o (refine step_copy_runI rfl _ _ 77 77 rfl _ _ (by simp [Act.eval, Act.put]) (by simp [Act.eval, Act.put]) (hcp1 _ _ _) ?_)
  go_wp2_with (at_builtin; refine wpList_copy_runI _ rfl _ _ 77 77 rfl _ _ rfl rfl (hcp2 _ (fun _ => rfl) (fun _ => rfl) _ _) ?_)
  go_ret
  first | exact ⟨rfl, rfl⟩ | exact ⟨rfl, by rw [hW1]⟩
set_option maxHeartbeats 4000000 in
set_option maxRecDepth 100000 in
theorem zV3 (b off n c i vb voff m vc : Nat) (cs vs : List Value) (w : World) (hi : i < n) (hm : 0 < m) (hnc : n ≤ c) (hroom : c < n + m) (hbig : (n + m) * 24 ≤ 140737488355328)
    (hcl : cs.length = n * 2) (hvl : vs.length = m * 2)
    (hcs : ∀ j v, cs[j]? = some v → w.cell? ⟨b, off + j, none⟩ = some v)
    (hvs : ∀ j v, vs[j]? = some v → w.cell? ⟨vb, voff + j, none⟩ = some v) (h1c : ∀ v ∈ cs.drop (i * 2), v.oneCell' = true) (h1v : ∀ v ∈ vs, v.oneCell' = true) :
    Calls Try.prog 80 #[.slice (some ⟨b, off, none⟩) n c, .int .i64 i, .slice (some ⟨vb, voff, none⟩) m vc] w fun e w' =>
      e = .returned (.slice (some ⟨w.heap.size, 0, none⟩) (n + m) (grownCap w (n + m) c 65)) ∧
      w' = (((w.alloc (.cells ((cs.take (i * 2)).toArray ++ Builtin.zeroCells (Value.agg #[.int .i64 0, .string ⟨#[]⟩]).cells (n + m - i) ++ Builtin.zeroCells (Value.agg #[.int .i64 0, .string ⟨#[]⟩]).cells (grownCap w (n + m) c 65 - (n + m))) 65)).drew.setCells w.heap.size (i * 2) vs).drew).setCells w.heap.size ((i + m) * 2) (cs.drop (i * 2)) := by
  have mixed : Try.prog.follows .mixedOrders = true := by kernel_rfl
  obtain ⟨i0, hi0, hz0, hzs, hzb⟩ := info_parts zGP
  have hz1 : ¬ ((m : Int) = 0) := by omega
  have hz2 : ¬ ((i : Int) = (n : Int)) := by omega
  have hz3 : (c : Int) < (n : Int) + (m : Int) := by omega
  have hsz : (Try.prog.info? 65).map (·.size) = some 2 := by rw [hi0]; simp [hzs]
  have u77 := run_underlying Try.underlying77
  have hbw : b < w.heap.size := block_lt_of_cell (hcs 0 _ (List.getElem?_eq_getElem (by omega)))
  have hvw : vb < w.heap.size := block_lt_of_cell (hvs 0 _ (List.getElem?_eq_getElem (by omega)))
  have hkk : (n : Int) + (m : Int) - (i : Int) = ((n + m - i : Nat) : Int) := by omega
  have hik : i + (n + m - i) = n + m := by omega
  have hold : (Builtin.firstCells i0.size i (.slice (some ⟨b, off, none⟩) i c)).run Try.prog w.drew = .ok (cs.take (i * 2)).toArray w.drew := by
    rw [hzs]
    exact run_firstCells_some w.drew 2 i ⟨b, off, none⟩ i c (cs.take (i * 2)) (by rw [List.length_take]; omega) (fun j v hj => by
      rw [Addr.add_lit]
      rw [List.getElem?_take] at hj
      split at hj
      · exact hcs j v hj
      · cases hj)
  have hrz : ∀ ty, (Builtin.append_ #[77, 3] ty #[.slice (some ⟨b, off, none⟩) i c, .int .i64 ((n : Int) + (m : Int) - (i : Int))]).run Try.prog w =
      .ok (.slice (some ⟨w.heap.size, 0, none⟩) (n + m) (grownCap w (n + m) c 65)) (w.drew.alloc (.cells ((cs.take (i * 2)).toArray ++ Builtin.zeroCells (Value.agg #[.int .i64 0, .string ⟨#[]⟩]).cells (n + m - i) ++ Builtin.zeroCells (Value.agg #[.int .i64 0, .string ⟨#[]⟩]).cells (grownCap w (n + m) c 65 - (n + m))) 65)) := fun ty => by
    have h := Lib.run_append_grow_zeros w 77 3 ty 65 i0 _ .i64 .i64 Try.underlying77 Try.underlying3 hi0 hz0 (some ⟨b, off, none⟩) i c (cs.take (i * 2)) hold (n + m - i) (by omega) (by omega) (by omega) (by omega) (by rw [hzb]; omega) (by rw [hzb, hik]; exact growslice_fits hroom hbig)
    rw [hik] at h
    rw [hkk]
    exact h
  obtain ⟨G, hG⟩ : ∃ G, G = grownCap w (n + m) c 65 := ⟨_, rfl⟩
  obtain ⟨ROW, hROW⟩ : ∃ ROW : Array Value, ROW = (cs.take (i * 2)).toArray ++ Builtin.zeroCells (Value.agg #[.int .i64 0, .string ⟨#[]⟩]).cells (n + m - i) ++ Builtin.zeroCells (Value.agg #[.int .i64 0, .string ⟨#[]⟩]).cells (G - (n + m)) := ⟨_, rfl⟩
  rw [← hG] at hrz ⊢
  rw [← hROW] at hrz ⊢
  have hRl : (n + m) * 2 ≤ ROW.size := by
    rw [hROW]
    simp [Builtin.zeroCells, Value.cells]
    omega
  obtain ⟨W1, hW1⟩ : ∃ W1, W1 = w.drew.alloc (.cells ROW 65) := ⟨_, rfl⟩
  rw [← hW1] at hrz
  have hN : ∀ j, j < (n + m) * 2 → (W1.cell? ⟨w.heap.size, j, none⟩).isSome = true := fun j hj => by
    rw [hW1, World.cell?_alloc_at (w := w.drew) ROW _ w.heap.size j rfl, Array.getElem?_eq_getElem (by omega)]; rfl
  have hNf : ∀ j, W1.frozen? ⟨w.heap.size, j, none⟩ = false := fun j => by rw [hW1]; exact World.frozen?_alloc_at (w := w.drew) ROW _ w.heap.size j rfl
  have hOb : ∀ j v, w.cell? ⟨b, j, none⟩ = some v → W1.cell? ⟨b, j, none⟩ = some v := fun j v h => by rw [hW1, World.cell?_alloc_past (w := w.drew) _ b j hbw]; exact h
  have hOv : ∀ j v, w.cell? ⟨vb, j, none⟩ = some v → W1.cell? ⟨vb, j, none⟩ = some v := fun j v h => by rw [hW1, World.cell?_alloc_past (w := w.drew) _ vb j hvw]; exact h
  have hcpA : ∀ (W : World), (∀ x, W.cell? x = W1.cell? x) → (∀ x, W.frozen? x = W1.frozen? x) → ∀ ty dc, (Builtin.copy_ #[77, 77] ty #[.slice (some ⟨w.heap.size, i * 2, none⟩) (n + m - i) dc, .slice (some ⟨vb, voff, none⟩) m vc]).run Try.prog W = .ok (goInt (Nat.min m (n + m - i))) (W.setCells w.heap.size (i * 2) vs) := fun W hWc hWf ty dc =>
    zFJ W _ _ ty 65 2 w.heap.size (i * 2) (n + m - i) dc ⟨vb, voff, none⟩ m vc vs Try.underlying77 hsz (by rw [hvl]; simp only [Nat.min_def]; split <;> omega)
      (fun j v hj => by rw [Addr.add_lit, hWc]; exact hOv _ v (hvs j v hj))
      (fun j hj => by rw [hWc]; exact hN _ (by omega)) (fun j hj => by rw [hWf]; exact hNf _) h1v
  have hGn : n + m ≤ G := by rw [hG]; exact grownCap_ge w _ _ _
  have hG63 : G ≤ 9223372036854775807 := by
    have := grownCap_le_maxLen w (n + m) c 65 (by unfold maxLen; omega)
    rw [← hG] at this
    unfold maxLen at this
    omega
  have hGi : ¬ (G = i) := by omega
  have hGim : ¬ (G = i + m) := by omega
  have hci : ¬ (c = i) := by omega
  have hbN : b ≠ w.heap.size := by omega
  have hdl : (cs.drop (i * 2)).length = (n - i) * 2 := by rw [List.length_drop, hcl]; omega
  have hcpB : ∀ (W : World), (∀ x, W.cell? x = (W1.setCells w.heap.size (i * 2) vs).cell? x) → (∀ x, W.frozen? x = (W1.setCells w.heap.size (i * 2) vs).frozen? x) → ∀ ty dc sc, (Builtin.copy_ #[77, 77] ty #[.slice (some ⟨w.heap.size, (i + m) * 2, none⟩) (n + m - (i + m)) dc, .slice (some ⟨b, off + i * 2, none⟩) (n - i) sc]).run Try.prog W = .ok (goInt (Nat.min (n - i) (n + m - (i + m)))) (W.setCells w.heap.size ((i + m) * 2) (cs.drop (i * 2))) := fun W hWc hWf ty dc sc =>
    zFJ W _ _ ty 65 2 w.heap.size ((i + m) * 2) (n + m - (i + m)) dc ⟨b, off + i * 2, none⟩ (n - i) sc (cs.drop (i * 2)) Try.underlying77 hsz (by rw [hdl]; simp only [Nat.min_def]; split <;> omega)
      (fun j v hj => by
        rw [Addr.add_lit, hWc, World.cell?_setCells_out _ _ _ _ _ (fun h _ => absurd h hbN), Nat.add_assoc]
        exact hOb _ v (hcs (i * 2 + j) v (by rwa [List.getElem?_drop] at hj)))
      (fun j hj => by rw [hWc]; exact isSome_setCells _ _ _ _ (fun t ht => hN _ (by omega)) _ (hN _ (by omega)))
      (fun j hj => by rw [hWf, World.frozen?_setCells]; exact hNf _) h1c
  subst hW1
  have hE1 : ∀ x, ((w.alloc (.cells ROW 65)).drew).cell? x = (w.drew.alloc (.cells ROW 65)).cell? x := fun x => rfl
  have hE2 : ∀ x, ((w.alloc (.cells ROW 65)).drew).frozen? x = (w.drew.alloc (.cells ROW 65)).frozen? x := fun x => rfl
  have hF1 : ∀ x, (((w.alloc (.cells ROW 65)).drew.setCells w.heap.size (i * 2) vs).drew).cell? x = ((w.drew.alloc (.cells ROW 65)).setCells w.heap.size (i * 2) vs).cell? x := fun x => rfl
  have hF2 : ∀ x, (((w.alloc (.cells ROW 65)).drew.setCells w.heap.size (i * 2) vs).drew).frozen? x = ((w.drew.alloc (.cells ROW 65)).setCells w.heap.size (i * 2) vs).frozen? x := fun x => rfl
  have hw1 : IntKind.i64.wrap ((i : Int) + (m : Int)) = (i : Int) + (m : Int) := by rw [IntKind.wrap_i64]; omega
  have hb1 : (0 : Int) ≤ (i : Int) + (m : Int) := by omega
  have hin : i ≤ n := by omega
  have htn : ((i : Int) + (m : Int)).toNat = i + m := by omega
  have hb3 : (i : Int) ≤ (n : Int) := by omega
  clear hkk hik hold hROW hG hRl
  go_enter Try.func80, Try.ntmps80
  go_wp2_with (first
    | (at_builtin; refine Lib.wpList_append_run _ rfl _ _ _ _ rfl _ _ rfl rfl _ _ (hrz _) ?_)
    | (at_builtin; refine wpList_copy_runI _ rfl _ _ 77 77 rfl _ _ rfl rfl (hcpA _ hE1 hE2 _ _) ?_)
    | (at_builtin; refine wpList_copy_runI _ rfl _ _ 77 77 rfl _ _ rfl rfl (hcpB _ (fun _ => rfl) (fun _ => rfl) _ _ _) ?_))
  go_region_law_o (refine step_copy_runI rfl _ _ 77 77 rfl (.slice (some ⟨w.heap.size, (i + m) * 2, none⟩) (n + m - (i + m)) (G - (i + m))) (.slice (some ⟨b, off + i * 2, none⟩) (n - i) (c - i)) (by simp [Act.eval, Act.put]) (by simp [Act.eval, Act.put]) (hcpB _ hF1 hF2 3 (G - (i + m)) (c - i)) ?_)
  go_wp2
  go_ret
  exact ⟨rfl, rfl⟩
set_option maxHeartbeats 4000000 in
set_option maxRecDepth 100000 in
theorem zV2 (base : Option Addr) (n c m vc : Nat) (va : Option Addr) (v : Value) (w w' : World) (hm : 0 < m) (hnc : n ≤ c) (hnil : base = none → n = 0)
    (hrun : (Builtin.append_ #[77, 77] 77 #[.slice base n c, .slice va m vc]).run Try.prog w = .ok v w') :
    Calls Try.prog 80 #[.slice base n c, .int .i64 n, .slice va m vc] w fun e w1 => e = .returned v ∧ w1 = w' := by
  have hz1 : ¬ ((m : Int) = 0) := by omega
  have u77 := run_underlying Try.underlying77
  go_enter Try.func80, Try.ntmps80
  cases base with
  | none =>
    have h0 := hnil rfl
    subst h0
    go_wp2_with (at_builtin; refine Lib.wpList_append_run _ rfl _ _ _ _ rfl _ _ rfl rfl _ _ hrun ?_)
    go_ret
    exact ⟨rfl, rfl⟩
  | some a =>
    obtain ⟨ab, ao, asp⟩ := a
    go_wp2_with (at_builtin; refine Lib.wpList_append_run _ rfl _ _ _ _ rfl _ _ rfl rfl _ _ hrun ?_)
    all_goals (go_ret; exact ⟨rfl, rfl⟩)
end Go.X
end
section
open Go Go.X Go.Proofs Go.RowKit
namespace Go.X
theorem insTagFn : InsFn Try.prog 80 77 65 2 24 (.agg #[.int .i64 0, .string ⟨#[]⟩]) where
  call := ⟨_, Try.func80, by decide +kernel, by kernel_rfl⟩
  und := Try.underlying77
  info := zGP
  zero := by kernel_rfl
  size := by kernel_rfl
  bytes := by kernel_rfl
  zlen := rfl
  by0 := by decide
  sz0 := by decide
  end_ := zV2
  shift := zV4
  grow := zV3
end Go.X
end
section
open Go Go.X Go.Proofs Go.RowKit
namespace Go.X
set_option linter.unusedVariables false
def U1 : List (Nat × Prim) := (40, za zBK) :: S1
def U2 : List (Nat × Prim) := (112, za zDM) :: U1
def U3 : List (Nat × Prim) := (82, zCu) :: U2
def U4 : List (Nat × Prim) := (75, zCK) :: U3
def U5 : List (Nat × Prim) := (95, zCL) :: U4
def U6 : List (Nat × Prim) := (113, zEJ) :: U5
def U7 : List (Nat × Prim) := (96, zEG) :: U6
def U8 : List (Nat × Prim) := (77, zCL) :: U7
def U9 : List (Nat × Prim) := (76, zDb) :: U8
def U10 : List (Nat × Prim) := (41, zEW) :: U9
def U11 : List (Nat × Prim) := (46, zDL) :: U10
def U12 : List (Nat × Prim) := (99, za cmpS) :: U11
def U13 : List (Nat × Prim) := (98, za zGH) :: U12
def U14 : List (Nat × Prim) := (97, bsG) :: U13
def U15 : List (Nat × Prim) := (79, zEC) :: U14
def U16 : List (Nat × Prim) := (80, zB2 2 24) :: U15
def U17 : List (Nat × Prim) := (102, za zEL) :: U16
def U18 : List (Nat × Prim) := (83, zEK) :: U17
def zD2 : Prim := fun args h => match args with
  | [.pointer (some a), .agg c, .agg ⟨[tv]⟩, msv] => match zy h a, hdrL h c.toList, zAU h tv, zw h msv with
    | some keys, some (x, _), some l, some ms => if zAW keys = true ∧ l.length ≤ 1000000 ∧ ms.length ≤ 1000000 then some (.int .i64 (zBj keys x l ms : Int), h) else none
    | _, _, _, _ => none
  | _ => none
theorem zI5 {h : Heap} {a : Addr} {keys : List (List UInt8)} (hr : zy h a = some keys) (hk : zAW keys = true) {x : Hdr} {mv : Value} (hx : HdAt h x mv) {tv : Value} {l : TagL} (hs : zAU h tv = some l) (hl : l.length ≤ 1000000) {msv : Value} {ms : List Int} (hms : zw h msv = some ms) (hml : ms.length ≤ 1000000) :
    zD2 [.pointer (some a), .agg (zd x mv).toArray, .agg [tv].toArray, msv] h = some (.int .i64 (zBj keys x l ms : Int), h) := by
  simp only [zD2, hr, zCp hx, hs, hms]
  rw [if_pos ⟨hk, hl, hml⟩]
def U19 : List (Nat × Prim) := (49, zD2) :: U18
def U20 : List (Nat × Prim) := (45, zG6) :: U19
theorem uk1 : XOK Try.prog (Tab Try.prog U1) := Tab.pure sk1 Try.func40 cq40 fun args v h => ⟨(zGc h).1, (zGc h).2.1, fun g => (zGc h).2.2 _ g rfl (zW Try.func40 cq40)⟩
theorem uk2 : XOK Try.prog (Tab Try.prog U2) := Tab.pure uk1 Try.func112 cq112 fun args v h => ⟨(zGL h).1, (zGL h).2.1, fun g => (zGL h).2.2 _ g⟩
theorem uk3 : XOK Try.prog (Tab Try.prog U3) := Tab.read uk2 Try.func82 cq82 fun args h v h' hr => by
  unfold zCu at hr
  split at hr
  · split at hr
    · split at hr
      · rename_i hs hl; cases hr; exact ⟨rfl, rfl, rfl, fun n wf => zWG _ (h.at n) _ _ hs hl⟩
      · cases hr
    · cases hr
  · cases hr
theorem uk4 : XOK Try.prog (Tab Try.prog U4) := Tab.read uk3 Try.func75 cq75 fun args h v h' hr => by
  unfold zCK at hr
  split at hr
  · split at hr
    · rename_i hx
      cases hr
      obtain ⟨e, hd⟩ := zBw hx
      rw [e]
      exact ⟨rfl, rfl, rfl, fun n wf => zVt _ rfl (h.at n) wf _ _ hd⟩
    · cases hr
  · cases hr
theorem wireU4 : zBi (Tab Try.prog U4) := ⟨rfl, rfl, zW Try.func51 cq51, rfl, zW Try.func91 cq91, rfl, zW Try.func66 cq66, rfl, zW Try.func92 cq92, rfl, zW Try.func67 cq67, rfl, zW Try.func68 cq68, rfl, zW Try.func53 cq53, rfl, zW Try.func54 cq54, rfl, zW Try.func69 cq69, rfl, zW Try.func93 cq93, rfl, zW Try.func94 cq94, rfl, zW Try.func70 cq70, rfl, zW Try.func71 cq71, rfl, zW Try.func72 cq72, rfl, zW Try.func84 cq84, rfl, zW Try.func56 cq56, rfl, zW Try.func57 cq57, rfl, zW Try.func58 cq58⟩
theorem headU4 : zCc (Tab Try.prog U4) := ⟨wireU4, rfl, rfl, rfl, zW Try.func124 cq124, rfl, zW Try.func111 cq111⟩
theorem uk5 : XOK Try.prog (Tab Try.prog U5) := Tab.read uk4 Try.func95 cq95 fun args h v h' hr => by
  unfold zCL at hr
  split at hr
  · split at hr
    · rename_i hx
      cases hr
      obtain ⟨e, hd⟩ := zBw hx
      rw [e]
      exact ⟨rfl, rfl, rfl, fun n wf => zVu _ headU4 rfl (h.at n) wf _ _ hd⟩
    · cases hr
  · cases hr
theorem uk6 : XOK Try.prog (Tab Try.prog U6) := Tab.read uk5 Try.func113 cq113 fun args h v h' hr => by
  unfold zEJ at hr
  split at hr
  · split at hr
    · split at hr
      · rename_i hs hl; cases hr; exact ⟨rfl, rfl, rfl, fun n wf => zWI _ rfl (h.at n) _ _ hs hl⟩
      · cases hr
    · cases hr
  · cases hr
theorem uk7 : XOK Try.prog (Tab Try.prog U7) := Tab.read uk6 Try.func96 cq96 fun args h v h' hr => by
  unfold zEG at hr
  split at hr
  · split at hr
    · rename_i hx
      cases hr
      obtain ⟨e, hd⟩ := zBw hx
      rw [e]
      exact ⟨rfl, rfl, rfl, fun n wf => zVs _ rfl rfl rfl (h.at n) wf _ _ hd⟩
    · cases hr
  · cases hr
theorem uk8 : XOK Try.prog (Tab Try.prog U8) := Tab.read uk7 Try.func77 cq77 fun args h v h' hr => by
  unfold zCL at hr
  split at hr
  · split at hr
    · rename_i hx
      cases hr
      obtain ⟨e, hd⟩ := zBw hx
      rw [e]
      exact ⟨rfl, rfl, rfl, fun n wf => zWc _ rfl rfl (h.at n) wf _ _ hd⟩
    · cases hr
  · cases hr
theorem uk9 : XOK Try.prog (Tab Try.prog U9) := Tab.read uk8 Try.func76 cq76 fun args h v h' hr => by
  unfold zDb at hr
  split at hr
  · split at hr
    · rename_i hx
      cases hr
      obtain ⟨e, hd⟩ := zBw hx
      rw [e]
      exact ⟨rfl, rfl, rfl, fun n wf => saidC_ok _ rfl rfl (h.at n) wf _ _ hd⟩
    · cases hr
  · cases hr
theorem uk10 : XOK Try.prog (Tab Try.prog U10) := Tab.read uk9 Try.func41 cq41 fun args h v h' hr => by
  unfold zEW at hr
  split at hr
  · split at hr
    · split at hr
      · rename_i hrg hx hk
        cases hr
        obtain ⟨e, hd⟩ := zBw hx
        rw [e]
        exact ⟨rfl, rfl, rfl, fun n wf => sign_ok _ rfl rfl rfl (h.at n) wf _ _ hrg hk _ _ _ hd⟩
      · cases hr
    · cases hr
  · cases hr
theorem uk11 : XOK Try.prog (Tab Try.prog U11) := Tab.read uk10 Try.func46 cq46 fun args h v h' hr => by
  unfold zDL at hr
  split at hr
  · rename_i a c r t
    split at hr
    · split at hr
      · rename_i hrg hx hk
        cases hr
        obtain ⟨e, hd⟩ := zBw hx
        rw [e]
        refine ⟨rfl, rfl, rfl, fun n wf => ?_⟩
        have := good_ok (Tab Try.prog U10) rfl rfl rfl (h.at n) wf a _ hrg hk r t.data.toList _ _ hd
        rw [tagV, zCZ] at this
        exact this
      · cases hr
    · cases hr
  · cases hr
theorem uk12 : XOK Try.prog (Tab Try.prog U12) := Tab.pure uk11 Try.func99 cq99 fun args v h => by
  unfold cmpS at h
  split at h
  · cases h; exact ⟨rfl, rfl, fun g => cmp_ok _ rfl (zW Try.func114 cq114) _ _ g⟩
  · cases h
theorem uk13 : XOK Try.prog (Tab Try.prog U13) := Tab.pure uk12 Try.func98 cq98 fun args v h => by
  unfold zGH at h
  split at h
  · rename_i a s b
    cases h
    refine ⟨rfl, rfl, fun g => ?_⟩
    have := zVn (Tab Try.prog U12) rfl a b s.data.toList g
    rw [tagV, zCZ] at this
    exact this
  · cases h
theorem uk14 : XOK Try.prog (Tab Try.prog U14) := Tab.read uk13 Try.func97 cq97 fun args h v h' hr => by
  unfold bsG at hr
  split at hr
  · split at hr
    · split at hr
      · rename_i hs hc; cases hr; exact ⟨rfl, rfl, rfl, fun n wf => bs_ok _ rfl (h.at n) _ _ _ hs hc.1 hc.2⟩
      · cases hr
    · cases hr
  · cases hr
theorem uk15 : XOK Try.prog (Tab Try.prog U15) := Tab.read uk14 Try.func79 cq79 fun args h v h' hr => by
  unfold zEC at hr
  split at hr
  · split at hr
    · split at hr
      · rename_i hs hc; cases hr; exact ⟨rfl, rfl, rfl, fun n wf => find_ok _ rfl (h.at n) wf _ _ _ hs hc.1 hc.2⟩
      · cases hr
    · cases hr
  · cases hr
theorem uk16 : XOK Try.prog (Tab Try.prog U16) := Tab.cons uk15 fun args h v h' hr => ⟨insTagFn.call, zJb hr, zV5 insTagFn hr⟩
theorem uk17 : XOK Try.prog (Tab Try.prog U17) := Tab.pure uk16 Try.func102 cq102 fun args v h => by
  unfold zEL at h
  split at h
  · split at h
    · rename_i hc; cases h; exact ⟨rfl, rfl, fun g => most_ok _ _ hc g⟩
    · cases h
  · cases h
theorem uk18 : XOK Try.prog (Tab Try.prog U18) := Tab.read uk17 Try.func83 cq83 fun args h v h' hr => by
  unfold zEK at hr
  split at hr
  · split at hr
    · split at hr
      · split at hr
        · rename_i hs hm _ _ hk hl
          cases hr
          refine ⟨rfl, rfl, rfl, fun n wf => cmost_ok _ rfl (h.at n) _ _ _ _ hs ?_ hl⟩
          unfold MapAt
          rw [← zJg hk]
          exact hm
        · cases hr
      · cases hr
    · cases hr
  · cases hr
theorem uk19 : XOK Try.prog (Tab Try.prog U19) := Tab.read uk18 Try.func49 cq49 fun args h v h' hr => by
  unfold zD2 at hr
  split at hr
  · split at hr
    · split at hr
      · rename_i hrg hx ht hm hc
        cases hr
        obtain ⟨e, hd⟩ := zBw hx
        rw [e]
        exact ⟨rfl, rfl, rfl, fun n wf => zUt _ ⟨rfl, rfl, rfl, rfl⟩ (h.at n) wf _ _ hrg hc.1 _ _ hd _ _ ht hc.2.1 _ _ hm hc.2.2⟩
      · cases hr
    · cases hr
  · cases hr
theorem headU19 : zCc (Tab Try.prog U19) := ⟨⟨rfl, rfl, zW Try.func51 cq51, rfl, zW Try.func91 cq91, rfl, zW Try.func66 cq66, rfl, zW Try.func92 cq92, rfl, zW Try.func67 cq67, rfl, zW Try.func68 cq68, rfl, zW Try.func53 cq53, rfl, zW Try.func54 cq54, rfl, zW Try.func69 cq69, rfl, zW Try.func93 cq93, rfl, zW Try.func94 cq94, rfl, zW Try.func70 cq70, rfl, zW Try.func71 cq71, rfl, zW Try.func72 cq72, rfl, zW Try.func84 cq84, rfl, zW Try.func56 cq56, rfl, zW Try.func57 cq57, rfl, zW Try.func58 cq58⟩, rfl, rfl, rfl, zW Try.func124 cq124, rfl, zW Try.func111 cq111⟩
theorem certU19 : zCA (Tab Try.prog U19) := ⟨headU19, rfl, rfl, rfl, rfl, rfl, rfl, rfl, zW Try.func27 cq27, rfl, rfl, rfl, zW Try.func42 cq42, rfl, zW Try.func43 cq43, rfl, zW Try.func78 cq78⟩
theorem uk20 : XOK Try.prog (Tab Try.prog U20) := Tab.read uk19 Try.func45 cq45 fun args h v h' hr => by
  unfold zG6 at hr
  split at hr
  · rename_i i c
    split at hr
    · split at hr
      · rename_i hx hc
        cases hr
        obtain ⟨e, hd⟩ := zBw hx
        rw [e]
        refine ⟨rfl, rfl, rfl, fun n wf => ?_⟩
        have := tag17_ok (Tab Try.prog U19) certU19 (h.at n) wf _ _ hd i.toNat (by omega)
        rw [show ((i.toNat : Nat) : Int) = i by omega] at this
        exact this
      · cases hr
    · cases hr
  · cases hr
end Go.X
end
