/- Certificates. -/
import Derived.Test.YtmhkcnibbodjnaaProg
import Derived.KernelRfl
import Derived.Shelf.Spec.SlicesInsertGrow
import Derived.Test.YtmhkcnibbodjnaaXC
import Derived.Test.YtmhkcnibbodjnaaXP
set_option linter.unusedSimpArgs false
set_option linter.unusedVariables false
set_option maxHeartbeats 2000000
section
open Go Go.X
namespace Go.X
set_option linter.unusedVariables false
theorem refHash_ok (pr : Prog) (hb : pr.prim 96 = some zCP) (ht : pr.prim 28 = some zBG) (h : Heap) (wf : HWF h) (x : Hdr) (mv : Value) (hx : HdAt h x mv) : Comes pr xq77 [.agg (ze x mv).toArray] h (.string (zB (zA5 x))) := by
  apply Comes.of
  unfold xq77
  dsimp only [zd]
  have hr64 : zU = 140737488355328 := rfl
  obtain ⟨g, hg, gg, gx, lN, _⟩ := hd_box hx wf
  have b1 := zu hb (headBytesG_at gx)
  have hl := headB_len x
  have hx3 := hx.2.2.1
  have tg := zu ht (zCF (p := 72) (one_str (h := g) (a := headB x)) (by decide) (by simp [zw, partB, zAV]; omega))
  have tg : cfi pr 28 [.int .u8 72, .slice (some ⟨g.next, 0, none⟩) 1 1] (g.new [.string (zB (headB x))]) = some (.string (zB (zA5 x)), _) := tg
  (repeat (first | refine zS ?_ | refine zL ?_ | refine zR ?_ | refine zE ?_ | refine zC ?_ | refine zJ ?_ | refine zK ?_ | refine zP ?_ | refine zF ?_ | refine zH ?_ | refine zG ?_ | refine zI (by decide) ?_ | refine zQ ?_ | ((first | refine zD ?_ | refine zN ?_ | refine zT rfl rfl ?_ | refine zO rfl ?_ | refine zM ?_); simp only [yq77.down, zA, lemS.down, lemC.down, Int.reduceBEq, Nat.reduceAdd, Nat.reduceLeDiff, reduceIte, Nat.reduceEqDiff, Int.reduceLT, Int.reduceLE, Int.reduceGT, Int.reduceGE, Int.reduceEq, Int.reduceAdd, Int.reduceSub, Int.reduceMul, reduceCtorEq, lemH.down, zAZ, hg, lN, b1, fill1s, tg])))
  exact ⟨.inr rfl, by simp only [yq77.down, zA, lemS.down, lemC.down, Int.reduceBEq, Nat.reduceAdd, Nat.reduceLeDiff, reduceIte, Nat.reduceEqDiff, Int.reduceLT, Int.reduceLE, Int.reduceGT, Int.reduceGE, Int.reduceEq, Int.reduceAdd, Int.reduceSub, Int.reduceMul, reduceCtorEq], gg.trans Grows.new⟩
def saidC (x : Hdr) : List UInt8 := tagged 67 [zA5 x]
def saidCG : Prim := fun args h => match args with
  | [.agg c] => match hdrL h c.toList with | some (x, _) => some (.string (zB (saidC x)), h) | none => none
  | _ => none
theorem saidCG_at {h : Heap} {x : Hdr} {mv : Value} (hx : HdAt h x mv) : saidCG [.agg (ze x mv).toArray] h = some (.string (zB (saidC x)), h) := by
  simp only [saidCG, hdrL_at hx]
theorem saidC_ok (pr : Prog) (hb : pr.prim 95 = some zBk) (ht : pr.prim 64 = some zBG) (h : Heap) (wf : HWF h) (x : Hdr) (mv : Value) (hx : HdAt h x mv) : Comes pr xq76 [.agg (ze x mv).toArray] h (.string (zB (saidC x))) := by
  apply Comes.of
  unfold xq76
  dsimp only [zd]
  have hr64 : zU = 140737488355328 := rfl
  obtain ⟨g, hg, gg, gx, lN, _⟩ := hd_box hx wf
  have b1 := zu hb (headHashG_at gx)
  have hl : (zA5 x).length = 32 := zCV _ _
  have tg := zu ht (zCF (p := 67) (one_str (h := g) (a := zA5 x)) (by decide) (by simp [zw, partB, zAV]; omega))
  have tg : cfi pr 64 [.int .u8 67, .slice (some ⟨g.next, 0, none⟩) 1 1] (g.new [.string (zB (zA5 x))]) = some (.string (zB (saidC x)), _) := tg
  (repeat (first | refine zS ?_ | refine zL ?_ | refine zR ?_ | refine zE ?_ | refine zC ?_ | refine zJ ?_ | refine zK ?_ | refine zP ?_ | refine zF ?_ | refine zH ?_ | refine zG ?_ | refine zI (by decide) ?_ | refine zQ ?_ | ((first | refine zD ?_ | refine zN ?_ | refine zT rfl rfl ?_ | refine zO rfl ?_ | refine zM ?_); simp only [yq76.down, zA, lemS.down, lemC.down, Int.reduceBEq, Nat.reduceAdd, Nat.reduceLeDiff, reduceIte, Nat.reduceEqDiff, Int.reduceLT, Int.reduceLE, Int.reduceGT, Int.reduceGE, Int.reduceEq, Int.reduceAdd, Int.reduceSub, Int.reduceMul, reduceCtorEq, lemH.down, zAZ, hg, lN, b1, fill1s, tg])))
  exact ⟨.inr rfl, by simp only [yq76.down, zA, lemS.down, lemC.down, Int.reduceBEq, Nat.reduceAdd, Nat.reduceLeDiff, reduceIte, Nat.reduceEqDiff, Int.reduceLT, Int.reduceLE, Int.reduceGT, Int.reduceGE, Int.reduceEq, Int.reduceAdd, Int.reduceSub, Int.reduceMul, reduceCtorEq], gg.trans Grows.new⟩
theorem saidC_len (x : Hdr) : (saidC x).length = 32 := zCV _ _
abbrev tagV (r : Int) (t : List UInt8) : Value := .agg #[.int .i64 r, .string (zB t)]
def signP (l : List (List UInt8)) (i : Int) (x : Hdr) : (Int × List UInt8) × Nat := if zAL x ≠ 0 then ((0, []), zAL x) else if (keyP l i).2 then ((i, mac (keyP l i).1 (saidC x)), 0) else ((0, []), 2)
def signG : Prim := fun args h => match args with
  | [.pointer (some a), .int .i64 i, .agg c] => match zAE h a, hdrL h c.toList with
    | some l, some (x, _) => if zAW l = true then some (.tuple #[tagV (signP l i x).1.1 (signP l i x).1.2, .int .i64 ((signP l i x).2 : Int)], h) else none
    | _, _ => none
  | _ => none
theorem signG_at {h : Heap} {a : Addr} {l : List (List UInt8)} {i : Int} {x : Hdr} {mv : Value} (hr : zAE h a = some l) (hk : zAW l = true) (hx : HdAt h x mv) : signG [.pointer (some a), .int .i64 i, .agg (ze x mv).toArray] h = some (.tuple #[tagV (signP l i x).1.1 (signP l i x).1.2, .int .i64 ((signP l i x).2 : Int)], h) := by
  simp only [signG, hr, hdrL_at hx]
  rw [if_pos hk]
theorem ringAt_grow {h h' : Heap} (wf : HWF h) (g : Grows h h') {a : Addr} {l : List (List UInt8)} (hr : zAE h a = some l) : zAE h' a = some l := by
  obtain ⟨v, hv, hsv⟩ := ringAt_elim hr
  unfold zAE
  rw [g.load wf hv]
  dsimp only
  unfold zA7 at hsv ⊢
  split at hsv
  · exact hsv
  · split at hsv
    · rename_i hn0
      rw [if_pos hn0]; exact hsv
    · rename_i hn0
      split at hsv
      · rename_i cs hcs
        rw [if_neg hn0, g.loadN wf hcs]; exact hsv
      · cases hsv
  · cases hsv
theorem fill_tag {r : Int} {t : List UInt8} : zz [.int .i64 0, .string (zB [])] [(0, 1, .int .i64 r), (1, 1, .string (zB t))] = some [.int .i64 r, .string (zB t)] := rfl
theorem fill_tag0 : zz [.int .i64 0, .string (zB [])] [] = some [.int .i64 0, .string (zB [])] := rfl
theorem zCL {r : Int} {t : List UInt8} : zl (tagV r t) = [.int .i64 r, .string (zB t)] := rfl
theorem sign_ok (pr : Prog) (hc : pr.prim 75 = some zBj) (hs : pr.prim 76 = some saidCG) (ht : pr.prim 24 = some ringTagG) (h : Heap) (wf : HWF h) (a : Addr) (l : List (List UInt8)) (hr : zAE h a = some l) (hk : zAW l = true) (i : Int) (x : Hdr) (mv : Value) (hx : HdAt h x mv) :
    Comes pr xq41 [.pointer (some a), .int .i64 i, .agg (ze x mv).toArray] h (.tuple #[tagV (signP l i x).1.1 (signP l i x).1.2, .int .i64 ((signP l i x).2 : Int)]) := by
  apply Comes.of
  unfold xq41
  dsimp only [zd]
  have hr64 : zU = 140737488355328 := rfl
  obtain ⟨g, hg, gg, gx, lN, _⟩ := hd_box hx wf
  have hv : Var g h.next (ze x mv) := by rw [← hg]; exact Var.new_self
  have gnx : g.next = h.next + 1 := by rw [← hg]; rfl
  obtain ⟨g1, hg1, v1, gg1⟩ : ∃ g1, g.new [.int .i64 0, .string (zB [])] = g1 ∧ Var g1 g.next [.int .i64 0, .string (zB [])] ∧ Grows g g1 := ⟨_, rfl, Var.new_self, Grows.new⟩
  have g01 := gg.trans gg1
  have gx1 := hx.grow wf g01
  have lN1 : ∀ sp, g1.loadN ⟨h.next, 0, sp⟩ 5 = some (ze x mv) := fun sp => (hv.grow gg1).loadAll rfl
  have cc := zu hc (zCu gx1)
  have st0 : zAG g1 2 (.pointer (some ⟨g.next, 0, none⟩)) (.agg [.int .i64 0, .string (zB [])].toArray) = some (.tuple #[], g1.wr g.next [.int .i64 0, .string (zB [])]) := v1.storeAll rfl rfl (by decide) rfl
  unfold signP
  by_cases h0 : zAL x = 0
  · have b0 : ((zAL x : Int) == 0) = true := by rw [h0]; rfl
    rw [if_neg (by omega)]
    have sd := zu hs (saidCG_at gx1)
    have tg := zu ht (ringTagG_at (i := i) (s := saidC x) (ringAt_grow wf g01 hr) hk (by rw [saidC_len]; omega))
    cases hkey : (keyP l i).2
    · have e : tagP l i (saidC x) = ([], 2) := by unfold tagP; rw [hkey]; rfl
      rw [e] at tg
      (repeat (first | refine zS ?_ | refine zL ?_ | refine zR ?_ | refine zE ?_ | refine zC ?_ | refine zJ ?_ | refine zK ?_ | refine zP ?_ | refine zF ?_ | refine zH ?_ | refine zG ?_ | refine zI (by decide) ?_ | refine zQ ?_ | ((first | refine zD ?_ | refine zN ?_ | refine zT rfl rfl ?_ | refine zO rfl ?_ | refine zM ?_); simp only [yq41.down, zA, lemS.down, lemC.down, Int.reduceBEq, Nat.reduceAdd, Nat.reduceLeDiff, reduceIte, Nat.reduceEqDiff, Int.reduceLT, Int.reduceLE, Int.reduceGT, Int.reduceGE, Int.reduceEq, Int.reduceAdd, Int.reduceSub, Int.reduceMul, reduceCtorEq, lemH.down, zAZ, hg, hg1, lN1, cc, b0, sd, tg, fill_tag0, st0])))
      refine ⟨.inr rfl, zCv (a := ⟨g.next, 0, none⟩) (by simp only [yq41.down, zA, lemS.down, lemC.down, Int.reduceBEq, Nat.reduceAdd, Nat.reduceLeDiff, reduceIte, Nat.reduceEqDiff, Int.reduceLT, Int.reduceLE, Int.reduceGT, Int.reduceGE, Int.reduceEq, Int.reduceAdd, Int.reduceSub, Int.reduceMul, reduceCtorEq]) (v1.wr.loadAll rfl) (by simp only [yq41.down, zA, lemS.down, lemC.down, Int.reduceBEq, Nat.reduceAdd, Nat.reduceLeDiff, reduceIte, Nat.reduceEqDiff, Int.reduceLT, Int.reduceLE, Int.reduceGT, Int.reduceGE, Int.reduceEq, Int.reduceAdd, Int.reduceSub, Int.reduceMul, reduceCtorEq]), g01.wr (by omega)⟩
    · have e : tagP l i (saidC x) = (mac (keyP l i).1 (saidC x), 0) := by unfold tagP; rw [hkey]; rfl
      rw [e] at tg
      have st1 : zAG g1 2 (.pointer (some ⟨g.next, 0, none⟩)) (.agg [.int .i64 i, .string (zB (mac (keyP l i).1 (saidC x)))].toArray) = some (.tuple #[], g1.wr g.next [.int .i64 i, .string (zB (mac (keyP l i).1 (saidC x)))]) := v1.storeAll rfl rfl (by decide) rfl
      (repeat (first | refine zS ?_ | refine zL ?_ | refine zR ?_ | refine zE ?_ | refine zC ?_ | refine zJ ?_ | refine zK ?_ | refine zP ?_ | refine zF ?_ | refine zH ?_ | refine zG ?_ | refine zI (by decide) ?_ | refine zQ ?_ | ((first | refine zD ?_ | refine zN ?_ | refine zT rfl rfl ?_ | refine zO rfl ?_ | refine zM ?_); simp only [yq41.down, zA, lemS.down, lemC.down, Int.reduceBEq, Nat.reduceAdd, Nat.reduceLeDiff, reduceIte, Nat.reduceEqDiff, Int.reduceLT, Int.reduceLE, Int.reduceGT, Int.reduceGE, Int.reduceEq, Int.reduceAdd, Int.reduceSub, Int.reduceMul, reduceCtorEq, lemH.down, zAZ, hg, hg1, lN1, cc, b0, sd, tg, fill_tag, st1])))
      refine ⟨.inr rfl, zCv (a := ⟨g.next, 0, none⟩) (by simp only [yq41.down, zA, lemS.down, lemC.down, Int.reduceBEq, Nat.reduceAdd, Nat.reduceLeDiff, reduceIte, Nat.reduceEqDiff, Int.reduceLT, Int.reduceLE, Int.reduceGT, Int.reduceGE, Int.reduceEq, Int.reduceAdd, Int.reduceSub, Int.reduceMul, reduceCtorEq]) (v1.wr.loadAll rfl) (by simp only [yq41.down, zA, lemS.down, lemC.down, Int.reduceBEq, Nat.reduceAdd, Nat.reduceLeDiff, reduceIte, Nat.reduceEqDiff, Int.reduceLT, Int.reduceLE, Int.reduceGT, Int.reduceGE, Int.reduceEq, Int.reduceAdd, Int.reduceSub, Int.reduceMul, reduceCtorEq]), g01.wr (by omega)⟩
  · have b0 : ((zAL x : Int) == 0) = false := by rw [beq_eq_false_iff_ne]; omega
    rw [if_pos h0]
    (repeat (first | refine zS ?_ | refine zL ?_ | refine zR ?_ | refine zE ?_ | refine zC ?_ | refine zJ ?_ | refine zK ?_ | refine zP ?_ | refine zF ?_ | refine zH ?_ | refine zG ?_ | refine zI (by decide) ?_ | refine zQ ?_ | ((first | refine zD ?_ | refine zN ?_ | refine zT rfl rfl ?_ | refine zO rfl ?_ | refine zM ?_); simp only [yq41.down, zA, lemS.down, lemC.down, Int.reduceBEq, Nat.reduceAdd, Nat.reduceLeDiff, reduceIte, Nat.reduceEqDiff, Int.reduceLT, Int.reduceLE, Int.reduceGT, Int.reduceGE, Int.reduceEq, Int.reduceAdd, Int.reduceSub, Int.reduceMul, reduceCtorEq, lemH.down, zAZ, hg, hg1, lN1, cc, b0, fill_tag0, st0])))
    refine ⟨.inr rfl, zCv (a := ⟨g.next, 0, none⟩) (by simp only [yq41.down, zA, lemS.down, lemC.down, Int.reduceBEq, Nat.reduceAdd, Nat.reduceLeDiff, reduceIte, Nat.reduceEqDiff, Int.reduceLT, Int.reduceLE, Int.reduceGT, Int.reduceGE, Int.reduceEq, Int.reduceAdd, Int.reduceSub, Int.reduceMul, reduceCtorEq]) (v1.wr.loadAll rfl) (by simp only [yq41.down, zA, lemS.down, lemC.down, Int.reduceBEq, Nat.reduceAdd, Nat.reduceLeDiff, reduceIte, Nat.reduceEqDiff, Int.reduceLT, Int.reduceLE, Int.reduceGT, Int.reduceGE, Int.reduceEq, Int.reduceAdd, Int.reduceSub, Int.reduceMul, reduceCtorEq]), g01.wr (by omega)⟩
def goodP (l : List (List UInt8)) (x : Hdr) (r : Int) (t : List UInt8) : Bool := decide (zAL x = 0) && checkP l r (saidC x) t
def goodG : Prim := fun args h => match args with
  | [.pointer (some a), .agg c, .agg ⟨[.int .i64 r, .string t]⟩] => match zAE h a, hdrL h c.toList with
    | some l, some (x, _) => if zAW l = true then some (.bool (goodP l x r t.data.toList), h) else none
    | _, _ => none
  | _ => none
theorem goodG_at {h : Heap} {a : Addr} {l : List (List UInt8)} {x : Hdr} {mv : Value} {r : Int} {t : List UInt8} (hr : zAE h a = some l) (hk : zAW l = true) (hx : HdAt h x mv) : goodG [.pointer (some a), .agg (ze x mv).toArray, tagV r t] h = some (.bool (goodP l x r t), h) := by
  simp only [goodG, tagV, hr, hdrL_at hx, zAe]
  rw [if_pos hk]
theorem good_ok (pr : Prog) (hc : pr.prim 75 = some zBj) (hs : pr.prim 76 = some saidCG) (ht : pr.prim 26 = some zCC) (h : Heap) (wf : HWF h) (a : Addr) (l : List (List UInt8)) (hr : zAE h a = some l) (hk : zAW l = true) (r : Int) (tg : List UInt8) (x : Hdr) (mv : Value) (hx : HdAt h x mv) :
    Comes pr xq46 [.pointer (some a), .agg (ze x mv).toArray, tagV r tg] h (.bool (goodP l x r tg)) := by
  apply Comes.of
  unfold xq46
  dsimp only [zd]
  have hr64 : zU = 140737488355328 := rfl
  obtain ⟨g, hg, gg, gx, lN, _⟩ := hd_box hx wf
  have hv : Var g h.next (ze x mv) := by rw [← hg]; exact Var.new_self
  have gnx : g.next = h.next + 1 := by rw [← hg]; rfl
  obtain ⟨g1, hg1, v1, gg1⟩ : ∃ g1, g.new [.int .i64 r, .string (zB tg)] = g1 ∧ Var g1 g.next [.int .i64 r, .string (zB tg)] ∧ Grows g g1 := ⟨_, rfl, Var.new_self, Grows.new⟩
  have g01 := gg.trans gg1
  have gx1 := hx.grow wf g01
  have lN1 : ∀ sp, g1.loadN ⟨h.next, 0, sp⟩ 5 = some (ze x mv) := fun sp => (hv.grow gg1).loadAll rfl
  have l0 : ∀ sp, g1.load ⟨g.next, 0, sp⟩ = some (.int .i64 r) := fun sp => v1.load
  have l1 : ∀ sp, g1.load ⟨g.next, 1, sp⟩ = some (.string (zB tg)) := fun sp => v1.load
  have cc := zu hc (zCu gx1)
  unfold goodP
  by_cases h0 : zAL x = 0
  · have b0 : ((zAL x : Int) == 0) = true := by rw [h0]; rfl
    have d0 : decide (zAL x = 0) = true := by simpa using h0
    rw [d0, Bool.true_and]
    have sd := zu hs (saidCG_at gx1)
    have ch := zu ht (ringCheckG_at (i := r) (s := saidC x) (t := tg) (ringAt_grow wf g01 hr) hk (by rw [saidC_len]; omega))
    (repeat (first | refine zS ?_ | refine zL ?_ | refine zR ?_ | refine zE ?_ | refine zC ?_ | refine zJ ?_ | refine zK ?_ | refine zP ?_ | refine zF ?_ | refine zH ?_ | refine zG ?_ | refine zI (by decide) ?_ | refine zQ ?_ | ((first | refine zD ?_ | refine zN ?_ | refine zT rfl rfl ?_ | refine zO rfl ?_ | refine zM ?_); simp only [yq46.down, zA, lemS.down, lemC.down, Int.reduceBEq, Nat.reduceAdd, Nat.reduceLeDiff, reduceIte, Nat.reduceEqDiff, Int.reduceLT, Int.reduceLE, Int.reduceGT, Int.reduceGE, Int.reduceEq, Int.reduceAdd, Int.reduceSub, Int.reduceMul, reduceCtorEq, lemH.down, zAZ, zCL, hg, hg1, lN1, l0, l1, cc, b0, sd, ch])))
    exact ⟨.inr rfl, by simp only [yq46.down, zA, lemS.down, lemC.down, Int.reduceBEq, Nat.reduceAdd, Nat.reduceLeDiff, reduceIte, Nat.reduceEqDiff, Int.reduceLT, Int.reduceLE, Int.reduceGT, Int.reduceGE, Int.reduceEq, Int.reduceAdd, Int.reduceSub, Int.reduceMul, reduceCtorEq], g01⟩
  · have b0 : ((zAL x : Int) == 0) = false := by rw [beq_eq_false_iff_ne]; omega
    have d0 : decide (zAL x = 0) = false := by simpa using h0
    rw [d0, Bool.false_and]
    (repeat (first | refine zS ?_ | refine zL ?_ | refine zR ?_ | refine zE ?_ | refine zC ?_ | refine zJ ?_ | refine zK ?_ | refine zP ?_ | refine zF ?_ | refine zH ?_ | refine zG ?_ | refine zI (by decide) ?_ | refine zQ ?_ | ((first | refine zD ?_ | refine zN ?_ | refine zT rfl rfl ?_ | refine zO rfl ?_ | refine zM ?_); simp only [yq46.down, zA, lemS.down, lemC.down, Int.reduceBEq, Nat.reduceAdd, Nat.reduceLeDiff, reduceIte, Nat.reduceEqDiff, Int.reduceLT, Int.reduceLE, Int.reduceGT, Int.reduceGE, Int.reduceEq, Int.reduceAdd, Int.reduceSub, Int.reduceMul, reduceCtorEq, lemH.down, zAZ, zCL, hg, hg1, lN1, l0, l1, cc, b0, zAU])))
    exact ⟨.inr rfl, by simp only [yq46.down, zA, lemS.down, lemC.down, Int.reduceBEq, Nat.reduceAdd, Nat.reduceLeDiff, reduceIte, Nat.reduceEqDiff, Int.reduceLT, Int.reduceLE, Int.reduceGT, Int.reduceGE, Int.reduceEq, Int.reduceAdd, Int.reduceSub, Int.reduceMul, reduceCtorEq], g01⟩
end Go.X
end
section
open Go Go.X
namespace Go.X
set_option linter.unusedVariables false
structure CertTab (pr : Prog) : Prop where
  head : HeadTab pr
  tagged : pr.prim 64 = some zBG
  rtagged : pr.prim 28 = some zBG
  rtag : pr.prim 19 = some (zb tagS)
  rsum : pr.prim 18 = some (zb shaS)
  num : pr.prim 40 = some (zb wnumS)
  rhash : pr.prim 77 = some zBk
  newr : pr.prim 27 = none
  newrC : pr.code 27 = some xq27
  sign : pr.prim 41 = some signG
  good : pr.prim 46 = some goodG
  ring : pr.prim 42 = none
  ringC : pr.code 42 = some xq42
  hdr : pr.prim 43 = none
  hdrC : pr.code 43 = some xq43
  ref8 : pr.prim 78 = none
  ref8C : pr.code 78 = some xq78
theorem zCT {t : Fr} {h : Heap} {i n : Nat} {a : Addr} {vs : List Value} (ht : t.get i = .pointer (some a)) (hl : h.loadN a n = some vs) : zAO t h [.cellN i n] = some (.agg vs.toArray) := by
  simp [zAO, resAll, resX, ht, hl, tupleOf]
def RdRing (h : Heap) (a : Addr) (l : List (List UInt8)) : Prop := ∀ h', Grows h h' → zAE h' a = some l
def RdHd (h : Heap) (x : Hdr) (mv : Value) : Prop := ∀ h', Grows h h' → HdAt h' x mv
theorem RdRing.grow {h h' : Heap} {a : Addr} {l : List (List UInt8)} (hr : RdRing h a l) (g : Grows h h') : RdRing h' a l := fun h2 g2 => hr h2 (g.trans g2)
theorem RdHd.grow {h h' : Heap} {x : Hdr} {mv : Value} (hr : RdHd h x mv) (g : Grows h h') : RdHd h' x mv := fun h2 g2 => hr h2 (g.trans g2)
theorem RdRing.now {h : Heap} {a : Addr} {l : List (List UInt8)} (hr : RdRing h a l) : zAE h a = some l := hr h (Grows.refl h)
theorem RdHd.now {h : Heap} {x : Hdr} {mv : Value} (hr : RdHd h x mv) : HdAt h x mv := hr h (Grows.refl h)
abbrev zAg : List (List UInt8) := zBA seedB 16
theorem ring17 {pr : Prog} (T : CertTab pr) (h : Heap) : ∃ h', cfi pr 42 [] h = some (.pointer (some ⟨h.next, 0, none⟩), h') ∧ RdRing h' ⟨h.next, 0, none⟩ zAg ∧ Grows h h' := by
  have : ∃ v h', cfi pr 42 [] h = some (v, h') ∧ v = .pointer (some ⟨h.next, 0, none⟩) ∧ Ring h' h.next h.next zAg ∧ Grows h h' := by
    refine zAt T.ring T.ringC rfl ?_
    unfold xq42
    dsimp only [zd]
    refine wpk.out (k := []) ?_
    obtain ⟨v, h', e, rfl, ⟨w, h1, h2⟩, g⟩ := NewRing_run pr T.tagged T.newr T.newrC h seedB 16 (by decide) (by decide)
    have e : cfi pr 27 [.string (zB [115, 101, 101, 100]), .int .i64 16] h = _ := e
    (repeat (first | refine zS ?_ | refine zL ?_ | refine zR ?_ | refine zE ?_ | refine zC ?_ | refine zJ ?_ | refine zK ?_ | refine zP ?_ | refine zF ?_ | refine zH ?_ | refine zG ?_ | refine zI (by decide) ?_ | refine zQ ?_ | ((first | refine zD ?_ | refine zN ?_ | refine zT rfl rfl ?_ | refine zO rfl ?_ | refine zM ?_); simp only [yq42.down, zA, lemS.down, lemC.down, Int.reduceBEq, Nat.reduceAdd, Nat.reduceLeDiff, reduceIte, Nat.reduceEqDiff, Int.reduceLT, Int.reduceLE, Int.reduceGT, Int.reduceGE, Int.reduceEq, Int.reduceAdd, Int.reduceSub, Int.reduceMul, reduceCtorEq, e])))
    exact ⟨.inr rfl, _, rfl, by simp only [yq42.down, zA, lemS.down, lemC.down, Int.reduceBEq, Nat.reduceAdd, Nat.reduceLeDiff, reduceIte, Nat.reduceEqDiff, Int.reduceLT, Int.reduceLE, Int.reduceGT, Int.reduceGE, Int.reduceEq, Int.reduceAdd, Int.reduceSub, Int.reduceMul, reduceCtorEq], ⟨w, h1, by rw [ringKeys_len]; exact h2⟩, g⟩
  obtain ⟨v, h', e, rfl, ⟨w, r1, r2⟩, g⟩ := this
  exact ⟨h', e, fun h2 g2 => Ring.at ⟨w, r1.grow g2, r2.grow g2⟩, g⟩
def zZ (n : Nat) : Hdr := ⟨n % 1000 + 1, sha (numB n 8), sha (numB n 8), sha (numB n 8), [0, 1, 2]⟩
theorem three_ints {h : Heap} : zAC (h.new [.int .i64 0, .int .i64 1, .int .i64 2]) (.slice (some ⟨h.next, 0, none⟩) 3 3) = some [0, 1, 2] := by
  have hv : Var (h.new [.int .i64 0, .int .i64 1, .int .i64 2]) h.next [.int .i64 0, .int .i64 1, .int .i64 2] := Var.new_self
  simp only [zAC]
  rw [if_neg (by decide), hv.loadAll (n := 3) rfl]
  rfl
theorem fill3i : zz [.int .i64 0, .int .i64 0, .int .i64 0] [(0, 1, .int .i64 0), (1, 1, .int .i64 1), (2, 1, .int .i64 2)] = some [.int .i64 0, .int .i64 1, .int .i64 2] := rfl
theorem fill_hd {n : Int} {p t s : List UInt8} {b : Option Addr} {k c : Nat} : zz [.int .u64 0, .string (zB []), .string (zB []), .string (zB []), .slice none 0 0] [(0, 1, .int .u64 n), (1, 1, .string (zB p)), (2, 1, .string (zB t)), (3, 1, .string (zB s)), (4, 1, .slice b k c)] = some [.int .u64 n, .string (zB p), .string (zB t), .string (zB s), .slice b k c] := rfl
theorem header17 {pr : Prog} (T : CertTab pr) (h : Heap) (n : Nat) (hn : n < 18446744073709551616) : ∃ mv h', cfi pr 43 [.int .u64 (n : Int)] h = some (.agg (ze (zZ n) mv).toArray, h') ∧ RdHd h' (zZ n) mv ∧ Grows h h' := by
  have : ∃ v h', cfi pr 43 [.int .u64 (n : Int)] h = some (v, h') ∧ ∃ mv, v = .agg (ze (zZ n) mv).toArray ∧ RdHd h' (zZ n) mv ∧ Grows h h' := by
    refine zAt T.hdr T.hdrC rfl ?_
    unfold xq43
    dsimp only [zd]
    refine wpk.out (k := []) ?_
    have hr64 : zU = 140737488355328 := rfl
    obtain ⟨g, hg, v0, gg⟩ : ∃ g, h.new [.int .u64 0, .string (zB []), .string (zB []), .string (zB []), .slice none 0 0] = g ∧ Var g h.next [.int .u64 0, .string (zB []), .string (zB []), .string (zB []), .slice none 0 0] ∧ Grows h g := ⟨_, rfl, Var.new_self, Grows.new⟩
    have gnx : g.next = h.next + 1 := by rw [← hg]; rfl
    have n0 := zf (h := g) T.num (wnumS_at (n := n) (k := 8) hn (by decide))
    rw [← zBD hn] at n0
    have n0 : cfi pr 40 [.int .u64 (n : Int), .int .i64 8] g = _ := n0
    have s0 := zf (h := g) T.rsum (shaS_at (s := numB n 8) (by rw [zAh]; omega))
    have rm : binX .rem (.int .u64 (n : Int)) (.int .u64 1000) = some (.int .u64 ((n % 1000 : Nat) : Int)) := by
      rw [bin_rem (by decide)]
      congr 2
    have w : IntKind.u64.wrap (((n % 1000 : Nat) : Int) + 1) = ((n % 1000 + 1 : Nat) : Int) := by
      have : IntKind.u64.wrap (((n % 1000 : Nat) : Int) + 1) = (((n % 1000 : Nat) : Int) + 1) % 18446744073709551616 := by simp [IntKind.wrap, IntKind.signed, IntKind.bits]
      rw [this]
      omega
    obtain ⟨g1, hg1, v1, gg1, ti⟩ : ∃ g1, g.new [.int .i64 0, .int .i64 1, .int .i64 2] = g1 ∧ Var g1 h.next [.int .u64 0, .string (zB []), .string (zB []), .string (zB []), .slice none 0 0] ∧ Grows g g1 ∧ zAC g1 (.slice (some ⟨g.next, 0, none⟩) 3 3) = some [0, 1, 2] := ⟨_, rfl, v0.new_old, Grows.new, three_ints⟩
    have st : zAG g1 5 (.pointer (some ⟨h.next, 0, none⟩)) (.agg [.int .u64 ((n % 1000 + 1 : Nat) : Int), .string (zB (sha (numB n 8))), .string (zB (sha (numB n 8))), .string (zB (sha (numB n 8))), .slice (some ⟨g.next, 0, none⟩) 3 3].toArray) = some (.tuple #[], g1.wr h.next [.int .u64 ((n % 1000 + 1 : Nat) : Int), .string (zB (sha (numB n 8))), .string (zB (sha (numB n 8))), .string (zB (sha (numB n 8))), .slice (some ⟨g.next, 0, none⟩) 3 3]) := v1.storeAll rfl rfl (by decide) rfl
    (repeat (first | refine zS ?_ | refine zL ?_ | refine zR ?_ | refine zE ?_ | refine zC ?_ | refine zJ ?_ | refine zK ?_ | refine zP ?_ | refine zF ?_ | refine zH ?_ | refine zG ?_ | refine zI (by decide) ?_ | refine zQ ?_ | ((first | refine zD ?_ | refine zN ?_ | refine zT rfl rfl ?_ | refine zO rfl ?_ | refine zM ?_); simp only [yq43.down, zA, lemS.down, lemC.down, Int.reduceBEq, Nat.reduceAdd, Nat.reduceLeDiff, reduceIte, Nat.reduceEqDiff, Int.reduceLT, Int.reduceLE, Int.reduceGT, Int.reduceGE, Int.reduceEq, Int.reduceAdd, Int.reduceSub, Int.reduceMul, reduceCtorEq, lemH.down, hg, n0, s0, rm, w, fill3i, hg1, fill_hd, st])))
    have tiw : ∀ h2, Grows (g1.wr h.next [.int .u64 ((n % 1000 + 1 : Nat) : Int), .string (zB (sha (numB n 8))), .string (zB (sha (numB n 8))), .string (zB (sha (numB n 8))), .slice (some ⟨g.next, 0, none⟩) 3 3]) h2 → zAC h2 (.slice (some ⟨g.next, 0, none⟩) 3 3) = some [0, 1, 2] := fun h2 gh2 => by
      have hv : Var g1 g.next [.int .i64 0, .int .i64 1, .int .i64 2] := by rw [← hg1]; exact Var.new_self
      have hv2 := (hv.wr_ne (A := h.next) (m := [.int .u64 ((n % 1000 + 1 : Nat) : Int), .string (zB (sha (numB n 8))), .string (zB (sha (numB n 8))), .string (zB (sha (numB n 8))), .slice (some ⟨g.next, 0, none⟩) 3 3]) (by omega)).grow gh2
      simp only [zAC]
      rw [if_neg (by decide), hv2.loadAll (n := 3) rfl]
      rfl
    have hl : (sha (numB n 8)).length = 32 := zBN _
    refine ⟨.inr rfl, _, zCT (a := ⟨h.next, 0, none⟩) (by simp only [yq43.down, zA, lemS.down, lemC.down, Int.reduceBEq, Nat.reduceAdd, Nat.reduceLeDiff, reduceIte, Nat.reduceEqDiff, Int.reduceLT, Int.reduceLE, Int.reduceGT, Int.reduceGE, Int.reduceEq, Int.reduceAdd, Int.reduceSub, Int.reduceMul, reduceCtorEq]) (v1.wr.loadAll rfl), .slice (some ⟨g.next, 0, none⟩) 3 3, rfl, fun h2 gh2 => ⟨?_, tiw h2 gh2, by show 3 ≤ 1000000; decide, ?_, ?_, ?_⟩, (gg.trans gg1).wr (Nat.le_refl _)⟩
    · show n % 1000 + 1 < _
      omega
    · show (sha (numB n 8)).length + _ ≤ _
      omega
    · show (sha (numB n 8)).length + _ ≤ _
      omega
    · show (sha (numB n 8)).length + _ ≤ _
      omega
  obtain ⟨v, h', e, mv, rfl, r⟩ := this
  exact ⟨mv, h', e, r⟩
theorem Ref8_run {pr : Prog} (T : CertTab pr) {h : Heap} (wf : HWF h) {x : Hdr} {mv : Value} (hx : HdAt h x mv) : ∃ h', cfi pr 78 [.agg (ze x mv).toArray] h = some (.agg (ze x mv).toArray, h') ∧ HdAt h' x mv ∧ Grows h h' := by
  have : ∃ v h', cfi pr 78 [.agg (ze x mv).toArray] h = some (v, h') ∧ v = .agg (ze x mv).toArray ∧ HdAt h' x mv ∧ Grows h h' := by
    refine zAt T.ref8 T.ref8C rfl ?_
    unfold xq78
    dsimp only [zd]
    refine wpk.out (k := []) ?_
    obtain ⟨g, hg, gg, gx, lN, l0, l1, l2, l3, l4⟩ := hd_box hx wf
    obtain ⟨hone1, hone2⟩ := intsAt_one hx.2.1
    obtain ⟨_, b, cap, emv, _⟩ := zBd hx.2.1
    obtain ⟨g1, hg1, v1, gg1⟩ : ∃ g1, g.new [.int .u64 0, .string (zB []), .string (zB []), .string (zB []), .slice none 0 0] = g1 ∧ Var g1 g.next [.int .u64 0, .string (zB []), .string (zB []), .string (zB []), .slice none 0 0] ∧ Grows g g1 := ⟨_, rfl, Var.new_self, Grows.new⟩
    have hv : Var g h.next (ze x mv) := by rw [← hg]; exact Var.new_self
    have hv1 := hv.grow gg1
    have m0 : ∀ sp, g1.load ⟨h.next, 0, sp⟩ = some (.int .u64 (x.n : Int)) := fun sp => hv1.load
    have m1 : ∀ sp, g1.load ⟨h.next, 1, sp⟩ = some (.string (zB x.p)) := fun sp => hv1.load
    have m2 : ∀ sp, g1.load ⟨h.next, 2, sp⟩ = some (.string (zB x.t)) := fun sp => hv1.load
    have m3 : ∀ sp, g1.load ⟨h.next, 3, sp⟩ = some (.string (zB x.s)) := fun sp => hv1.load
    have m4 : ∀ sp, g1.load ⟨h.next, 4, sp⟩ = some mv := fun sp => hv1.load
    have st : zAG g1 5 (.pointer (some ⟨g.next, 0, none⟩)) (.agg [.int .u64 (x.n : Int), .string (zB x.p), .string (zB x.t), .string (zB x.s), mv].toArray) = some (.tuple #[], g1.wr g.next (ze x mv)) := v1.storeAll rfl rfl (by decide) (by simp [hone2]; exact ⟨rfl, rfl, rfl, rfl⟩)
    subst emv
    (repeat (first | refine zS ?_ | refine zL ?_ | refine zR ?_ | refine zE ?_ | refine zC ?_ | refine zJ ?_ | refine zK ?_ | refine zP ?_ | refine zF ?_ | refine zH ?_ | refine zG ?_ | refine zI (by decide) ?_ | refine zQ ?_ | ((first | refine zD ?_ | refine zN ?_ | refine zT rfl rfl ?_ | refine zO rfl ?_ | refine zM ?_); simp only [yq78.down, zA, lemS.down, lemC.down, Int.reduceBEq, Nat.reduceAdd, Nat.reduceLeDiff, reduceIte, Nat.reduceEqDiff, Int.reduceLT, Int.reduceLE, Int.reduceGT, Int.reduceGE, Int.reduceEq, Int.reduceAdd, Int.reduceSub, Int.reduceMul, reduceCtorEq, lemH.down, zAZ, hg, hg1, m0, m1, m2, m3, m4, fill_hd, st])))
    have gnx : g.next = h.next + 1 := by rw [← hg]; rfl
    have g2 : Grows h (g1.wr g.next (ze x (.slice b x.m.length cap))) := (gg.trans gg1).wr (by omega)
    exact ⟨.inr rfl, _, zCT (a := ⟨g.next, 0, none⟩) (by simp only [yq78.down, zA, lemS.down, lemC.down, Int.reduceBEq, Nat.reduceAdd, Nat.reduceLeDiff, reduceIte, Nat.reduceEqDiff, Int.reduceLT, Int.reduceLE, Int.reduceGT, Int.reduceGE, Int.reduceEq, Int.reduceAdd, Int.reduceSub, Int.reduceMul, reduceCtorEq]) (v1.wr.loadAll rfl), rfl, hx.grow wf g2, g2⟩
  obtain ⟨v, h', e, rfl, r⟩ := this
  exact ⟨h', e, r⟩
def tagC (i : Nat) (x : Hdr) : List UInt8 := mac (zA2 seedB i) (saidC x)
theorem tagC_len (i : Nat) (x : Hdr) : (tagC i x).length = 32 := mac_len _ _
def tag17G : Prim := fun args h => match args with
  | [.int .i64 i, .agg c] => match hdrL h c.toList with | some (x, _) => if 0 ≤ i ∧ i < 256 then some (.string (zB (tagC i.toNat x)), h) else none | none => none
  | _ => none
theorem byte_cell2 {p : Nat} (hp : p < 256) {h : Heap} {l : List Value} : cb2sV ((h.new [uw .u8 p]).new l) (.slice (some ⟨h.next, 0, none⟩) 1 1) = some (.string (zB [UInt8.ofNat p])) := by
  have e : [uw .u8 p] = zV [UInt8.ofNat p] := by
    simp only [zV, List.map_cons, List.map_nil, uw, u8_bits]
    congr 2
  rw [e]
  exact Var.cb2s (Var.new_self.new_old) rfl
theorem tag17_ok (pr : Prog) (T : CertTab pr) (h : Heap) (wf : HWF h) (x : Hdr) (mv : Value) (hx : HdAt h x mv) (i : Nat) (hi : i < 256) : Comes pr xq45 [.int .i64 (i : Int), .agg (ze x mv).toArray] h (.string (zB (tagC i x))) := by
  apply Comes.of
  unfold xq45
  dsimp only [zd]
  have hr64 : zU = 140737488355328 := rfl
  obtain ⟨g, hg, gg, gx, lN, _⟩ := hd_box hx wf
  have hv : Var g h.next (ze x mv) := by rw [← hg]; exact Var.new_self
  have c := zBI (k := .u8) (k' := .i64) rfl (n := i)
  have bc := zB6 hi (h := g)
  have ts := two_strs (h := g.new [uw .u8 i]) (a := seedB) (b := [UInt8.ofNat i])
  have tg := zu T.rtagged (zCF (p := 75) ts (by decide) (by simp [zw, partB, zAV, seedB]; omega))
  have tg : cfi pr 28 [.int .u8 75, .slice (some ⟨g.next + 1, 0, none⟩) 2 2] ((g.new [uw .u8 i]).new [.string (zB seedB), .string (zB [UInt8.ofNat i])]) = some (.string (zB (zA2 seedB i)), _) := tg
  unfold seedB at tg
  have gg2 : Grows g ((g.new [uw .u8 i]).new [.string (zB [115, 101, 101, 100]), .string (zB [UInt8.ofNat i])]) := Grows.new.trans Grows.new
  have lN2 : ∀ sp, ((g.new [uw .u8 i]).new [.string (zB [115, 101, 101, 100]), .string (zB [UInt8.ofNat i])]).loadN ⟨h.next, 0, sp⟩ 5 = some (ze x mv) := fun sp => (hv.grow gg2).loadAll rfl
  have lN1 : ∀ sp, (g.new [uw .u8 i]).loadN ⟨h.next, 0, sp⟩ 5 = some (ze x mv) := fun sp => (hv.grow Grows.new).loadAll rfl
  have wf2 : HWF ((g.new [uw .u8 i]).new [.string (zB [115, 101, 101, 100]), .string (zB [UInt8.ofNat i])]) := by
    rw [← hg]
    exact (((wf.push (.cells _)).push (.cells _)).push (.cells _))
  obtain ⟨g3, e3, gx3, gg3⟩ := Ref8_run T wf2 (hx.grow wf (gg.trans gg2))
  have hh := zu T.rhash (headHashG_at gx3)
  have hl : (zA5 x).length = 32 := zCV _ _
  have tg2 := zu T.rtagged (zCF (p := 67) (one_str (h := g3) (a := zA5 x)) (by decide) (by simp [zw, partB, zAV]; omega))
  have tg2 : cfi pr 28 [.int .u8 67, .slice (some ⟨g3.next, 0, none⟩) 1 1] (g3.new [.string (zB (zA5 x))]) = some (.string (zB (saidC x)), _) := tg2
  have kl : (zA2 seedB i).length = 32 := zCV _ _
  have mm := zf (h := g3.new [.string (zB (zA5 x))]) T.rtag (tagS_at (k := zA2 seedB i) (s := saidC x) (by rw [kl]; omega) (by rw [saidC_len]; omega))
  unfold seedB at mm
  have bc2 : cb2sV ((g.new [uw .u8 i]).new [.string (zB [115, 101, 101, 100]), .string (zB [UInt8.ofNat i])]) (.slice (some ⟨g.next, 0, none⟩) 1 1) = some (.string (zB [UInt8.ofNat i])) := byte_cell2 hi
  (repeat (first | refine zS ?_ | refine zL ?_ | refine zR ?_ | refine zE ?_ | refine zC ?_ | refine zJ ?_ | refine zK ?_ | refine zP ?_ | refine zF ?_ | refine zH ?_ | refine zG ?_ | refine zI (by decide) ?_ | refine zQ ?_ | ((first | refine zD ?_ | refine zN ?_ | refine zT rfl rfl ?_ | refine zO rfl ?_ | refine wpk_drawP rfl ?_ | refine zM ?_); simp only [yq45.down, zA, lemS.down, lemC.down, Int.reduceBEq, Nat.reduceAdd, Nat.reduceLeDiff, reduceIte, Nat.reduceEqDiff, Int.reduceLT, Int.reduceLE, Int.reduceGT, Int.reduceGE, Int.reduceEq, Int.reduceAdd, Int.reduceSub, Int.reduceMul, reduceCtorEq, lemH.down, zAZ, hg, c, bc, fill2s, tg, lN2, e3, hh, fill1s, tg2, mm])))
  refine ⟨?_, ?_, ?_⟩
  · (refine zAQ rfl rfl rfl ?_ ?_ <;> simp only [yq45.down, zA, lemS.down, lemC.down, Int.reduceBEq, Nat.reduceAdd, Nat.reduceLeDiff, reduceIte, Nat.reduceEqDiff, Int.reduceLT, Int.reduceLE, Int.reduceGT, Int.reduceGE, Int.reduceEq, Int.reduceAdd, Int.reduceSub, Int.reduceMul, reduceCtorEq, r_cb2sV, bc, bc2, zp, zn, zq, zo, zk, Option.isSome_some])
  · (refine zAQ rfl rfl rfl ?_ ?_ <;> simp only [yq45.down, zA, lemS.down, lemC.down, Int.reduceBEq, Nat.reduceAdd, Nat.reduceLeDiff, reduceIte, Nat.reduceEqDiff, Int.reduceLT, Int.reduceLE, Int.reduceGT, Int.reduceGE, Int.reduceEq, Int.reduceAdd, Int.reduceSub, Int.reduceMul, reduceCtorEq, lN1, lN2, zp, zn, zq, zo, zk, Option.isSome_some])
  (repeat (first | refine zS ?_ | refine zL ?_ | refine zR ?_ | refine zE ?_ | refine zC ?_ | refine zJ ?_ | refine zK ?_ | refine zP ?_ | refine zF ?_ | refine zH ?_ | refine zG ?_ | refine zI (by decide) ?_ | refine zQ ?_ | ((first | refine zD ?_ | refine zN ?_ | refine zT rfl rfl ?_ | refine zO rfl ?_ | refine zM ?_); simp only [yq45.down, zA, lemS.down, lemC.down, Int.reduceBEq, Nat.reduceAdd, Nat.reduceLeDiff, reduceIte, Nat.reduceEqDiff, Int.reduceLT, Int.reduceLE, Int.reduceGT, Int.reduceGE, Int.reduceEq, Int.reduceAdd, Int.reduceSub, Int.reduceMul, reduceCtorEq, lemH.down, lN2, e3, hh, fill1s, tg2, mm])))
  exact ⟨.inr rfl, by (simp only [yq45.down, zA, lemS.down, lemC.down, Int.reduceBEq, Nat.reduceAdd, Nat.reduceLeDiff, reduceIte, Nat.reduceEqDiff, Int.reduceLT, Int.reduceLE, Int.reduceGT, Int.reduceGE, Int.reduceEq, Int.reduceAdd, Int.reduceSub, Int.reduceMul, reduceCtorEq]) <;> rfl, ((gg.trans gg2).trans gg3).trans Grows.new⟩
end Go.X
end
section
open Go Go.X
namespace Go.X
set_option linter.unusedVariables false
noncomputable def callV (pr : Prog) : Value → List Value → Heap → Option (Value × Heap)
  | .func (.func g) first caps, args, h => cfi pr g (first.toList ++ args ++ caps.toList) h
  | _, _, _ => none
theorem stepO_callT {t : Fr} {h : Heap} {i : Nat} {xs : List Operand} {pr : Prog} : zAF (cfi pr) t h (.call (.tmp i) xs) = callV pr (t.get i) (xs.map t.eval) h := by
  simp only [zAF, Fr.eval, callV]
  cases t.get i with
  | func f a b => cases f <;> rfl
  | _ => rfl
theorem callV_fn {pr : Prog} {g : Nat} {args : List Value} {h : Heap} : callV pr (.func (.func g) #[] #[]) args h = cfi pr g args h := by simp [callV]
abbrev TagL := List (Int × List UInt8)
def zg (l : TagL) : List Value := l.flatMap fun q => [.int .i64 q.1, .string (zB q.2)]
theorem zCt (l : TagL) : (zg l).length = l.length * 2 := by
  induction l with
  | nil => rfl
  | cons x l ih => unfold zg at ih ⊢; simp only [List.flatMap_cons, List.length_append, ih, List.length_cons, List.length_nil]; omega
theorem zCs (l m : TagL) : zg (l ++ m) = zg l ++ zg m := by simp [zg]
theorem cellsOfTags_take (l : TagL) (i : Nat) : (zg l).take (i * 2) = zg (l.take i) := by
  induction l generalizing i with
  | nil => simp [zg]
  | cons x l ih =>
    cases i with
    | zero => simp [zg]
    | succ i =>
      have := ih i
      unfold zg at this ⊢
      rw [show (i + 1) * 2 = i * 2 + 2 by omega]
      simp only [List.take_succ_cons, List.flatMap_cons, List.cons_append, List.nil_append]
      rw [this]
theorem cellsOfTags_drop (l : TagL) (i : Nat) : (zg l).drop (i * 2) = zg (l.drop i) := by
  induction l generalizing i with
  | nil => simp [zg]
  | cons x l ih =>
    cases i with
    | zero => simp [zg]
    | succ i =>
      have := ih i
      unfold zg at this ⊢
      rw [show (i + 1) * 2 = i * 2 + 2 by omega]
      simp only [List.drop_succ_cons, List.flatMap_cons, List.cons_append, List.nil_append]
      rw [this]
abbrev inI (x : Int) : Prop := -9223372036854775808 ≤ x ∧ x < 9223372036854775808
def zBz : List Value → Option TagL
  | [] => some []
  | .int .i64 x :: .string s :: r => if inI x then (match zBz r with | some l => some ((x, s.data.toList) :: l) | none => none) else none
  | _ :: _ => none
theorem tagCells_eq : ∀ {cs : List Value} {l : TagL}, zBz cs = some l → cs = zg l ∧ ∀ q ∈ l, inI q.1
  | [], l, h => by cases h; exact ⟨rfl, by simp⟩
  | [c], l, h => by simp [zBz] at h
  | c :: d :: cs, l, h => by
    unfold zBz at h
    split at h
    · rename_i heq; cases heq
    · rename_i x s r heq
      cases heq
      split at h
      · rename_i hr
        split at h
        · rename_i q hq
          cases h
          obtain ⟨h1, h2⟩ := tagCells_eq hq
          refine ⟨by rw [h1]; simp [zg, zBo], fun y hy => ?_⟩
          rcases List.mem_cons.1 hy with rfl | hy
          · exact hr
          · exact h2 y hy
        · cases h
      · cases h
    · cases h
theorem tagCells_cells : ∀ {l : TagL}, (∀ q ∈ l, inI q.1) → zBz (zg l) = some l
  | [], _ => rfl
  | x :: l, h => by
    have := tagCells_cells (l := l) (fun y hy => h y (by simp [hy]))
    unfold zg at this ⊢
    simp only [List.flatMap_cons, List.cons_append, List.nil_append, zBz, this, zAe]
    rw [if_pos (h x (by simp))]
def zAT (h : Heap) : Value → Option TagL
  | .slice none n _ => if n = 0 then some [] else none
  | .slice (some a) n _ => if n = 0 then some [] else (match h.loadN a (n * 2) with | some cs => zBz cs | none => none)
  | _ => none
theorem zCo {h h' : Heap} (wf : HWF h) (g : Grows h h') {v : Value} {l : TagL} (hs : zAT h v = some l) : zAT h' v = some l := by
  unfold zAT at hs ⊢
  split at hs
  · exact hs
  · split at hs
    · rename_i h0; rw [if_pos h0]; exact hs
    · rename_i h0
      rw [if_neg h0]
      split at hs
      · rename_i cs hcs; rw [g.loadN wf hcs]; exact hs
      · cases hs
  · cases hs
theorem iaddrSV_at {a : Addr} {n c i e : Nat} {k : IntKind} (hi : i < n) : zAf e (.slice (some a) n c) (.int k (i : Int)) = some (.pointer (some ⟨a.block, a.off + i * e, none⟩)) := by
  simp only [zAf]
  rw [if_pos (by omega), Int.toNat_natCast]
theorem loadN_sub {h : Heap} {a : Addr} {n : Nat} {l : List Value} (hl : h.loadN a n = some l) {i k : Nat} (hik : i + k ≤ n) {sp : Option Nat} : h.loadN ⟨a.block, a.off + i, sp⟩ k = some ((l.drop i).take k) := by
  unfold Heap.loadN at hl ⊢
  split at hl
  · rename_i c hc
    simp only [hc]
    unfold takeN at hl ⊢
    cases hb : (a.off + n).ble c.cells.length with
    | false => rw [hb] at hl; cases hl
    | true =>
      rw [hb] at hl
      cases hl
      have := Nat.le_of_ble_eq_true hb
      rw [Nat.ble_eq_true_of_le (by omega)]
      simp only [cond_true]
      rw [List.drop_take, List.drop_drop, List.take_take, Nat.min_eq_left (by omega)]
  · cases hl
theorem zBH {h : Heap} {v : Value} {l : TagL} (hs : zAT h v = some l) : (∀ q ∈ l, inI q.1) ∧ ∃ a cap, v = .slice a l.length cap ∧ ∀ i, i < l.length → ∃ B o, (∀ k : IntKind, zAf 2 v (.int k (i : Int)) = some (.pointer (some ⟨B, o, none⟩))) ∧ (∀ sp, h.loadN ⟨B, o, sp⟩ 2 = some [.int .i64 (l.getD i (0, [])).1, .string (zB (l.getD i (0, [])).2)]) ∧ (∀ sp, h.load ⟨B, o, sp⟩ = some (.int .i64 (l.getD i (0, [])).1)) ∧ (∀ sp, h.load ⟨B, o + 1, sp⟩ = some (.string (zB (l.getD i (0, [])).2))) := by
  unfold zAT at hs
  split at hs
  · rename_i n c
    split at hs
    · rename_i h0
      cases hs
      subst h0
      exact ⟨by simp, none, c, rfl, fun i hi => by simp at hi⟩
    · cases hs
  · rename_i a n c
    split at hs
    · rename_i h0
      cases hs
      subst h0
      exact ⟨by simp, some a, c, rfl, fun i hi => by simp at hi⟩
    · split at hs
      · rename_i cs hcs
        obtain ⟨rfl, hb⟩ := tagCells_eq hs
        have hn : l.length = n := by
          have := loadN_len2 hcs
          rw [zCt] at this
          omega
        subst hn
        have hp : ∀ i, i < l.length → ((zg l).drop (i * 2)).take 2 = [.int .i64 (l.getD i (0, [])).1, .string (zB (l.getD i (0, [])).2)] := fun i hi => by
          rw [cellsOfTags_drop, List.drop_eq_getElem_cons hi, List.getD_eq_getElem?_getD, List.getElem?_eq_getElem hi, Option.getD_some]
          rfl
        have hg : ∀ i, i < l.length → ∀ j, j < 2 → (zg l)[i * 2 + j]? = [Value.int .i64 (l.getD i (0, [])).1, .string (zB (l.getD i (0, [])).2)][j]? := fun i hi j hj => by
          rw [← hp i hi, List.getElem?_take, if_pos hj, List.getElem?_drop]
        refine ⟨hb, some a, c, rfl, fun i hi => ⟨a.block, a.off + i * 2, fun k => iaddrSV_at hi, fun sp => ?_, fun sp => zCQ hcs (by have := hg i hi 0 (by decide); simpa using this), fun sp => ?_⟩⟩
        · rw [loadN_sub hcs (by omega), hp i hi]
        · have := zCQ hcs (i := i * 2 + 1) (sp := sp) (by have := hg i hi 1 (by decide); simpa using this)
          rw [← Nat.add_assoc] at this
          exact this
      · cases hs
  · cases hs
theorem Own.tags {h : Heap} {S : Nat → Prop} {v : Value} {n : Nat} {l : TagL} (ho : Own h S 2 v n (zg l)) (hb : ∀ q ∈ l, inI q.1) : zAT h v = some l := by
  obtain ⟨a, cap, rfl, hs⟩ := ho.shape
  by_cases h0 : n = 0
  · subst h0
    have := ho.nil_of
    obtain rfl : l = [] := by cases l with | nil => rfl | cons x l => simp [zg] at this
    cases a <;> simp [zAT]
  · obtain ⟨B, off, sp, rfl, h1, _⟩ := hs h0
    simp only [zAT]
    rw [if_neg h0]
    simp only [h1, tagCells_cells hb]
def cmpI (a b : Int) : Int := if a < b then -1 else if a > b then 1 else 0
def cmpS : List Value → Option Value
  | [.int .i64 a, .int .i64 b] => some (.int .i64 (cmpI a b))
  | _ => none
theorem cmp_ok (pr : Prog) (hn : pr.prim 114 = none) (hc : pr.code 114 = some xq114) (a b : Int) (h : Heap) : Comes pr xq99 [.int .i64 a, .int .i64 b] h (.int .i64 (cmpI a b)) := by
  apply Comes.of
  unfold xq99
  dsimp only [zd]
  have nan : ∀ x : Int, cfi pr 114 [.int .i64 x] h = some (.bool false, h) := fun x => by
    refine cfi_code hn hc rfl ?_
    unfold xq114
    dsimp only [zd]
    refine wpk.out (k := []) ?_
    (repeat (first | refine zS ?_ | refine zL ?_ | refine zR ?_ | refine zE ?_ | refine zC ?_ | refine zJ ?_ | refine zK ?_ | refine zP ?_ | refine zF ?_ | refine zH ?_ | refine zG ?_ | refine zI (by decide) ?_ | refine zQ ?_ | ((first | refine zD ?_ | refine zN ?_ | refine zT rfl rfl ?_ | refine zO rfl ?_ | refine zM ?_); simp only [yq114.down, zA, lemS.down, lemC.down, Int.reduceBEq, Nat.reduceAdd, Nat.reduceLeDiff, reduceIte, Nat.reduceEqDiff, Int.reduceLT, Int.reduceLE, Int.reduceGT, Int.reduceGE, Int.reduceEq, Int.reduceAdd, Int.reduceSub, Int.reduceMul, reduceCtorEq])))
    exact ⟨.inr rfl, by simp only [yq114.down, zA, lemS.down, lemC.down, Int.reduceBEq, Nat.reduceAdd, Nat.reduceLeDiff, reduceIte, Nat.reduceEqDiff, Int.reduceLT, Int.reduceLE, Int.reduceGT, Int.reduceGE, Int.reduceEq, Int.reduceAdd, Int.reduceSub, Int.reduceMul, reduceCtorEq], rfl⟩
  have n1 := nan a
  have n2 := nan b
  unfold cmpI
  by_cases c1 : a < b
  · have d1 : decide (a < b) = true := by simpa using c1
    rw [if_pos c1]
    (repeat (first | refine zS ?_ | refine zL ?_ | refine zR ?_ | refine zE ?_ | refine zC ?_ | refine zJ ?_ | refine zK ?_ | refine zP ?_ | refine zF ?_ | refine zH ?_ | refine zG ?_ | refine zI (by decide) ?_ | refine zQ ?_ | ((first | refine zD ?_ | refine zN ?_ | refine zT rfl rfl ?_ | refine zO rfl ?_ | refine zM ?_); simp only [yq99.down, zA, lemS.down, lemC.down, Int.reduceBEq, Nat.reduceAdd, Nat.reduceLeDiff, reduceIte, Nat.reduceEqDiff, Int.reduceLT, Int.reduceLE, Int.reduceGT, Int.reduceGE, Int.reduceEq, Int.reduceAdd, Int.reduceSub, Int.reduceMul, reduceCtorEq, n1, n2, d1])))
    exact ⟨.inr rfl, by simp only [yq99.down, zA, lemS.down, lemC.down, Int.reduceBEq, Nat.reduceAdd, Nat.reduceLeDiff, reduceIte, Nat.reduceEqDiff, Int.reduceLT, Int.reduceLE, Int.reduceGT, Int.reduceGE, Int.reduceEq, Int.reduceAdd, Int.reduceSub, Int.reduceMul, reduceCtorEq], Grows.refl h⟩
  · have d1 : decide (a < b) = false := by simpa using c1
    rw [if_neg c1]
    by_cases c2 : a > b
    · have d2 : decide (a > b) = true := by simpa using c2
      rw [if_pos c2]
      (repeat (first | refine zS ?_ | refine zL ?_ | refine zR ?_ | refine zE ?_ | refine zC ?_ | refine zJ ?_ | refine zK ?_ | refine zP ?_ | refine zF ?_ | refine zH ?_ | refine zG ?_ | refine zI (by decide) ?_ | refine zQ ?_ | ((first | refine zD ?_ | refine zN ?_ | refine zT rfl rfl ?_ | refine zO rfl ?_ | refine zM ?_); simp only [yq99.down, zA, lemS.down, lemC.down, Int.reduceBEq, Nat.reduceAdd, Nat.reduceLeDiff, reduceIte, Nat.reduceEqDiff, Int.reduceLT, Int.reduceLE, Int.reduceGT, Int.reduceGE, Int.reduceEq, Int.reduceAdd, Int.reduceSub, Int.reduceMul, reduceCtorEq, n1, n2, d1, d2])))
      exact ⟨.inr rfl, by simp only [yq99.down, zA, lemS.down, lemC.down, Int.reduceBEq, Nat.reduceAdd, Nat.reduceLeDiff, reduceIte, Nat.reduceEqDiff, Int.reduceLT, Int.reduceLE, Int.reduceGT, Int.reduceGE, Int.reduceEq, Int.reduceAdd, Int.reduceSub, Int.reduceMul, reduceCtorEq], Grows.refl h⟩
    · have d2 : decide (a > b) = false := by simpa using c2
      rw [if_neg c2]
      (repeat (first | refine zS ?_ | refine zL ?_ | refine zR ?_ | refine zE ?_ | refine zC ?_ | refine zJ ?_ | refine zK ?_ | refine zP ?_ | refine zF ?_ | refine zH ?_ | refine zG ?_ | refine zI (by decide) ?_ | refine zQ ?_ | ((first | refine zD ?_ | refine zN ?_ | refine zT rfl rfl ?_ | refine zO rfl ?_ | refine zM ?_); simp only [yq99.down, zA, lemS.down, lemC.down, Int.reduceBEq, Nat.reduceAdd, Nat.reduceLeDiff, reduceIte, Nat.reduceEqDiff, Int.reduceLT, Int.reduceLE, Int.reduceGT, Int.reduceGE, Int.reduceEq, Int.reduceAdd, Int.reduceSub, Int.reduceMul, reduceCtorEq, n1, n2, d1, d2])))
      exact ⟨.inr rfl, by simp only [yq99.down, zA, lemS.down, lemC.down, Int.reduceBEq, Nat.reduceAdd, Nat.reduceLeDiff, reduceIte, Nat.reduceEqDiff, Int.reduceLT, Int.reduceLE, Int.reduceGT, Int.reduceGE, Int.reduceEq, Int.reduceAdd, Int.reduceSub, Int.reduceMul, reduceCtorEq], Grows.refl h⟩
def findFnS : List Value → Option Value
  | [.agg ⟨[.int .i64 a, .string _]⟩, .int .i64 b] => some (.int .i64 (cmpI a b))
  | _ => none
theorem findFn_ok (pr : Prog) (hc : pr.prim 99 = some (zb cmpS)) (a b : Int) (s : List UInt8) (h : Heap) : Comes pr xq98 [tagV a s, .int .i64 b] h (.int .i64 (cmpI a b)) := by
  apply Comes.of
  unfold xq98
  dsimp only [zd]
  obtain ⟨g, hg, v0, gg⟩ : ∃ g, h.new [.int .i64 a, .string (zB s)] = g ∧ Var g h.next [.int .i64 a, .string (zB s)] ∧ Grows h g := ⟨_, rfl, Var.new_self, Grows.new⟩
  have l0 : ∀ sp, g.load ⟨h.next, 0, sp⟩ = some (.int .i64 a) := fun sp => v0.load
  have c1 := zf (h := g) hc (s := cmpS) (args := [.int .i64 a, .int .i64 b]) rfl
  (repeat (first | refine zS ?_ | refine zL ?_ | refine zR ?_ | refine zE ?_ | refine zC ?_ | refine zJ ?_ | refine zK ?_ | refine zP ?_ | refine zF ?_ | refine zH ?_ | refine zG ?_ | refine zI (by decide) ?_ | refine zQ ?_ | ((first | refine zD ?_ | refine zN ?_ | refine zT rfl rfl ?_ | refine zO rfl ?_ | refine zM ?_); simp only [yq98.down, zA, lemS.down, lemC.down, Int.reduceBEq, Nat.reduceAdd, Nat.reduceLeDiff, reduceIte, Nat.reduceEqDiff, Int.reduceLT, Int.reduceLE, Int.reduceGT, Int.reduceGE, Int.reduceEq, Int.reduceAdd, Int.reduceSub, Int.reduceMul, reduceCtorEq, lemH.down, zCL, hg, l0, c1])))
  exact ⟨.inr rfl, by simp only [yq98.down, zA, lemS.down, lemC.down, Int.reduceBEq, Nat.reduceAdd, Nat.reduceLeDiff, reduceIte, Nat.reduceEqDiff, Int.reduceLT, Int.reduceLE, Int.reduceGT, Int.reduceGE, Int.reduceEq, Int.reduceAdd, Int.reduceSub, Int.reduceMul, reduceCtorEq], gg⟩
end Go.X
end
section
open Go Go.X
namespace Go.X
set_option linter.unusedVariables false
abbrev zBC (l : TagL) : Prop := l.Pairwise (fun a b => a.1 < b.1)
def zAS (l : TagL) (r : Int) : Nat := (l.takeWhile (fun q => decide (q.1 < r))).length
theorem getD_lt {l : TagL} {i : Nat} (hi : i < l.length) : l.getD i (0, []) = l[i] := by simp [List.getD_eq_getElem?_getD, List.getElem?_eq_getElem hi]
theorem sorted_lt {l : TagL} (hs : zBC l) {i j : Nat} (hij : i < j) (hj : j < l.length) : (l.getD i (0, [])).1 < (l.getD j (0, [])).1 := by
  rw [getD_lt (by omega), getD_lt hj]
  exact (List.pairwise_iff_getElem.1 hs) i j (by omega) hj hij
theorem placeT_at {l : TagL} {r : Int} {i : Nat} (hi : i ≤ l.length) (h1 : ∀ k, k < i → (l.getD k (0, [])).1 < r) (h2 : i < l.length → ¬ (l.getD i (0, [])).1 < r) : zAS l r = i := by
  unfold zAS
  induction l generalizing i with
  | nil => simp at hi; subst hi; rfl
  | cons x l ih =>
    cases i with
    | zero =>
      have := h2 (by simp)
      have hx : ¬ x.1 < r := by simpa using this
      rw [List.takeWhile_cons_of_neg (by simpa using hx)]
      rfl
    | succ i =>
      have hx : x.1 < r := by simpa using h1 0 (by omega)
      rw [List.takeWhile_cons_of_pos (by simpa using hx), List.length_cons]
      congr 1
      exact ih (by simpa using hi) (fun k hk => by simpa using h1 (k + 1) (by omega)) (fun hl => by simpa using h2 (by simpa using hl))
def isT (l : TagL) (r : Int) : Bool := decide (zAS l r < l.length) && ((l.getD (zAS l r) (0, [])).1 == r)
def bsG : Prim := fun args h => match args with
  | [v, .int .i64 r, .func (.func 98) ⟨[]⟩ ⟨[]⟩] => match zAT h v with
    | some l => if zBC l ∧ l.length ≤ 1000000 then some (.tuple #[.int .i64 (zAS l r : Int), .bool (isT l r)], h) else none
    | none => none
  | _ => none
theorem bsG_at {h : Heap} {v : Value} {l : TagL} {r : Int} (hs : zAT h v = some l) (ho : zBC l) (hl : l.length ≤ 1000000) : bsG [v, .int .i64 r, .func (.func 98) #[] #[]] h = some (.tuple #[.int .i64 (zAS l r : Int), .bool (isT l r)], h) := by
  simp only [bsG, hs]
  rw [if_pos ⟨ho, hl⟩]
theorem cmpI_lt {a b : Int} : decide (cmpI a b < 0) = decide (a < b) := by
  unfold cmpI
  split
  · rename_i h; simp [h]
  · rename_i h
    split <;> simp <;> omega
theorem cmpI_eq {a b : Int} : (cmpI a b == 0) = (a == b) := by
  rw [Bool.eq_iff_iff]
  unfold cmpI
  simp only [beq_iff_eq]
  split
  · omega
  · split <;> omega
set_option maxHeartbeats 1000000 in
theorem bs_ok (pr : Prog) (hf : pr.prim 98 = some (zb findFnS)) (h : Heap) (v : Value) (l : TagL) (r : Int) (hs : zAT h v = some l) (ho : zBC l) (hl : l.length ≤ 1000000) :
    Comes pr xq97 [v, .int .i64 r, .func (.func 98) #[] #[]] h (.tuple #[.int .i64 (zAS l r : Int), .bool (isT l r)]) := by
  apply Comes.of
  unfold xq97
  dsimp only [zd]
  obtain ⟨hb, a, cap, rfl, hel⟩ := zBH hs
  (repeat (first | refine zS ?_ | refine zL ?_ | refine zR ?_ | refine zE ?_ | refine zC ?_ | refine zJ ?_ | refine zK ?_ | refine zP ?_ | refine zF ?_ | refine zH ?_ | refine zG ?_ | refine zI (by decide) ?_ | refine zQ ?_ | ((first | refine zD ?_ | refine zN ?_ | refine zT rfl rfl ?_ | refine zO rfl ?_ | refine zM ?_); simp only [yq97.down, zA, lemS.down, lemC.down, Int.reduceBEq, Nat.reduceAdd, Nat.reduceLeDiff, reduceIte, Nat.reduceEqDiff, Int.reduceLT, Int.reduceLE, Int.reduceGT, Int.reduceGE, Int.reduceEq, Int.reduceAdd, Int.reduceSub, Int.reduceMul, reduceCtorEq, lemH.down])))
  refine zAA (fun m t g => ∃ i j, m = j - i ∧ i ≤ j ∧ j ≤ l.length ∧ g = h ∧ (∀ k, k < i → (l.getD k (0, [])).1 < r) ∧ (∀ k, j ≤ k → k < l.length → ¬ (l.getD k (0, [])).1 < r) ∧ t.get 0 = .slice a l.length cap ∧ t.get 1 = .int .i64 r ∧ t.get 2 = .func (.func 98) #[] #[] ∧ t.get 8 = .int .i64 (l.length : Int) ∧ t.get 9 = .int .i64 (i : Int) ∧ t.get 10 = .int .i64 (j : Int)) ?_ l.length _ _ ⟨0, l.length, rfl, by omega, by omega, rfl, by simp, fun k h1 h2 => by omega, by simp only [yq97.down, zA, lemS.down, lemC.down, Int.reduceBEq, Nat.reduceAdd, Nat.reduceLeDiff, reduceIte, Nat.reduceEqDiff, Int.reduceLT, Int.reduceLE, Int.reduceGT, Int.reduceGE, Int.reduceEq, Int.reduceAdd, Int.reduceSub, Int.reduceMul, reduceCtorEq], by simp only [yq97.down, zA, lemS.down, lemC.down, Int.reduceBEq, Nat.reduceAdd, Nat.reduceLeDiff, reduceIte, Nat.reduceEqDiff, Int.reduceLT, Int.reduceLE, Int.reduceGT, Int.reduceGE, Int.reduceEq, Int.reduceAdd, Int.reduceSub, Int.reduceMul, reduceCtorEq], by simp only [yq97.down, zA, lemS.down, lemC.down, Int.reduceBEq, Nat.reduceAdd, Nat.reduceLeDiff, reduceIte, Nat.reduceEqDiff, Int.reduceLT, Int.reduceLE, Int.reduceGT, Int.reduceGE, Int.reduceEq, Int.reduceAdd, Int.reduceSub, Int.reduceMul, reduceCtorEq], by simp only [yq97.down, zA, lemS.down, lemC.down, Int.reduceBEq, Nat.reduceAdd, Nat.reduceLeDiff, reduceIte, Nat.reduceEqDiff, Int.reduceLT, Int.reduceLE, Int.reduceGT, Int.reduceGE, Int.reduceEq, Int.reduceAdd, Int.reduceSub, Int.reduceMul, reduceCtorEq], by (simp only [yq97.down, zA, lemS.down, lemC.down, Int.reduceBEq, Nat.reduceAdd, Nat.reduceLeDiff, reduceIte, Nat.reduceEqDiff, Int.reduceLT, Int.reduceLE, Int.reduceGT, Int.reduceGE, Int.reduceEq, Int.reduceAdd, Int.reduceSub, Int.reduceMul, reduceCtorEq]) <;> rfl, by simp only [yq97.down, zA, lemS.down, lemC.down, Int.reduceBEq, Nat.reduceAdd, Nat.reduceLeDiff, reduceIte, Nat.reduceEqDiff, Int.reduceLT, Int.reduceLE, Int.reduceGT, Int.reduceGE, Int.reduceEq, Int.reduceAdd, Int.reduceSub, Int.reduceMul, reduceCtorEq]⟩
  rintro m t g ⟨i, j, rfl, hij, hj, rfl, hlo, hhi, t0, t1, t2, t8, t9, t10⟩ hnext
  refine xq97_8k ?_
  dsimp only [xq97_8b]
  (repeat (first | refine zS ?_ | refine zL ?_ | refine zR ?_ | refine zE ?_ | refine zC ?_ | refine zJ ?_ | refine zK ?_ | refine zP ?_ | refine zF ?_ | refine zH ?_ | refine zG ?_ | refine zI (by decide) ?_ | refine zQ ?_ | ((first | refine zD ?_ | refine zN ?_ | refine zT rfl rfl ?_ | refine zO rfl ?_ | refine zM ?_); simp only [yq97.down, zA, lemS.down, lemC.down, Int.reduceBEq, Nat.reduceAdd, Nat.reduceLeDiff, reduceIte, Nat.reduceEqDiff, Int.reduceLT, Int.reduceLE, Int.reduceGT, Int.reduceGE, Int.reduceEq, Int.reduceAdd, Int.reduceSub, Int.reduceMul, reduceCtorEq, lemH.down, t0, t1, t2, t8, t9, t10])))
  refine ⟨fun hlt => ?_, fun hge => ?_⟩
  · have hlt' : i < j := by omega
    have hm : (i + j) / 2 < l.length := by omega
    obtain ⟨B, o, ia, ld, _⟩ := hel ((i + j) / 2) hm
    have w1 : IntKind.i64.wrap ((i : Int) + (j : Int)) = ((i + j : Nat) : Int) := by rw [wrap_i64 (by omega) (by omega)]; omega
    have c1 := zBI (k := .u64) (k' := .i64) zCG (n := i + j)
    have s1 : binX .shr (uw .u64 (i + j)) (.int .u64 1) = some (uw .u64 ((i + j) / 2)) := by
      have := shr_u64 (x := i + j) (k' := .u64) (n := 1) (by decide)
      rw [Nat.mod_eq_of_lt (by omega), Nat.shiftRight_eq_div_pow] at this
      exact this
    have c2 := ci64 (n := (i + j) / 2) (by omega)
    have cf : cfi pr 98 [.agg [.int .i64 (l.getD ((i + j) / 2) (0, [])).1, .string (zB (l.getD ((i + j) / 2) (0, [])).2)].toArray, .int .i64 r] g = some (.int .i64 (cmpI (l.getD ((i + j) / 2) (0, [])).1 r), g) := zf hf rfl
    by_cases hc : (l.getD ((i + j) / 2) (0, [])).1 < r
    · have d1 : decide (cmpI (l.getD ((i + j) / 2) (0, [])).1 r < 0) = true := by rw [cmpI_lt]; simpa using hc
      have w2 : IntKind.i64.wrap ((((i + j) / 2 : Nat) : Int) + 1) = (((i + j) / 2 + 1 : Nat) : Int) := by rw [wrap_i64 (by omega) (by omega)]; omega
      (repeat (first | refine zS ?_ | refine zL ?_ | refine zR ?_ | refine zE ?_ | refine zC ?_ | refine zJ ?_ | refine zK ?_ | refine zP ?_ | refine zF ?_ | refine zH ?_ | refine zG ?_ | refine zI (by decide) ?_ | refine zQ ?_ | ((first | refine zD ?_ | refine zN ?_ | refine zT rfl rfl ?_ | refine zO rfl ?_ | refine zM ?_); simp only [yq97.down, zA, lemS.down, lemC.down, Int.reduceBEq, Nat.reduceAdd, Nat.reduceLeDiff, reduceIte, Nat.reduceEqDiff, Int.reduceLT, Int.reduceLE, Int.reduceGT, Int.reduceGE, Int.reduceEq, Int.reduceAdd, Int.reduceSub, Int.reduceMul, reduceCtorEq, lemH.down, t0, t1, t2, t8, t9, t10, w1, c1, s1, c2, zAJ, ia, ld, stepO_callT, callV_fn, cf, d1, w2])))
      exact hnext (j - ((i + j) / 2 + 1)) _ g (by omega) ⟨(i + j) / 2 + 1, j, rfl, by omega, hj, rfl, fun k hk => by
        rcases Nat.lt_or_ge k ((i + j) / 2) with q | q
        · have := sorted_lt ho q hm; omega
        · obtain rfl : k = (i + j) / 2 := by omega
          exact hc, hhi, by simp only [yq97.down, zA, lemS.down, lemC.down, Int.reduceBEq, Nat.reduceAdd, Nat.reduceLeDiff, reduceIte, Nat.reduceEqDiff, Int.reduceLT, Int.reduceLE, Int.reduceGT, Int.reduceGE, Int.reduceEq, Int.reduceAdd, Int.reduceSub, Int.reduceMul, reduceCtorEq, t0], by simp only [yq97.down, zA, lemS.down, lemC.down, Int.reduceBEq, Nat.reduceAdd, Nat.reduceLeDiff, reduceIte, Nat.reduceEqDiff, Int.reduceLT, Int.reduceLE, Int.reduceGT, Int.reduceGE, Int.reduceEq, Int.reduceAdd, Int.reduceSub, Int.reduceMul, reduceCtorEq, t1], by simp only [yq97.down, zA, lemS.down, lemC.down, Int.reduceBEq, Nat.reduceAdd, Nat.reduceLeDiff, reduceIte, Nat.reduceEqDiff, Int.reduceLT, Int.reduceLE, Int.reduceGT, Int.reduceGE, Int.reduceEq, Int.reduceAdd, Int.reduceSub, Int.reduceMul, reduceCtorEq, t2], by simp only [yq97.down, zA, lemS.down, lemC.down, Int.reduceBEq, Nat.reduceAdd, Nat.reduceLeDiff, reduceIte, Nat.reduceEqDiff, Int.reduceLT, Int.reduceLE, Int.reduceGT, Int.reduceGE, Int.reduceEq, Int.reduceAdd, Int.reduceSub, Int.reduceMul, reduceCtorEq, t8], by simp only [yq97.down, zA, lemS.down, lemC.down, Int.reduceBEq, Nat.reduceAdd, Nat.reduceLeDiff, reduceIte, Nat.reduceEqDiff, Int.reduceLT, Int.reduceLE, Int.reduceGT, Int.reduceGE, Int.reduceEq, Int.reduceAdd, Int.reduceSub, Int.reduceMul, reduceCtorEq], by simp only [yq97.down, zA, lemS.down, lemC.down, Int.reduceBEq, Nat.reduceAdd, Nat.reduceLeDiff, reduceIte, Nat.reduceEqDiff, Int.reduceLT, Int.reduceLE, Int.reduceGT, Int.reduceGE, Int.reduceEq, Int.reduceAdd, Int.reduceSub, Int.reduceMul, reduceCtorEq, t10]⟩
    · have d1 : decide (cmpI (l.getD ((i + j) / 2) (0, [])).1 r < 0) = false := by rw [cmpI_lt]; simpa using hc
      (repeat (first | refine zS ?_ | refine zL ?_ | refine zR ?_ | refine zE ?_ | refine zC ?_ | refine zJ ?_ | refine zK ?_ | refine zP ?_ | refine zF ?_ | refine zH ?_ | refine zG ?_ | refine zI (by decide) ?_ | refine zQ ?_ | ((first | refine zD ?_ | refine zN ?_ | refine zT rfl rfl ?_ | refine zO rfl ?_ | refine zM ?_); simp only [yq97.down, zA, lemS.down, lemC.down, Int.reduceBEq, Nat.reduceAdd, Nat.reduceLeDiff, reduceIte, Nat.reduceEqDiff, Int.reduceLT, Int.reduceLE, Int.reduceGT, Int.reduceGE, Int.reduceEq, Int.reduceAdd, Int.reduceSub, Int.reduceMul, reduceCtorEq, lemH.down, t0, t1, t2, t8, t9, t10, w1, c1, s1, c2, zAJ, ia, ld, stepO_callT, callV_fn, cf, d1])))
      exact hnext ((i + j) / 2 - i) _ g (by omega) ⟨i, (i + j) / 2, rfl, by omega, by omega, rfl, hlo, fun k h1 h2 => by
        rcases Nat.lt_or_ge ((i + j) / 2) k with q | q
        · have := sorted_lt ho q h2; omega
        · obtain rfl : k = (i + j) / 2 := by omega
          exact hc, by simp only [yq97.down, zA, lemS.down, lemC.down, Int.reduceBEq, Nat.reduceAdd, Nat.reduceLeDiff, reduceIte, Nat.reduceEqDiff, Int.reduceLT, Int.reduceLE, Int.reduceGT, Int.reduceGE, Int.reduceEq, Int.reduceAdd, Int.reduceSub, Int.reduceMul, reduceCtorEq, t0], by simp only [yq97.down, zA, lemS.down, lemC.down, Int.reduceBEq, Nat.reduceAdd, Nat.reduceLeDiff, reduceIte, Nat.reduceEqDiff, Int.reduceLT, Int.reduceLE, Int.reduceGT, Int.reduceGE, Int.reduceEq, Int.reduceAdd, Int.reduceSub, Int.reduceMul, reduceCtorEq, t1], by simp only [yq97.down, zA, lemS.down, lemC.down, Int.reduceBEq, Nat.reduceAdd, Nat.reduceLeDiff, reduceIte, Nat.reduceEqDiff, Int.reduceLT, Int.reduceLE, Int.reduceGT, Int.reduceGE, Int.reduceEq, Int.reduceAdd, Int.reduceSub, Int.reduceMul, reduceCtorEq, t2], by simp only [yq97.down, zA, lemS.down, lemC.down, Int.reduceBEq, Nat.reduceAdd, Nat.reduceLeDiff, reduceIte, Nat.reduceEqDiff, Int.reduceLT, Int.reduceLE, Int.reduceGT, Int.reduceGE, Int.reduceEq, Int.reduceAdd, Int.reduceSub, Int.reduceMul, reduceCtorEq, t8], by simp only [yq97.down, zA, lemS.down, lemC.down, Int.reduceBEq, Nat.reduceAdd, Nat.reduceLeDiff, reduceIte, Nat.reduceEqDiff, Int.reduceLT, Int.reduceLE, Int.reduceGT, Int.reduceGE, Int.reduceEq, Int.reduceAdd, Int.reduceSub, Int.reduceMul, reduceCtorEq, t9], by simp only [yq97.down, zA, lemS.down, lemC.down, Int.reduceBEq, Nat.reduceAdd, Nat.reduceLeDiff, reduceIte, Nat.reduceEqDiff, Int.reduceLT, Int.reduceLE, Int.reduceGT, Int.reduceGE, Int.reduceEq, Int.reduceAdd, Int.reduceSub, Int.reduceMul, reduceCtorEq]⟩
  · obtain rfl : i = j := by omega
    have hp := placeT_at hj hlo (fun q => hhi i (Nat.le_refl _) q)
    by_cases hin : i < l.length
    · obtain ⟨B, o, ia, ld, _⟩ := hel i hin
      have d1 : decide ((i : Int) < (l.length : Int)) = true := by simp; omega
      have cf : cfi pr 98 [.agg [.int .i64 (l.getD i (0, [])).1, .string (zB (l.getD i (0, [])).2)].toArray, .int .i64 r] g = some (.int .i64 (cmpI (l.getD i (0, [])).1 r), g) := zf hf rfl
      have he := cmpI_eq (a := (l.getD i (0, [])).1) (b := r)
      have hi2 : isT l r = ((l.getD i (0, [])).1 == r) := by unfold isT; rw [hp, decide_eq_true hin, Bool.true_and]
      (repeat (first | refine zS ?_ | refine zL ?_ | refine zR ?_ | refine zE ?_ | refine zC ?_ | refine zJ ?_ | refine zK ?_ | refine zP ?_ | refine zF ?_ | refine zH ?_ | refine zG ?_ | refine zI (by decide) ?_ | refine zQ ?_ | ((first | refine zD ?_ | refine zN ?_ | refine zT rfl rfl ?_ | refine zO rfl ?_ | refine zM ?_); simp only [yq97.down, zA, lemS.down, lemC.down, Int.reduceBEq, Nat.reduceAdd, Nat.reduceLeDiff, reduceIte, Nat.reduceEqDiff, Int.reduceLT, Int.reduceLE, Int.reduceGT, Int.reduceGE, Int.reduceEq, Int.reduceAdd, Int.reduceSub, Int.reduceMul, reduceCtorEq, lemH.down, t0, t1, t2, t8, t9, t10, d1, zAJ, ia, ld, stepO_callT, callV_fn, cf, he])))
      refine ⟨.inr rfl, ?_, Grows.refl _⟩
      rw [hp, hi2]
      simp only [yq97.down, zA, lemS.down, lemC.down, Int.reduceBEq, Nat.reduceAdd, Nat.reduceLeDiff, reduceIte, Nat.reduceEqDiff, Int.reduceLT, Int.reduceLE, Int.reduceGT, Int.reduceGE, Int.reduceEq, Int.reduceAdd, Int.reduceSub, Int.reduceMul, reduceCtorEq]
    · have d1 : decide ((i : Int) < (l.length : Int)) = false := by simp; omega
      have hi2 : isT l r = false := by unfold isT; rw [hp, decide_eq_false hin, Bool.false_and]
      (repeat (first | refine zS ?_ | refine zL ?_ | refine zR ?_ | refine zE ?_ | refine zC ?_ | refine zJ ?_ | refine zK ?_ | refine zP ?_ | refine zF ?_ | refine zH ?_ | refine zG ?_ | refine zI (by decide) ?_ | refine zQ ?_ | ((first | refine zD ?_ | refine zN ?_ | refine zT rfl rfl ?_ | refine zO rfl ?_ | refine zM ?_); simp only [yq97.down, zA, lemS.down, lemC.down, Int.reduceBEq, Nat.reduceAdd, Nat.reduceLeDiff, reduceIte, Nat.reduceEqDiff, Int.reduceLT, Int.reduceLE, Int.reduceGT, Int.reduceGE, Int.reduceEq, Int.reduceAdd, Int.reduceSub, Int.reduceMul, reduceCtorEq, lemH.down, t0, t1, t2, t8, t9, t10, d1, zAU])))
      refine ⟨.inr rfl, ?_, Grows.refl _⟩
      rw [hp, hi2]
      simp only [yq97.down, zA, lemS.down, lemC.down, Int.reduceBEq, Nat.reduceAdd, Nat.reduceLeDiff, reduceIte, Nat.reduceEqDiff, Int.reduceLT, Int.reduceLE, Int.reduceGT, Int.reduceGE, Int.reduceEq, Int.reduceAdd, Int.reduceSub, Int.reduceMul, reduceCtorEq]
end Go.X
end
section
open Go Go.X
namespace Go.X
set_option linter.unusedVariables false
theorem box1 {h : Heap} {v : Value} (hc : zl v = [v]) : ∃ g, h.new [v] = g ∧ Var g h.next [v] ∧ Grows h g ∧ g.next = h.next + 1 := ⟨_, rfl, Var.new_self, Grows.new, rfl⟩
theorem zCW {h : Heap} {v : Value} {l : TagL} (hs : zAT h v = some l) : zl v = [v] ∧ oneC v = true := by
  obtain ⟨_, a, cap, rfl, _⟩ := zBH hs
  exact ⟨rfl, rfl⟩
theorem zBq {v : Value} : zl (.agg [v].toArray) = [v] := rfl
theorem eval_func {t : Fr} {f : Nat} : Fr.eval t (.func f) = .func (.func f) #[] #[] := rfl
def findG : Prim := fun args h => match args with
  | [.agg ⟨[v]⟩, .int .i64 r] => match zAT h v with
    | some l => if zBC l ∧ l.length ≤ 1000000 then some (.tuple #[.int .i64 (zAS l r : Int), .bool (isT l r)], h) else none
    | none => none
  | _ => none
theorem findG_at {h : Heap} {v : Value} {l : TagL} {r : Int} (hs : zAT h v = some l) (ho : zBC l) (hl : l.length ≤ 1000000) : findG [.agg [v].toArray, .int .i64 r] h = some (.tuple #[.int .i64 (zAS l r : Int), .bool (isT l r)], h) := by
  simp only [findG, hs]
  rw [if_pos ⟨ho, hl⟩]
theorem find_ok (pr : Prog) (hb : pr.prim 97 = some bsG) (h : Heap) (wf : HWF h) (v : Value) (l : TagL) (r : Int) (hs : zAT h v = some l) (ho : zBC l) (hl : l.length ≤ 1000000) :
    Comes pr xq79 [.agg [v].toArray, .int .i64 r] h (.tuple #[.int .i64 (zAS l r : Int), .bool (isT l r)]) := by
  apply Comes.of
  unfold xq79
  dsimp only [zd]
  obtain ⟨g, hg, v0, gg, gn⟩ := box1 (h := h) (zCW hs).1
  have l0 : ∀ sp, g.load ⟨h.next, 0, sp⟩ = some v := fun sp => v0.load
  have c1 := zu hb (bsG_at (r := r) (zCo wf gg hs) ho hl)
  (repeat (first | refine zS ?_ | refine zL ?_ | refine zR ?_ | refine zE ?_ | refine zC ?_ | refine zJ ?_ | refine zK ?_ | refine zP ?_ | refine zF ?_ | refine zH ?_ | refine zG ?_ | refine zI (by decide) ?_ | refine zQ ?_ | ((first | refine zD ?_ | refine zN ?_ | refine zT rfl rfl ?_ | refine zO rfl ?_ | refine zM ?_); simp only [yq79.down, zA, lemS.down, lemC.down, Int.reduceBEq, Nat.reduceAdd, Nat.reduceLeDiff, reduceIte, Nat.reduceEqDiff, Int.reduceLT, Int.reduceLE, Int.reduceGT, Int.reduceGE, Int.reduceEq, Int.reduceAdd, Int.reduceSub, Int.reduceMul, reduceCtorEq, lemH.down, zBq, hg, l0, Nat.add_zero, eval_func, c1])))
  exact ⟨.inr rfl, by simp only [yq79.down, zA, lemS.down, lemC.down, Int.reduceBEq, Nat.reduceAdd, Nat.reduceLeDiff, reduceIte, Nat.reduceEqDiff, Int.reduceLT, Int.reduceLE, Int.reduceGT, Int.reduceGE, Int.reduceEq, Int.reduceAdd, Int.reduceSub, Int.reduceMul, reduceCtorEq], gg⟩
structure AddTab (pr : Prog) : Prop where
  find : pr.prim 79 = some findG
  scl : pr.prim 81 = none
  sclC : pr.code 81 = some xq81
  ccl : pr.prim 50 = none
  cclC : pr.code 50 = some xq50
  ins : pr.prim 80 = some (zBc 2 24)
  add : pr.prim 48 = none
  addC : pr.code 48 = some xq48
theorem cellsOfTags_all (l : TagL) : (zg l).all oneC = true := by
  rw [List.all_eq_true]
  intro x hx
  unfold zg at hx
  rw [List.mem_flatMap] at hx
  obtain ⟨q, _, hq⟩ := hx
  simp only [List.mem_cons, List.not_mem_nil, or_false] at hq
  rcases hq with rfl | rfl <;> rfl
theorem tagsAt_src {h : Heap} {v : Value} {l : TagL} (hs : zAT h v = some l) {s : Value} : zAr h 2 24 s v = h.append 2 24 s l.length (zg l) := by
  unfold zAT at hs
  split at hs
  · rename_i n c
    split at hs
    · rename_i h0
      cases hs
      simp [zAr, h0, zg]
    · cases hs
  · rename_i a n c
    split at hs
    · rename_i h0
      cases hs
      simp [zAr, h0, zg]
    · rename_i h0
      split at hs
      · rename_i cs hcs
        obtain ⟨rfl, _⟩ := tagCells_eq hs
        have hn : l.length = n := by
          have := loadN_len2 hcs
          rw [zCt] at this
          omega
        simp only [zAr]
        rw [if_neg h0, hcs, hn]
      · cases hs
  · cases hs
theorem eqX_ns {a : Option Addr} {n c : Nat} : eqX .nslice (.slice a n c) (.slice none 0 0) = some a.isNone := by simp [eqX]
theorem zB7 {z : List Value} : zz z [] = some z := rfl
def RdTags (h : Heap) (v : Value) (l : TagL) : Prop := ∀ h', Grows h h' → zAT h' v = some l
theorem RdTags.grow {h h' : Heap} {v : Value} {l : TagL} (hr : RdTags h v l) (g : Grows h h') : RdTags h' v l := fun h2 g2 => hr h2 (g.trans g2)
theorem RdTags.now {h : Heap} {v : Value} {l : TagL} (hr : RdTags h v l) : zAT h v = some l := hr h (Grows.refl h)
theorem Own.rdTags {h : Heap} {S : Nat → Prop} {v : Value} {n : Nat} {l : TagL} (ho : Own h S 2 v n (zg l)) (hb : ∀ q ∈ l, inI q.1) : RdTags h v l := fun _ g => (ho.grow g).tags hb
theorem sClone_run {pr : Prog} (T : AddTab pr) {h : Heap} {v : Value} {l : TagL} (hs : RdTags h v l) (hl : l.length ≤ 1000000) :
    ∃ v' h', cfi pr 81 [v] h = some (v', h') ∧ Own h' (fun A => h.next ≤ A) 2 v' l.length (zg l) ∧ Grows h h' := by
  have hr64 : zU = 140737488355328 := rfl
  refine zAt T.scl T.sclC rfl ?_
  unfold xq81
  dsimp only [zd]
  refine wpk.out (k := []) ?_
  obtain ⟨hb, a, cap, rfl, hel⟩ := zBH hs.now
  cases a with
  | none =>
    have h0 : l.length = 0 := by
      have hs := hs.now
      unfold zAT at hs
      simp only at hs
      split at hs
      · assumption
      · cases hs
    obtain rfl := List.eq_nil_of_length_eq_zero h0
    (repeat (first | refine zS ?_ | refine zL ?_ | refine zR ?_ | refine zE ?_ | refine zC ?_ | refine zJ ?_ | refine zK ?_ | refine zP ?_ | refine zF ?_ | refine zH ?_ | refine zG ?_ | refine zI (by decide) ?_ | refine zQ ?_ | ((first | refine zD ?_ | refine zN ?_ | refine zT rfl rfl ?_ | refine zO rfl ?_ | refine zM ?_); simp only [yq81.down, zA, lemS.down, lemC.down, Int.reduceBEq, Nat.reduceAdd, Nat.reduceLeDiff, reduceIte, Nat.reduceEqDiff, Int.reduceLT, Int.reduceLE, Int.reduceGT, Int.reduceGE, Int.reduceEq, Int.reduceAdd, Int.reduceSub, Int.reduceMul, reduceCtorEq, lemH.down, eqX_ns])))
    exact ⟨.inr rfl, _, by simp only [yq81.down, zA, lemS.down, lemC.down, Int.reduceBEq, Nat.reduceAdd, Nat.reduceLeDiff, reduceIte, Nat.reduceEqDiff, Int.reduceLT, Int.reduceLE, Int.reduceGT, Int.reduceGE, Int.reduceEq, Int.reduceAdd, Int.reduceSub, Int.reduceMul, reduceCtorEq], Own.nil, Grows.refl _⟩
  | some a =>
    have hO := Own.newSlice (h := h) (l := []) (n := 0) (esz := 2) (sp := none) rfl (.inl rfl)
    obtain ⟨v2, h2, e2, hO2, k2⟩ := hO.append (bytes := 24) (m := l.length) (new := zg l) (zCt l) (cellsOfTags_all l) (by decide) (by decide) (by omega)
    have hsrc := tagsAt_src (hs _ (Grows.new (l := []))) (s := .slice (some ⟨h.next, 0, none⟩) 0 0)
    rw [← hsrc] at e2
    (repeat (first | refine zS ?_ | refine zL ?_ | refine zR ?_ | refine zE ?_ | refine zC ?_ | refine zJ ?_ | refine zK ?_ | refine zP ?_ | refine zF ?_ | refine zH ?_ | refine zG ?_ | refine zI (by decide) ?_ | refine zQ ?_ | ((first | refine zD ?_ | refine zN ?_ | refine zT rfl rfl ?_ | refine zO rfl ?_ | refine zM ?_); simp only [yq81.down, zA, lemS.down, lemC.down, Int.reduceBEq, Nat.reduceAdd, Nat.reduceLeDiff, reduceIte, Nat.reduceEqDiff, Int.reduceLT, Int.reduceLE, Int.reduceGT, Int.reduceGE, Int.reduceEq, Int.reduceAdd, Int.reduceSub, Int.reduceMul, reduceCtorEq, lemH.down, eqX_ns, zB7, e2])))
    refine ⟨.inr rfl, v2, by simp only [yq81.down, zA, lemS.down, lemC.down, Int.reduceBEq, Nat.reduceAdd, Nat.reduceLeDiff, reduceIte, Nat.reduceEqDiff, Int.reduceLT, Int.reduceLE, Int.reduceGT, Int.reduceGE, Int.reduceEq, Int.reduceAdd, Int.reduceSub, Int.reduceMul, reduceCtorEq], ?_, Grows.new.then k2 (fun A hA q => by omega)⟩
    rw [Nat.zero_add, List.nil_append] at hO2
    exact hO2.mono fun A hA => by
      rcases hA with q | q
      · omega
      · have : (h.new []).next = h.next + 1 := rfl
        omega
theorem cClone_run {pr : Prog} (T : AddTab pr) {h : Heap} {v : Value} {l : TagL} (hs : RdTags h v l) (hl : l.length ≤ 1000000) :
    ∃ v' h', cfi pr 50 [.agg [v].toArray] h = some (.agg [v'].toArray, h') ∧ Own h' (fun A => h.next ≤ A) 2 v' l.length (zg l) ∧ Grows h h' := by
  have : ∃ w h', cfi pr 50 [.agg [v].toArray] h = some (w, h') ∧ ∃ v', w = .agg [v'].toArray ∧ Own h' (fun A => h.next ≤ A) 2 v' l.length (zg l) ∧ Grows h h' := by
    refine zAt T.ccl T.cclC rfl ?_
    unfold xq50
    dsimp only [zd]
    refine wpk.out (k := []) ?_
    obtain ⟨g, hg, v0, gg, gn⟩ := box1 (h := h) (zCW hs.now).1
    obtain ⟨g1, hg1, v1, gg1, gn1⟩ := box1 (h := g) (v := .slice none 0 0) rfl
    have l0 : ∀ sp, g1.load ⟨h.next, 0, sp⟩ = some v := fun sp => (v0.grow gg1).load
    obtain ⟨v2, h2, e2, hO2, g2⟩ := sClone_run T (hs.grow (gg.trans gg1)) hl
    have f1 : zz [.slice none 0 0] [(0, 1, v2)] = some [v2] := fillV_one hO2.cell
    have vB := v1.grow g2
    have st : zAG h2 1 (.pointer (some ⟨g.next, 0, none⟩)) (.agg [v2].toArray) = some (.tuple #[], h2.wr g.next [v2]) := vB.storeAll rfl rfl (by decide) (by simp [hO2.one])
    (repeat (first | refine zS ?_ | refine zL ?_ | refine zR ?_ | refine zE ?_ | refine zC ?_ | refine zJ ?_ | refine zK ?_ | refine zP ?_ | refine zF ?_ | refine zH ?_ | refine zG ?_ | refine zI (by decide) ?_ | refine zQ ?_ | ((first | refine zD ?_ | refine zN ?_ | refine zT rfl rfl ?_ | refine zO rfl ?_ | refine zM ?_); simp only [yq50.down, zA, lemS.down, lemC.down, Int.reduceBEq, Nat.reduceAdd, Nat.reduceLeDiff, reduceIte, Nat.reduceEqDiff, Int.reduceLT, Int.reduceLE, Int.reduceGT, Int.reduceGE, Int.reduceEq, Int.reduceAdd, Int.reduceSub, Int.reduceMul, reduceCtorEq, lemH.down, zBq, hg, hg1, l0, Nat.add_zero, e2, f1, st])))
    exact ⟨.inr rfl, _, zCT (a := ⟨g.next, 0, none⟩) (by simp only [yq50.down, zA, lemS.down, lemC.down, Int.reduceBEq, Nat.reduceAdd, Nat.reduceLeDiff, reduceIte, Nat.reduceEqDiff, Int.reduceLT, Int.reduceLE, Int.reduceGT, Int.reduceGE, Int.reduceEq, Int.reduceAdd, Int.reduceSub, Int.reduceMul, reduceCtorEq]) (vB.wr.loadAll rfl), v2, rfl, (hO2.keep Keeps.wr (fun A hA e => by omega)).mono (fun A hA => by omega), ((gg.trans gg1).trans g2).wr (by omega)⟩
  obtain ⟨w, h', e, v', rfl, r⟩ := this
  exact ⟨v', h', e, r⟩
def addT (l : TagL) (q : Int × List UInt8) : TagL := if isT l q.1 = true then l else l.take (zAS l q.1) ++ [q] ++ l.drop (zAS l q.1)
theorem placeT_le (l : TagL) (r : Int) : zAS l r ≤ l.length := by
  unfold zAS
  exact List.Sublist.length_le (List.takeWhile_sublist _)
theorem addT_bound {l : TagL} {q : Int × List UInt8} (hb : ∀ x ∈ l, inI x.1) (hq : inI q.1) : ∀ x ∈ addT l q, inI x.1 := by
  intro x hx
  unfold addT at hx
  split at hx
  · exact hb x hx
  · simp only [List.mem_append, List.mem_singleton] at hx
    rcases hx with (hx | rfl) | hx
    · exact hb x (List.mem_of_mem_take hx)
    · exact hq
    · exact hb x (List.mem_of_mem_drop hx)
theorem fill_tagA {r : Int} {t : List UInt8} : zz [.int .i64 0, .string (zB [])] [(0, 2, .agg #[.int .i64 r, .string (zB t)])] = some [.int .i64 r, .string (zB t)] := rfl
set_option maxHeartbeats 1000000 in
theorem Add_own {pr : Prog} (T : AddTab pr) {h : Heap} {v : Value} {l : TagL} (hs : RdTags h v l) (ho : zBC l) (hl : l.length ≤ 1000000) {r : Int} {t : List UInt8} (hr : inI r) :
    ∃ v' h', cfi pr 48 [.agg [v].toArray, tagV r t] h = some (.agg [v'].toArray, h') ∧ Own h' (fun A => h.next ≤ A) 2 v' (addT l (r, t)).length (zg (addT l (r, t))) ∧ Grows h h' := by
  have hr64 : zU = 140737488355328 := rfl
  have : ∃ w h', cfi pr 48 [.agg [v].toArray, tagV r t] h = some (w, h') ∧ ∃ v', w = .agg [v'].toArray ∧ Own h' (fun A => h.next ≤ A) 2 v' (addT l (r, t)).length (zg (addT l (r, t))) ∧ Grows h h' := by
    refine zAt T.add T.addC rfl ?_
    unfold xq48
    dsimp only [zd]
    refine wpk.out (k := []) ?_
    obtain ⟨hb, _⟩ := zBH hs.now
    obtain ⟨g, hg, v0, gg, gn⟩ := box1 (h := h) (zCW hs.now).1
    obtain ⟨g1, hg1, v1, gg1⟩ : ∃ g1, g.new [.int .i64 r, .string (zB t)] = g1 ∧ Var g1 g.next [.int .i64 r, .string (zB t)] ∧ Grows g g1 := ⟨_, rfl, Var.new_self, Grows.new⟩
    have gn1 : g1.next = h.next + 2 := by rw [← hg1]; show g.next + 1 = _; omega
    obtain ⟨g2, hg2, v2, gg2, gn2⟩ := box1 (h := g1) (v := .slice none 0 0) rfl
    rw [show g1.next = g.next + 1 by rw [← hg1]; rfl] at v2
    have gAll := (gg.trans gg1).trans gg2
    have hs2 := hs.grow gAll
    have a0 := v0.grow (gg1.trans gg2)
    have a1 := v1.grow gg2
    have l0 : ∀ sp, g2.loadN ⟨h.next, 0, sp⟩ 1 = some [v] := fun sp => a0.loadAll rfl
    have l0' : ∀ sp, g2.load ⟨h.next, 0, sp⟩ = some v := fun sp => a0.load
    have l1 : ∀ sp, g2.load ⟨g.next, 0, sp⟩ = some (.int .i64 r) := fun sp => a1.load
    have e4 : g1.next = g.next + 1 := by rw [← hg1]; rfl
    have l2a : ∀ sp, g2.loadN ⟨g.next, 0, sp⟩ 2 = some [.int .i64 r, .string (zB t)] := fun sp => a1.loadAll rfl
    have fd := zu T.find (findG_at (r := r) hs2.now ho hl)
    cases hi : isT l r
    · rw [hi] at fd
      obtain ⟨w1, h1, e1, hO1, k1⟩ := sClone_run T hs2 hl
      have l2 : ∀ sp, h1.loadN ⟨g.next, 0, sp⟩ 2 = some [.int .i64 r, .string (zB t)] := fun sp => (a1.grow k1).loadAll rfl
      have hpl := placeT_le l r
      obtain ⟨w2, h2, e2, hO2, k2⟩ := hO1.insert (bytes := 24) (m := 1) (lit := [.int .i64 r, .string (zB t)]) rfl (by decide) rfl (cellsOfTags_all l) (by decide) (by decide) (by omega) hpl
      have e2 : cfi pr 80 [w1, .int .i64 (zAS l r : Int), .slice (some ⟨h1.next, 0, none⟩) 1 1] (h1.new [.int .i64 r, .string (zB t)]) = some (w2, h2) := cfi_prim T.ins e2
      have f1 : zz [.slice none 0 0] [(0, 1, w2)] = some [w2] := fillV_one hO2.cell
      have kk := k1.trans (Grows.new (l := [.int .i64 r, .string (zB t)]))
      have vB := (v2.grow kk).keep k2 (fun q => by omega)
      have st : zAG h2 1 (.pointer (some ⟨g.next + 1, 0, none⟩)) (.agg [w2].toArray) = some (.tuple #[], h2.wr (g.next + 1) [w2]) := vB.storeAll rfl rfl (by decide) (by simp [hO2.one])
      have gF : Grows h h2 := (gAll.trans kk).then k2 (fun A hA q => by omega)
      have l2b : ∀ sp, (h1.new [.int .i64 r, .string (zB t)]).loadN ⟨g.next, 0, sp⟩ 2 = some [.int .i64 r, .string (zB t)] := fun sp => (a1.grow kk).loadAll rfl
      (repeat (first | refine zS ?_ | refine zL ?_ | refine zR ?_ | refine zE ?_ | refine zC ?_ | refine zJ ?_ | refine zK ?_ | refine zP ?_ | refine zF ?_ | refine zH ?_ | refine zG ?_ | refine zI (by decide) ?_ | refine zQ ?_ | ((first | refine zD ?_ | refine zN ?_ | refine zT rfl rfl ?_ | refine zO rfl ?_ | refine wpk_drawP rfl ?_ | refine zM ?_); simp only [yq48.down, zA, lemS.down, lemC.down, Int.reduceBEq, Nat.reduceAdd, Nat.reduceLeDiff, reduceIte, Nat.reduceEqDiff, Int.reduceLT, Int.reduceLE, Int.reduceGT, Int.reduceGE, Int.reduceEq, Int.reduceAdd, Int.reduceSub, Int.reduceMul, reduceCtorEq, lemH.down, zBq, zCL, hg, hg1, hg2, l0, l1, fd, l0', Nat.add_zero, e1, l2, fill_tagA, e2, f1, st])))
      refine ⟨?_, ?_, ?_⟩
      · (refine zAQ rfl rfl rfl ?_ ?_ <;> simp only [yq48.down, zA, lemS.down, lemC.down, Int.reduceBEq, Nat.reduceAdd, Nat.reduceLeDiff, reduceIte, Nat.reduceEqDiff, Int.reduceLT, Int.reduceLE, Int.reduceGT, Int.reduceGE, Int.reduceEq, Int.reduceAdd, Int.reduceSub, Int.reduceMul, reduceCtorEq, l2a, l2, zp, zn, zq, zo, zk, Option.isSome_some])
      · (refine zAQ rfl rfl rfl ?_ ?_ <;> simp only [yq48.down, zA, lemS.down, lemC.down, Int.reduceBEq, Nat.reduceAdd, Nat.reduceLeDiff, reduceIte, Nat.reduceEqDiff, Int.reduceLT, Int.reduceLE, Int.reduceGT, Int.reduceGE, Int.reduceEq, Int.reduceAdd, Int.reduceSub, Int.reduceMul, reduceCtorEq, l2b, l2, zp, zn, zq, zo, zk, Option.isSome_some])
      (repeat (first | refine zS ?_ | refine zL ?_ | refine zR ?_ | refine zE ?_ | refine zC ?_ | refine zJ ?_ | refine zK ?_ | refine zP ?_ | refine zF ?_ | refine zH ?_ | refine zG ?_ | refine zI (by decide) ?_ | refine zQ ?_ | ((first | refine zD ?_ | refine zN ?_ | refine zT rfl rfl ?_ | refine zO rfl ?_ | refine zM ?_); simp only [yq48.down, zA, lemS.down, lemC.down, Int.reduceBEq, Nat.reduceAdd, Nat.reduceLeDiff, reduceIte, Nat.reduceEqDiff, Int.reduceLT, Int.reduceLE, Int.reduceGT, Int.reduceGE, Int.reduceEq, Int.reduceAdd, Int.reduceSub, Int.reduceMul, reduceCtorEq, lemH.down, f1, st])))
      refine ⟨.inr rfl, _, zCT (a := ⟨g.next + 1, 0, none⟩) (by simp only [yq48.down, zA, lemS.down, lemC.down, Int.reduceBEq, Nat.reduceAdd, Nat.reduceLeDiff, reduceIte, Nat.reduceEqDiff, Int.reduceLT, Int.reduceLE, Int.reduceGT, Int.reduceGE, Int.reduceEq, Int.reduceAdd, Int.reduceSub, Int.reduceMul, reduceCtorEq]) (vB.wr.loadAll rfl), w2, rfl, ?_, gF.wr (by omega)⟩
      have ea : addT l (r, t) = l.take (zAS l r) ++ [(r, t)] ++ l.drop (zAS l r) := by unfold addT; rw [if_neg (by rw [hi]; decide)]
      have ec : (zg l).take (zAS l r * 2) ++ [.int .i64 r, .string (zB t)] ++ (zg l).drop (zAS l r * 2) = zg (addT l (r, t)) := by
        rw [ea, zCs, zCs, cellsOfTags_take, cellsOfTags_drop]
        rfl
      rw [ec] at hO2
      have kn := k1.next
      have el : (addT l (r, t)).length = l.length + 1 := by
        rw [ea]
        simp only [List.length_append, List.length_take, List.length_drop, List.length_singleton]
        omega
      rw [el]
      exact (hO2.keep Keeps.wr (fun A hA e => by rcases hA with q | q <;> omega)).mono (fun A hA => by rcases hA with q | q <;> omega)
    · rw [hi] at fd
      obtain ⟨w1, h1, e1, hO1, k1⟩ := cClone_run T hs2 hl
      have vB := v2.grow k1
      have st : zAG h1 1 (.pointer (some ⟨g.next + 1, 0, none⟩)) (.agg [w1].toArray) = some (.tuple #[], h1.wr (g.next + 1) [w1]) := vB.storeAll rfl rfl (by decide) (by simp [hO1.one])
      (repeat (first | refine zS ?_ | refine zL ?_ | refine zR ?_ | refine zE ?_ | refine zC ?_ | refine zJ ?_ | refine zK ?_ | refine zP ?_ | refine zF ?_ | refine zH ?_ | refine zG ?_ | refine zI (by decide) ?_ | refine zQ ?_ | ((first | refine zD ?_ | refine zN ?_ | refine zT rfl rfl ?_ | refine zO rfl ?_ | refine wpk_drawP rfl ?_ | refine zM ?_); simp only [yq48.down, zA, lemS.down, lemC.down, Int.reduceBEq, Nat.reduceAdd, Nat.reduceLeDiff, reduceIte, Nat.reduceEqDiff, Int.reduceLT, Int.reduceLE, Int.reduceGT, Int.reduceGE, Int.reduceEq, Int.reduceAdd, Int.reduceSub, Int.reduceMul, reduceCtorEq, lemH.down, zBq, zCL, hg, hg1, hg2, l0, l1, fd, l0', e1, st])))
      refine ⟨.inr rfl, _, zCT (a := ⟨g.next + 1, 0, none⟩) (by simp only [yq48.down, zA, lemS.down, lemC.down, Int.reduceBEq, Nat.reduceAdd, Nat.reduceLeDiff, reduceIte, Nat.reduceEqDiff, Int.reduceLT, Int.reduceLE, Int.reduceGT, Int.reduceGE, Int.reduceEq, Int.reduceAdd, Int.reduceSub, Int.reduceMul, reduceCtorEq]) (vB.wr.loadAll rfl), w1, rfl, ?_, (gAll.trans k1).wr (by omega)⟩
      have : addT l (r, t) = l := by unfold addT; rw [if_pos hi]
      rw [this]
      exact (hO1.keep Keeps.wr (fun A hA e => by omega)).mono (fun A hA => by omega)
  obtain ⟨w, h', e, v', rfl, r⟩ := this
  exact ⟨v', h', e, r⟩
theorem Add_run {pr : Prog} (T : AddTab pr) {h : Heap} {v : Value} {l : TagL} (hs : RdTags h v l) (ho : zBC l) (hl : l.length ≤ 1000000) {r : Int} {t : List UInt8} (hr : inI r) :
    ∃ v' h', cfi pr 48 [.agg [v].toArray, tagV r t] h = some (.agg [v'].toArray, h') ∧ RdTags h' v' (addT l (r, t)) ∧ Grows h h' := by
  obtain ⟨hb, _⟩ := zBH hs.now
  obtain ⟨v', h', e, o, g⟩ := Add_own T hs ho hl hr
  exact ⟨v', h', e, o.rdTags (addT_bound hb hr), g⟩
end Go.X
end
section
open Go Go.X
namespace Go.X
set_option linter.unusedVariables false
def setOf (ks : List Int) : List (Value × Value) := ks.map fun k => (.int .i64 k, .bool true)
def MapAt (h : Heap) (r : Nat) (es : List (Value × Value)) : Prop := h.blks.get r = some (.map es)
theorem findX_set : ∀ (ks : List Int) (x : Int) (i : Nat), (x ∉ ks → findX .int (.int .i64 x) (setOf ks) i = some none) ∧ (x ∈ ks → ∃ j, findX .int (.int .i64 x) (setOf ks) i = some (some (j, .bool true)))
  | [], x, i => ⟨fun _ => rfl, fun h => by simp at h⟩
  | k :: ks, x, i => by
    have ih := findX_set ks x (i + 1)
    unfold setOf at ih ⊢
    simp only [List.map_cons, findX, eqX_i]
    by_cases e : x = k
    · subst e
      simp
    · have hb : (x == k) = false := by rw [beq_eq_false_iff_ne]; exact e
      rw [hb]
      refine ⟨fun h => ?_, fun h => ?_⟩
      · exact ih.1 (fun q => h (by simp [q]))
      · rcases List.mem_cons.1 h with q | q
        · exact absurd q e
        · exact ih.2 q
def lookupV (h : Heap) (z : Value) (ok : Bool) (k : EqK) (m key : Value) : Option Value := match m with
  | .map none => some (if ok then .tuple #[z, .bool false] else z)
  | .map (some r) => (match h.blks.get r with
    | some (.map es) => (match findX k key es 0 with
      | some (some (_, v)) => some (if ok then .tuple #[v, .bool true] else v)
      | some none => some (if ok then .tuple #[z, .bool false] else z)
      | none => none)
    | _ => none)
  | _ => none
theorem r_lookupV {t : Fr} {h : Heap} {z : Value} {ok : Bool} {k : EqK} {m key : Operand} : zx t h (.lookup z ok k m key) = lookupV h z ok k (t.eval m) (t.eval key) := by
  simp only [zx, lookupV]
  cases t.eval m <;> first | rfl | (rename_i r; cases r <;> rfl)
theorem lookupV_set {h : Heap} {r : Nat} {ks : List Int} (hm : MapAt h r (setOf ks)) (x : Int) : lookupV h (.bool false) false .int (.map (some r)) (.int .i64 x) = some (.bool (ks.contains x)) := by
  unfold MapAt at hm
  simp only [lookupV, hm]
  by_cases hx : x ∈ ks
  · obtain ⟨j, e⟩ := (findX_set ks x 0).2 hx
    rw [e]
    simp [hx]
  · rw [(findX_set ks x 0).1 hx]
    simp [hx]
def mupdV (h : Heap) (k : EqK) (m key v : Value) : Option (Value × Heap) := match m with
  | .map (some r) => match h.blks.get r with
    | some (.map es) => (match findX k key es 0 with
      | some (some (i, _)) => some (.tuple #[], h.setBlk r (.map (es.set i (key, v))))
      | some none => some (.tuple #[], h.setBlk r (.map (es ++ [(key, v)])))
      | none => none)
    | _ => none
  | _ => none
theorem eff_mupdV {t : Fr} {h : Heap} {k : EqK} {m key v : Operand} : effX t h (.mupd k m key v) = mupdV h k (t.eval m) (t.eval key) (t.eval v) := by
  simp only [effX, mupdV]
  cases t.eval m <;> first | rfl | (rename_i r; cases r <;> rfl)
theorem mupdV_set {h : Heap} {r : Nat} {ks : List Int} (hm : MapAt h r (setOf ks)) {x : Int} (hx : x ∉ ks) : mupdV h .int (.map (some r)) (.int .i64 x) (.bool true) = some (.tuple #[], h.setBlk r (.map (setOf (ks ++ [x])))) := by
  unfold MapAt at hm
  simp only [mupdV, hm, (findX_set ks x 0).1 hx]
  simp [setOf]
theorem MapAt.set {h : Heap} {r : Nat} {es : List (Value × Value)} : MapAt (h.setBlk r (.map es)) r es := PT.get_set_eq _ _ _
theorem Keeps.setMap {h : Heap} {r : Nat} {b : Blk} : Keeps (fun A => A = r) h (h.setBlk r b) := ⟨Nat.le_refl _, fun A _ hn => PT.get_set_ne _ _ hn, fun A _ _ => rfl⟩
theorem newMap_next {h : Heap} : h.newMap.next = h.next + 1 := rfl
theorem Grows.newMap {h : Heap} : Grows h h.newMap := ⟨Nat.le_succ _, fun A hA => PT.get_set_ne _ _ (by omega), fun A _ => rfl⟩
theorem MapAt.keep {h h' : Heap} {r : Nat} {es : List (Value × Value)} {K : Nat → Prop} (hm : MapAt h r es) (hr : r < h.next) (hk : Keeps K h h') (hn : ¬ K r) : MapAt h' r es := by
  unfold MapAt
  rw [hk.blks r hr hn]
  exact hm
theorem val_map {id : Nat} : Mk.val id .map = .map (some id) := rfl
theorem al_mkmap {t : Fr} : zAj t .mkmap = some (.map, .map) := rfl
def mostS : List Value → Option Value
  | [.int .i64 n] => if 0 ≤ n ∧ n ≤ 1000000 then some (.int .i64 (n / 2 + 1)) else none
  | _ => none
theorem most_ok (pr : Prog) (n : Int) (h0 : 0 ≤ n ∧ n ≤ 1000000) (h : Heap) : Comes pr xq102 [.int .i64 n] h (.int .i64 (n / 2 + 1)) := by
  apply Comes.of
  unfold xq102
  dsimp only [zd]
  have q := bin_quo (k := .i64) (a := n) (b := 2) (by decide)
  rw [Int.tdiv_eq_ediv_of_nonneg h0.1, wrap_i64 (by omega) (by omega)] at q
  have w : IntKind.i64.wrap (n / 2 + 1) = n / 2 + 1 := wrap_i64 (by omega) (by omega)
  (repeat (first | refine zS ?_ | refine zL ?_ | refine zR ?_ | refine zE ?_ | refine zC ?_ | refine zJ ?_ | refine zK ?_ | refine zP ?_ | refine zF ?_ | refine zH ?_ | refine zG ?_ | refine zI (by decide) ?_ | refine zQ ?_ | ((first | refine zD ?_ | refine zN ?_ | refine zT rfl rfl ?_ | refine zO rfl ?_ | refine zM ?_); simp only [yq102.down, zA, lemS.down, lemC.down, Int.reduceBEq, Nat.reduceAdd, Nat.reduceLeDiff, reduceIte, Nat.reduceEqDiff, Int.reduceLT, Int.reduceLE, Int.reduceGT, Int.reduceGE, Int.reduceEq, Int.reduceAdd, Int.reduceSub, Int.reduceMul, reduceCtorEq, q, w])))
  exact ⟨.inr rfl, by simp only [yq102.down, zA, lemS.down, lemC.down, Int.reduceBEq, Nat.reduceAdd, Nat.reduceLeDiff, reduceIte, Nat.reduceEqDiff, Int.reduceLT, Int.reduceLE, Int.reduceGT, Int.reduceGE, Int.reduceEq, Int.reduceAdd, Int.reduceSub, Int.reduceMul, reduceCtorEq], Grows.refl h⟩
def mostP (ms ks : List Int) : Bool := decide (0 < ms.length) && decide (ms.length / 2 + 1 ≤ (ms.filter (fun m => ks.contains m)).length)
def keysOf : List (Value × Value) → Option (List Int)
  | [] => some []
  | (.int .i64 k, .bool true) :: r => match keysOf r with | some l => some (k :: l) | none => none
  | _ :: _ => none
theorem keysOf_set : ∀ ks : List Int, keysOf (setOf ks) = some ks
  | [] => rfl
  | k :: ks => by
    have := keysOf_set ks
    unfold setOf at this ⊢
    simp only [List.map_cons, keysOf, this]
theorem keysOf_eq : ∀ {es : List (Value × Value)} {ks : List Int}, keysOf es = some ks → es = setOf ks
  | [], ks, h => by cases h; rfl
  | e :: es, ks, h => by
    unfold keysOf at h
    split at h
    · rename_i heq; cases heq
    · rename_i k r heq
      cases heq
      split at h
      · rename_i l hl
        cases h
        rw [keysOf_eq hl]
        rfl
      · cases h
    · cases h
def mostG : Prim := fun args h => match args with
  | [mv, .map (some r)] => match zAC h mv, h.blks.get r with
    | some ms, some (.map es) => match keysOf es with
      | some ks => if ms.length ≤ 1000000 then some (.bool (mostP ms ks), h) else none
      | none => none
    | _, _ => none
  | _ => none
theorem mostG_at {h : Heap} {mv : Value} {r : Nat} {ms ks : List Int} (hs : zAC h mv = some ms) (hm : MapAt h r (setOf ks)) (hl : ms.length ≤ 1000000) : mostG [mv, .map (some r)] h = some (.bool (mostP ms ks), h) := by
  unfold MapAt at hm
  simp only [mostG, hs, hm, keysOf_set]
  rw [if_pos hl]
theorem cmost_ok (pr : Prog) (hh : pr.prim 102 = some (zb mostS)) (h : Heap) (mv : Value) (r : Nat) (ms ks : List Int) (hs : zAC h mv = some ms) (hm : MapAt h r (setOf ks)) (hl : ms.length ≤ 1000000) : Comes pr xq83 [mv, .map (some r)] h (.bool (mostP ms ks)) := by
  apply Comes.of
  unfold xq83
  dsimp only [zd]
  obtain ⟨hb, a, cap, rfl, hel⟩ := zBd hs
  (repeat (first | refine zS ?_ | refine zL ?_ | refine zR ?_ | refine zE ?_ | refine zC ?_ | refine zJ ?_ | refine zK ?_ | refine zP ?_ | refine zF ?_ | refine zH ?_ | refine zG ?_ | refine zI (by decide) ?_ | refine zQ ?_ | ((first | refine zD ?_ | refine zN ?_ | refine zT rfl rfl ?_ | refine zO rfl ?_ | refine zM ?_); simp only [yq83.down, zA, lemS.down, lemC.down, Int.reduceBEq, Nat.reduceAdd, Nat.reduceLeDiff, reduceIte, Nat.reduceEqDiff, Int.reduceLT, Int.reduceLE, Int.reduceGT, Int.reduceGE, Int.reduceEq, Int.reduceAdd, Int.reduceSub, Int.reduceMul, reduceCtorEq, lemH.down])))
  refine zAA (fun m t g => ∃ i, m = ms.length - i ∧ i ≤ ms.length ∧ g = h ∧ t.get 0 = .slice a ms.length cap ∧ t.get 1 = .map (some r) ∧ t.get 5 = .int .i64 (((ms.take i).filter (fun m => ks.contains m)).length : Int) ∧ t.get 8 = .slice a ms.length cap ∧ t.get 9 = .int .i64 (ms.length : Int) ∧ t.get 10 = .int .i64 (i : Int)) ?_ ms.length _ _ ⟨0, rfl, by omega, rfl, by simp only [yq83.down, zA, lemS.down, lemC.down, Int.reduceBEq, Nat.reduceAdd, Nat.reduceLeDiff, reduceIte, Nat.reduceEqDiff, Int.reduceLT, Int.reduceLE, Int.reduceGT, Int.reduceGE, Int.reduceEq, Int.reduceAdd, Int.reduceSub, Int.reduceMul, reduceCtorEq], by simp only [yq83.down, zA, lemS.down, lemC.down, Int.reduceBEq, Nat.reduceAdd, Nat.reduceLeDiff, reduceIte, Nat.reduceEqDiff, Int.reduceLT, Int.reduceLE, Int.reduceGT, Int.reduceGE, Int.reduceEq, Int.reduceAdd, Int.reduceSub, Int.reduceMul, reduceCtorEq], by (simp only [yq83.down, zA, lemS.down, lemC.down, Int.reduceBEq, Nat.reduceAdd, Nat.reduceLeDiff, reduceIte, Nat.reduceEqDiff, Int.reduceLT, Int.reduceLE, Int.reduceGT, Int.reduceGE, Int.reduceEq, Int.reduceAdd, Int.reduceSub, Int.reduceMul, reduceCtorEq]) <;> rfl, by simp only [yq83.down, zA, lemS.down, lemC.down, Int.reduceBEq, Nat.reduceAdd, Nat.reduceLeDiff, reduceIte, Nat.reduceEqDiff, Int.reduceLT, Int.reduceLE, Int.reduceGT, Int.reduceGE, Int.reduceEq, Int.reduceAdd, Int.reduceSub, Int.reduceMul, reduceCtorEq], by simp only [yq83.down, zA, lemS.down, lemC.down, Int.reduceBEq, Nat.reduceAdd, Nat.reduceLeDiff, reduceIte, Nat.reduceEqDiff, Int.reduceLT, Int.reduceLE, Int.reduceGT, Int.reduceGE, Int.reduceEq, Int.reduceAdd, Int.reduceSub, Int.reduceMul, reduceCtorEq], by (simp only [yq83.down, zA, lemS.down, lemC.down, Int.reduceBEq, Nat.reduceAdd, Nat.reduceLeDiff, reduceIte, Nat.reduceEqDiff, Int.reduceLT, Int.reduceLE, Int.reduceGT, Int.reduceGE, Int.reduceEq, Int.reduceAdd, Int.reduceSub, Int.reduceMul, reduceCtorEq]) <;> rfl⟩
  rintro m t g ⟨i, rfl, hi, rfl, t0, t1, t5, t8, t9, t10⟩ hnext
  refine xq83_8k ?_
  dsimp only [xq83_8b]
  (repeat (first | refine zS ?_ | refine zL ?_ | refine zR ?_ | refine zE ?_ | refine zC ?_ | refine zJ ?_ | refine zK ?_ | refine zP ?_ | refine zF ?_ | refine zH ?_ | refine zG ?_ | refine zI (by decide) ?_ | refine zQ ?_ | ((first | refine zD ?_ | refine zN ?_ | refine zT rfl rfl ?_ | refine zO rfl ?_ | refine zM ?_); simp only [yq83.down, zA, lemS.down, lemC.down, Int.reduceBEq, Nat.reduceAdd, Nat.reduceLeDiff, reduceIte, Nat.reduceEqDiff, Int.reduceLT, Int.reduceLE, Int.reduceGT, Int.reduceGE, Int.reduceEq, Int.reduceAdd, Int.reduceSub, Int.reduceMul, reduceCtorEq, lemH.down, t0, t1, t5, t8, t9, t10])))
  refine ⟨fun hlt => ?_, fun hge => ?_⟩
  · have hi' : i < ms.length := by omega
    obtain ⟨B, o, ia, ld⟩ := hel i hi'
    have ld : ∀ sp, g.load ⟨B, o, sp⟩ = some (.int .i64 (ms.getD i 0)) := fun sp => ld
    have lk := lookupV_set hm (ms.getD i 0)
    have ww : IntKind.i64.wrap ((i : Int) + 1) = ((i + 1 : Nat) : Int) := by rw [wrap_i64 (by omega) (by omega)]; omega
    have hle : ((ms.take i).filter (fun m => ks.contains m)).length ≤ ms.length := Nat.le_trans (List.length_filter_le _ _) (by rw [List.length_take]; omega)
    have w5 : IntKind.i64.wrap ((((ms.take i).filter (fun m => ks.contains m)).length : Int) + 1) = ((((ms.take i).filter (fun m => ks.contains m)).length + 1 : Nat) : Int) := by rw [wrap_i64 (by omega) (by omega)]; omega
    have ht : ms.take (i + 1) = ms.take i ++ [ms.getD i 0] := by
      rw [List.take_succ_eq_append_getElem hi']
      simp [List.getD_eq_getElem?_getD, List.getElem?_eq_getElem hi']
    cases hc : ks.contains (ms.getD i 0)
    · rw [hc] at lk
      (repeat (first | refine zS ?_ | refine zL ?_ | refine zR ?_ | refine zE ?_ | refine zC ?_ | refine zJ ?_ | refine zK ?_ | refine zP ?_ | refine zF ?_ | refine zH ?_ | refine zG ?_ | refine zI (by decide) ?_ | refine zQ ?_ | ((first | refine zD ?_ | refine zN ?_ | refine zT rfl rfl ?_ | refine zO rfl ?_ | refine zM ?_); simp only [yq83.down, zA, lemS.down, lemC.down, Int.reduceBEq, Nat.reduceAdd, Nat.reduceLeDiff, reduceIte, Nat.reduceEqDiff, Int.reduceLT, Int.reduceLE, Int.reduceGT, Int.reduceGE, Int.reduceEq, Int.reduceAdd, Int.reduceSub, Int.reduceMul, reduceCtorEq, lemH.down, t0, t1, t5, t8, t9, t10, zAJ, ia, ld, r_lookupV, lk, ww])))
      exact hnext (ms.length - (i + 1)) _ g (by omega) ⟨i + 1, rfl, by omega, rfl, by simp only [yq83.down, zA, lemS.down, lemC.down, Int.reduceBEq, Nat.reduceAdd, Nat.reduceLeDiff, reduceIte, Nat.reduceEqDiff, Int.reduceLT, Int.reduceLE, Int.reduceGT, Int.reduceGE, Int.reduceEq, Int.reduceAdd, Int.reduceSub, Int.reduceMul, reduceCtorEq, t0], by simp only [yq83.down, zA, lemS.down, lemC.down, Int.reduceBEq, Nat.reduceAdd, Nat.reduceLeDiff, reduceIte, Nat.reduceEqDiff, Int.reduceLT, Int.reduceLE, Int.reduceGT, Int.reduceGE, Int.reduceEq, Int.reduceAdd, Int.reduceSub, Int.reduceMul, reduceCtorEq, t1], by rw [ht, List.filter_append, List.filter_cons_of_neg (by rw [hc]; decide), List.filter_nil, List.append_nil]; simp only [yq83.down, zA, lemS.down, lemC.down, Int.reduceBEq, Nat.reduceAdd, Nat.reduceLeDiff, reduceIte, Nat.reduceEqDiff, Int.reduceLT, Int.reduceLE, Int.reduceGT, Int.reduceGE, Int.reduceEq, Int.reduceAdd, Int.reduceSub, Int.reduceMul, reduceCtorEq, t5], by simp only [yq83.down, zA, lemS.down, lemC.down, Int.reduceBEq, Nat.reduceAdd, Nat.reduceLeDiff, reduceIte, Nat.reduceEqDiff, Int.reduceLT, Int.reduceLE, Int.reduceGT, Int.reduceGE, Int.reduceEq, Int.reduceAdd, Int.reduceSub, Int.reduceMul, reduceCtorEq, t8], by simp only [yq83.down, zA, lemS.down, lemC.down, Int.reduceBEq, Nat.reduceAdd, Nat.reduceLeDiff, reduceIte, Nat.reduceEqDiff, Int.reduceLT, Int.reduceLE, Int.reduceGT, Int.reduceGE, Int.reduceEq, Int.reduceAdd, Int.reduceSub, Int.reduceMul, reduceCtorEq, t9], by simp only [yq83.down, zA, lemS.down, lemC.down, Int.reduceBEq, Nat.reduceAdd, Nat.reduceLeDiff, reduceIte, Nat.reduceEqDiff, Int.reduceLT, Int.reduceLE, Int.reduceGT, Int.reduceGE, Int.reduceEq, Int.reduceAdd, Int.reduceSub, Int.reduceMul, reduceCtorEq]⟩
    · rw [hc] at lk
      (repeat (first | refine zS ?_ | refine zL ?_ | refine zR ?_ | refine zE ?_ | refine zC ?_ | refine zJ ?_ | refine zK ?_ | refine zP ?_ | refine zF ?_ | refine zH ?_ | refine zG ?_ | refine zI (by decide) ?_ | refine zQ ?_ | ((first | refine zD ?_ | refine zN ?_ | refine zT rfl rfl ?_ | refine zO rfl ?_ | refine zM ?_); simp only [yq83.down, zA, lemS.down, lemC.down, Int.reduceBEq, Nat.reduceAdd, Nat.reduceLeDiff, reduceIte, Nat.reduceEqDiff, Int.reduceLT, Int.reduceLE, Int.reduceGT, Int.reduceGE, Int.reduceEq, Int.reduceAdd, Int.reduceSub, Int.reduceMul, reduceCtorEq, lemH.down, t0, t1, t5, t8, t9, t10, zAJ, ia, ld, r_lookupV, lk, ww, w5])))
      exact hnext (ms.length - (i + 1)) _ g (by omega) ⟨i + 1, rfl, by omega, rfl, by simp only [yq83.down, zA, lemS.down, lemC.down, Int.reduceBEq, Nat.reduceAdd, Nat.reduceLeDiff, reduceIte, Nat.reduceEqDiff, Int.reduceLT, Int.reduceLE, Int.reduceGT, Int.reduceGE, Int.reduceEq, Int.reduceAdd, Int.reduceSub, Int.reduceMul, reduceCtorEq, t0], by simp only [yq83.down, zA, lemS.down, lemC.down, Int.reduceBEq, Nat.reduceAdd, Nat.reduceLeDiff, reduceIte, Nat.reduceEqDiff, Int.reduceLT, Int.reduceLE, Int.reduceGT, Int.reduceGE, Int.reduceEq, Int.reduceAdd, Int.reduceSub, Int.reduceMul, reduceCtorEq, t1], by rw [ht, List.filter_append, List.filter_cons_of_pos (by rw [hc]), List.filter_nil, List.length_append, List.length_singleton]; simp only [yq83.down, zA, lemS.down, lemC.down, Int.reduceBEq, Nat.reduceAdd, Nat.reduceLeDiff, reduceIte, Nat.reduceEqDiff, Int.reduceLT, Int.reduceLE, Int.reduceGT, Int.reduceGE, Int.reduceEq, Int.reduceAdd, Int.reduceSub, Int.reduceMul, reduceCtorEq], by simp only [yq83.down, zA, lemS.down, lemC.down, Int.reduceBEq, Nat.reduceAdd, Nat.reduceLeDiff, reduceIte, Nat.reduceEqDiff, Int.reduceLT, Int.reduceLE, Int.reduceGT, Int.reduceGE, Int.reduceEq, Int.reduceAdd, Int.reduceSub, Int.reduceMul, reduceCtorEq, t8], by simp only [yq83.down, zA, lemS.down, lemC.down, Int.reduceBEq, Nat.reduceAdd, Nat.reduceLeDiff, reduceIte, Nat.reduceEqDiff, Int.reduceLT, Int.reduceLE, Int.reduceGT, Int.reduceGE, Int.reduceEq, Int.reduceAdd, Int.reduceSub, Int.reduceMul, reduceCtorEq, t9], by simp only [yq83.down, zA, lemS.down, lemC.down, Int.reduceBEq, Nat.reduceAdd, Nat.reduceLeDiff, reduceIte, Nat.reduceEqDiff, Int.reduceLT, Int.reduceLE, Int.reduceGT, Int.reduceGE, Int.reduceEq, Int.reduceAdd, Int.reduceSub, Int.reduceMul, reduceCtorEq]⟩
  · obtain rfl : i = ms.length := by omega
    rw [List.take_length] at t5
    have hm1 := zf (h := g) hh (s := mostS) (args := [.int .i64 (ms.length : Int)]) (v := .int .i64 ((ms.length : Int) / 2 + 1)) (by simp only [mostS]; rw [if_pos ⟨by omega, by omega⟩])
    unfold mostP
    by_cases h0 : 0 < ms.length
    · have d1 : decide ((ms.length : Int) > 0) = true := decide_eq_true (by omega)
      have d2 : decide (0 < ms.length) = true := by simpa using h0
      have d3 : decide (((ms.filter (fun m => ks.contains m)).length : Int) ≥ (ms.length : Int) / 2 + 1) = decide (ms.length / 2 + 1 ≤ (ms.filter (fun m => ks.contains m)).length) := by
        generalize (ms.filter (fun m => ks.contains m)).length = c
        rw [Bool.eq_iff_iff]
        simp only [ge_iff_le, decide_eq_true_eq]
        omega
      rw [d2, Bool.true_and]
      (repeat (first | refine zS ?_ | refine zL ?_ | refine zR ?_ | refine zE ?_ | refine zC ?_ | refine zJ ?_ | refine zK ?_ | refine zP ?_ | refine zF ?_ | refine zH ?_ | refine zG ?_ | refine zI (by decide) ?_ | refine zQ ?_ | ((first | refine zD ?_ | refine zN ?_ | refine zT rfl rfl ?_ | refine zO rfl ?_ | refine zM ?_); simp only [yq83.down, zA, lemS.down, lemC.down, Int.reduceBEq, Nat.reduceAdd, Nat.reduceLeDiff, reduceIte, Nat.reduceEqDiff, Int.reduceLT, Int.reduceLE, Int.reduceGT, Int.reduceGE, Int.reduceEq, Int.reduceAdd, Int.reduceSub, Int.reduceMul, reduceCtorEq, lemH.down, t0, t1, t5, t8, t9, t10, d1, hm1, d3])))
      exact ⟨.inr rfl, by simp only [yq83.down, zA, lemS.down, lemC.down, Int.reduceBEq, Nat.reduceAdd, Nat.reduceLeDiff, reduceIte, Nat.reduceEqDiff, Int.reduceLT, Int.reduceLE, Int.reduceGT, Int.reduceGE, Int.reduceEq, Int.reduceAdd, Int.reduceSub, Int.reduceMul, reduceCtorEq], Grows.refl _⟩
    · have d1 : decide ((ms.length : Int) > 0) = false := decide_eq_false (by omega)
      have d2 : decide (0 < ms.length) = false := by simpa using h0
      rw [d2, Bool.false_and]
      (repeat (first | refine zS ?_ | refine zL ?_ | refine zR ?_ | refine zE ?_ | refine zC ?_ | refine zJ ?_ | refine zK ?_ | refine zP ?_ | refine zF ?_ | refine zH ?_ | refine zG ?_ | refine zI (by decide) ?_ | refine zQ ?_ | ((first | refine zD ?_ | refine zN ?_ | refine zT rfl rfl ?_ | refine zO rfl ?_ | refine zM ?_); simp only [yq83.down, zA, lemS.down, lemC.down, Int.reduceBEq, Nat.reduceAdd, Nat.reduceLeDiff, reduceIte, Nat.reduceEqDiff, Int.reduceLT, Int.reduceLE, Int.reduceGT, Int.reduceGE, Int.reduceEq, Int.reduceAdd, Int.reduceSub, Int.reduceMul, reduceCtorEq, lemH.down, t0, t1, t5, t8, t9, t10, d1, zAU])))
      exact ⟨.inr rfl, by simp only [yq83.down, zA, lemS.down, lemC.down, Int.reduceBEq, Nat.reduceAdd, Nat.reduceLeDiff, reduceIte, Nat.reduceEqDiff, Int.reduceLT, Int.reduceLE, Int.reduceGT, Int.reduceGE, Int.reduceEq, Int.reduceAdd, Int.reduceSub, Int.reduceMul, reduceCtorEq], Grows.refl _⟩
end Go.X
end
section
open Go Go.X
namespace Go.X
set_option linter.unusedVariables false
def zAD (keys : List (List UInt8)) (x : Hdr) (l : TagL) (i : Nat) : Bool := !(decide (0 < i) && decide ((l.getD (i - 1) (0, [])).1 ≥ (l.getD i (0, [])).1)) && goodP keys x (l.getD i (0, [])).1 (l.getD i (0, [])).2
def zAl (keys : List (List UInt8)) (x : Hdr) (l : TagL) (ms : List Int) : Nat :=
  if zAX ms = false then 1 else if zAL x ≠ 0 then zAL x else if (List.range l.length).all (zAD keys x l) = false then 170 else if mostP ms (l.map (·.1)) then 0 else 170
theorem okTag_lt {keys : List (List UInt8)} {x : Hdr} {l : TagL} {i : Nat} (h : ∀ j, j ≤ i → zAD keys x l j = true) : ∀ j, j < i → (l.getD j (0, [])).1 < (l.getD i (0, [])).1 := by
  induction i with
  | zero => intro j hj; omega
  | succ i ih =>
    have h1 := h (i + 1) (Nat.le_refl _)
    simp only [zAD, Nat.zero_lt_succ, decide_true, Bool.true_and, Nat.add_sub_cancel, Bool.and_eq_true, Bool.not_eq_true', decide_eq_false_iff_not] at h1
    intro j hj
    rcases Nat.lt_or_ge j i with q | q
    · have := ih (fun k hk => h k (by omega)) j q
      omega
    · obtain rfl : j = i := by omega
      omega
theorem okTag_new {keys : List (List UInt8)} {x : Hdr} {l : TagL} {i : Nat} (hi : i < l.length) (h : ∀ j, j ≤ i → zAD keys x l j = true) : (l.getD i (0, [])).1 ∉ (l.take i).map (·.1) := by
  intro hm
  rw [List.mem_map] at hm
  obtain ⟨q, hq, e⟩ := hm
  obtain ⟨j, hj, rfl⟩ := List.getElem_of_mem hq
  rw [List.length_take] at hj
  have := okTag_lt h j (by omega)
  rw [List.getElem_take] at e
  rw [getD_lt (by omega : j < l.length)] at this
  omega
structure CheckTab (pr : Prog) : Prop where
  mem : pr.prim 82 = some zBx
  chk : pr.prim 75 = some zBj
  good : pr.prim 46 = some goodG
  most : pr.prim 83 = some mostG
set_option maxHeartbeats 2000000 in
theorem ccheck_ok (pr : Prog) (T : CheckTab pr) (h : Heap) (wf : HWF h) (a : Addr) (keys : List (List UInt8)) (hr : zAE h a = some keys) (hk : zAW keys = true) (x : Hdr) (mv : Value) (hx : HdAt h x mv) (tv : Value) (l : TagL) (hs : zAT h tv = some l) (hl : l.length ≤ 1000000) (msv : Value) (ms : List Int) (hms : zAC h msv = some ms) (hml : ms.length ≤ 1000000) :
    Comes pr xq49 [.pointer (some a), .agg (ze x mv).toArray, .agg [tv].toArray, msv] h (.int .i64 (zAl keys x l ms : Int)) := by
  apply Comes.of
  unfold xq49
  dsimp only [zd]
  have hr64 : zU = 140737488355328 := rfl
  obtain ⟨g, hg, gg, gx, lN, _⟩ := hd_box hx wf
  have v5 : Var g h.next (ze x mv) := by rw [← hg]; exact Var.new_self
  have gn : g.next = h.next + 1 := by rw [← hg]; rfl
  obtain ⟨g0, hg0, v6, gg0, gn0⟩ := box1 (h := g) (zCW hs).1
  have e6 : g.next = h.next + 1 := gn
  have gA := gg.trans gg0
  have wf0 : HWF g0 := by rw [← hg0, ← hg]; exact (wf.push (.cells _)).push (.cells _)
  have v50 := v5.grow gg0
  have l5 : ∀ sp, g0.loadN ⟨h.next, 0, sp⟩ 5 = some (ze x mv) := fun sp => v50.loadAll rfl
  have cm := zu T.mem (membersG_at (zCe wf gA hms) (by omega))
  have cc := zu T.chk (zCu (hx.grow wf gA))
  obtain ⟨hb, b, cap, rfl, _⟩ := zBH hs
  unfold zAl
  cases hmp : zAX ms
  · rw [if_pos rfl]
    rw [hmp] at cm
    (repeat (first | refine zS ?_ | refine zL ?_ | refine zR ?_ | refine zE ?_ | refine zC ?_ | refine zJ ?_ | refine zK ?_ | refine zP ?_ | refine zF ?_ | refine zH ?_ | refine zG ?_ | refine zI (by decide) ?_ | refine zQ ?_ | ((first | refine zD ?_ | refine zN ?_ | refine zT rfl rfl ?_ | refine zO rfl ?_ | refine zM ?_); simp only [yq49.down, zA, lemS.down, lemC.down, Int.reduceBEq, Nat.reduceAdd, Nat.reduceLeDiff, reduceIte, Nat.reduceEqDiff, Int.reduceLT, Int.reduceLE, Int.reduceGT, Int.reduceGE, Int.reduceEq, Int.reduceAdd, Int.reduceSub, Int.reduceMul, reduceCtorEq, lemH.down, zAZ, zBq, hg, hg0, cm])))
    exact ⟨.inr rfl, by (simp only [yq49.down, zA, lemS.down, lemC.down, Int.reduceBEq, Nat.reduceAdd, Nat.reduceLeDiff, reduceIte, Nat.reduceEqDiff, Int.reduceLT, Int.reduceLE, Int.reduceGT, Int.reduceGE, Int.reduceEq, Int.reduceAdd, Int.reduceSub, Int.reduceMul, reduceCtorEq]) <;> rfl, gA⟩
  rw [if_neg (by decide)]
  rw [hmp] at cm
  by_cases h0 : zAL x = 0
  rotate_left
  · have b0 : ((zAL x : Int) == 0) = false := by rw [beq_eq_false_iff_ne]; omega
    rw [if_pos h0]
    (repeat (first | refine zS ?_ | refine zL ?_ | refine zR ?_ | refine zE ?_ | refine zC ?_ | refine zJ ?_ | refine zK ?_ | refine zP ?_ | refine zF ?_ | refine zH ?_ | refine zG ?_ | refine zI (by decide) ?_ | refine zQ ?_ | ((first | refine zD ?_ | refine zN ?_ | refine zT rfl rfl ?_ | refine zO rfl ?_ | refine zM ?_); simp only [yq49.down, zA, lemS.down, lemC.down, Int.reduceBEq, Nat.reduceAdd, Nat.reduceLeDiff, reduceIte, Nat.reduceEqDiff, Int.reduceLT, Int.reduceLE, Int.reduceGT, Int.reduceGE, Int.reduceEq, Int.reduceAdd, Int.reduceSub, Int.reduceMul, reduceCtorEq, lemH.down, zAZ, zBq, hg, hg0, cm, l5, cc, b0])))
    exact ⟨.inr rfl, by simp only [yq49.down, zA, lemS.down, lemC.down, Int.reduceBEq, Nat.reduceAdd, Nat.reduceLeDiff, reduceIte, Nat.reduceEqDiff, Int.reduceLT, Int.reduceLE, Int.reduceGT, Int.reduceGE, Int.reduceEq, Int.reduceAdd, Int.reduceSub, Int.reduceMul, reduceCtorEq], gA⟩
  have b0 : ((zAL x : Int) == 0) = true := by rw [h0]; rfl
  rw [if_neg (by omega)]
  obtain ⟨g1, hg1, gg1, gn1, m1⟩ : ∃ g1, g0.newMap = g1 ∧ Grows g0 g1 ∧ g1.next = g0.next + 1 ∧ MapAt g1 g0.next (setOf []) := ⟨_, rfl, Grows.newMap, rfl, PT.get_set_eq _ _ _⟩
  have gB := gA.trans gg1
  have v51 := v50.grow gg1
  have v61 := v6.grow gg1
  have l6 : ∀ sp, g1.load ⟨g.next, 0, sp⟩ = some (.slice b l.length cap) := fun sp => v61.load
  (repeat (first | refine zS ?_ | refine zL ?_ | refine zR ?_ | refine zE ?_ | refine zC ?_ | refine zJ ?_ | refine zK ?_ | refine zP ?_ | refine zF ?_ | refine zH ?_ | refine zG ?_ | refine zI (by decide) ?_ | refine zQ ?_ | ((first | refine zD ?_ | refine zN ?_ | refine zT rfl rfl ?_ | refine zO rfl ?_ | refine zM ?_); simp only [yq49.down, zA, lemS.down, lemC.down, Int.reduceBEq, Nat.reduceAdd, Nat.reduceLeDiff, reduceIte, Nat.reduceEqDiff, Int.reduceLT, Int.reduceLE, Int.reduceGT, Int.reduceGE, Int.reduceEq, Int.reduceAdd, Int.reduceSub, Int.reduceMul, reduceCtorEq, lemH.down, zAZ, zBq, hg, hg0, cm, l5, cc, b0, mkH_map, val_map, al_mkmap, newMap_next, hg1, l6])))
  have hbad : ∀ i, i < l.length → zAD keys x l i = false → (if (List.range l.length).all (zAD keys x l) = false then 170 else if mostP ms (l.map (·.1)) = true then 0 else 170) = 170 := fun i hi hf => by
    rw [if_pos]
    rw [List.all_eq_false]
    exact ⟨i, by simpa using hi, by simp [hf]⟩
  have hgood : (∀ j, j < l.length → zAD keys x l j = true) → (if (List.range l.length).all (zAD keys x l) = false then 170 else if mostP ms (l.map (·.1)) = true then 0 else 170) = if mostP ms (l.map (·.1)) = true then 0 else 170 := fun hf => by
    rw [if_neg]
    have : (List.range l.length).all (zAD keys x l) = true := by
      rw [List.all_eq_true]
      intro j hj
      exact hf j (by simpa using hj)
    rw [this]
    decide
  generalize hX : (if (List.range l.length).all (zAD keys x l) = false then 170 else if mostP ms (l.map (·.1)) = true then 0 else 170) = X at *
  refine zAA (fun m t g' => ∃ i, m = l.length - i ∧ i ≤ l.length ∧ (∀ j, j < i → zAD keys x l j = true) ∧ Keeps (fun A => A = g0.next) g1 g' ∧ MapAt g' g0.next (setOf ((l.take i).map (·.1))) ∧ t.get 0 = .pointer (some a) ∧ t.get 3 = msv ∧ t.get 5 = .pointer (some ⟨h.next, 0, none⟩) ∧ t.get 6 = .pointer (some ⟨g.next, 0, none⟩) ∧ t.get 10 = .map (some g0.next) ∧ t.get 23 = .slice b l.length cap ∧ t.get 24 = .int .i64 (l.length : Int) ∧ t.get 25 = .int .i64 (i : Int)) ?_ l.length _ _ ⟨0, rfl, by omega, by simp, Keeps.refl, m1, by simp only [yq49.down, zA, lemS.down, lemC.down, Int.reduceBEq, Nat.reduceAdd, Nat.reduceLeDiff, reduceIte, Nat.reduceEqDiff, Int.reduceLT, Int.reduceLE, Int.reduceGT, Int.reduceGE, Int.reduceEq, Int.reduceAdd, Int.reduceSub, Int.reduceMul, reduceCtorEq], by simp only [yq49.down, zA, lemS.down, lemC.down, Int.reduceBEq, Nat.reduceAdd, Nat.reduceLeDiff, reduceIte, Nat.reduceEqDiff, Int.reduceLT, Int.reduceLE, Int.reduceGT, Int.reduceGE, Int.reduceEq, Int.reduceAdd, Int.reduceSub, Int.reduceMul, reduceCtorEq], by simp only [yq49.down, zA, lemS.down, lemC.down, Int.reduceBEq, Nat.reduceAdd, Nat.reduceLeDiff, reduceIte, Nat.reduceEqDiff, Int.reduceLT, Int.reduceLE, Int.reduceGT, Int.reduceGE, Int.reduceEq, Int.reduceAdd, Int.reduceSub, Int.reduceMul, reduceCtorEq], by simp only [yq49.down, zA, lemS.down, lemC.down, Int.reduceBEq, Nat.reduceAdd, Nat.reduceLeDiff, reduceIte, Nat.reduceEqDiff, Int.reduceLT, Int.reduceLE, Int.reduceGT, Int.reduceGE, Int.reduceEq, Int.reduceAdd, Int.reduceSub, Int.reduceMul, reduceCtorEq], by simp only [yq49.down, zA, lemS.down, lemC.down, Int.reduceBEq, Nat.reduceAdd, Nat.reduceLeDiff, reduceIte, Nat.reduceEqDiff, Int.reduceLT, Int.reduceLE, Int.reduceGT, Int.reduceGE, Int.reduceEq, Int.reduceAdd, Int.reduceSub, Int.reduceMul, reduceCtorEq], by simp only [yq49.down, zA, lemS.down, lemC.down, Int.reduceBEq, Nat.reduceAdd, Nat.reduceLeDiff, reduceIte, Nat.reduceEqDiff, Int.reduceLT, Int.reduceLE, Int.reduceGT, Int.reduceGE, Int.reduceEq, Int.reduceAdd, Int.reduceSub, Int.reduceMul, reduceCtorEq], by simp only [yq49.down, zA, lemS.down, lemC.down, Int.reduceBEq, Nat.reduceAdd, Nat.reduceLeDiff, reduceIte, Nat.reduceEqDiff, Int.reduceLT, Int.reduceLE, Int.reduceGT, Int.reduceGE, Int.reduceEq, Int.reduceAdd, Int.reduceSub, Int.reduceMul, reduceCtorEq], by (simp only [yq49.down, zA, lemS.down, lemC.down, Int.reduceBEq, Nat.reduceAdd, Nat.reduceLeDiff, reduceIte, Nat.reduceEqDiff, Int.reduceLT, Int.reduceLE, Int.reduceGT, Int.reduceGE, Int.reduceEq, Int.reduceAdd, Int.reduceSub, Int.reduceMul, reduceCtorEq]) <;> rfl⟩
  rintro m t q ⟨i, rfl, hi, hall, qk, qm, t0, t3, t5, t6, t10, t23, t24, t25⟩ hnext
  refine xq49_14k ?_
  dsimp only [xq49_14b]
  (repeat (first | refine zS ?_ | refine zL ?_ | refine zR ?_ | refine zE ?_ | refine zC ?_ | refine zJ ?_ | refine zK ?_ | refine zP ?_ | refine zF ?_ | refine zH ?_ | refine zG ?_ | refine zI (by decide) ?_ | refine zQ ?_ | ((first | refine zD ?_ | refine zN ?_ | refine zT rfl rfl ?_ | refine zO rfl ?_ | refine zM ?_); simp only [yq49.down, zA, lemS.down, lemC.down, Int.reduceBEq, Nat.reduceAdd, Nat.reduceLeDiff, reduceIte, Nat.reduceEqDiff, Int.reduceLT, Int.reduceLE, Int.reduceGT, Int.reduceGE, Int.reduceEq, Int.reduceAdd, Int.reduceSub, Int.reduceMul, reduceCtorEq, lemH.down, t0, t3, t5, t6, t10, t23, t24, t25])))
  have gQ : Grows h q := gB.then qk (fun A hA e => by omega)
  have qn := qk.next
  refine ⟨fun hlt => ?_, fun hge => ?_⟩
  · have hi' : i < l.length := by omega
    obtain ⟨_, _, _, _, hel⟩ := zBH (zCo wf gQ hs)
    obtain ⟨B, o, ia, ld, _⟩ := hel i hi'
    obtain ⟨q1, hq1, w1, gq1, qn1⟩ : ∃ q1, q.new [.int .i64 0, .string (zB [])] = q1 ∧ Var q1 q.next [.int .i64 0, .string (zB [])] ∧ Grows q q1 ∧ q1.next = q.next + 1 := ⟨_, rfl, Var.new_self, Grows.new, rfl⟩
    have st : zAG q1 2 (.pointer (some ⟨q.next, 0, none⟩)) (.agg [.int .i64 (l.getD i (0, [])).1, .string (zB (l.getD i (0, [])).2)].toArray) = some (.tuple #[], q1.wr q.next [.int .i64 (l.getD i (0, [])).1, .string (zB (l.getD i (0, [])).2)]) := w1.storeAll rfl rfl (by decide) rfl
    obtain ⟨q2, hq2, w2, gq2⟩ : ∃ q2, q1.wr q.next [.int .i64 (l.getD i (0, [])).1, .string (zB (l.getD i (0, [])).2)] = q2 ∧ Var q2 q.next [.int .i64 (l.getD i (0, [])).1, .string (zB (l.getD i (0, [])).2)] ∧ Grows q q2 := ⟨_, rfl, w1.wr, gq1.wr (Nat.le_refl _)⟩
    rw [hq2] at st
    have gQ2 := gQ.trans gq2
    have k2 : Keeps (fun A => A = g0.next) g1 q2 := qk.trans (gq2.keeps (W := none1)) (fun A hA (e : none1 A) => False.elim e)
    have u5 : ∀ sp, q2.loadN ⟨h.next, 0, sp⟩ 5 = some (ze x mv) := fun sp => (v51.keep k2 (by omega)).loadAll rfl
    have u6 : ∀ sp, q2.load ⟨g.next, 0, sp⟩ = some (.slice b l.length cap) := fun sp => (v61.keep k2 (by omega)).load
    have u0 : ∀ sp, q2.load ⟨q.next, 0, sp⟩ = some (.int .i64 (l.getD i (0, [])).1) := fun sp => w2.load
    have uN : ∀ sp, q2.loadN ⟨q.next, 0, sp⟩ 2 = some [.int .i64 (l.getD i (0, [])).1, .string (zB (l.getD i (0, [])).2)] := fun sp => w2.loadAll rfl
    have gd := zu T.good (goodG_at (r := (l.getD i (0, [])).1) (t := (l.getD i (0, [])).2) (ringAt_grow wf gQ2 hr) hk (hx.grow wf gQ2))
    have gd : cfi pr 46 [.pointer (some a), .agg (ze x mv).toArray, .agg [.int .i64 (l.getD i (0, [])).1, .string (zB (l.getD i (0, [])).2)].toArray] q2 = _ := gd
    have ww : IntKind.i64.wrap ((i : Int) + 1) = ((i + 1 : Nat) : Int) := by rw [wrap_i64 (by omega) (by omega)]; omega
    have wm : IntKind.i64.wrap ((i : Int) - 1) = (i : Int) - 1 := wrap_i64 (by omega) (by omega)
    have qm2 := qm.keep (by have := qk.next; omega) (gq2.keeps (W := none1)) id
    have htk : l.take (i + 1) = l.take i ++ [l.getD i (0, [])] := by
      rw [List.take_succ_eq_append_getElem hi', getD_lt hi']
    have fin := fun (hm : zAD keys x l i = true) (t' : Fr) (s0 : t'.get 0 = .pointer (some a)) (s3 : t'.get 3 = msv) (s5 : t'.get 5 = .pointer (some ⟨h.next, 0, none⟩)) (s6 : t'.get 6 = .pointer (some ⟨g.next, 0, none⟩)) (s10 : t'.get 10 = .map (some g0.next)) (s23 : t'.get 23 = .slice b l.length cap) (s24 : t'.get 24 = .int .i64 (l.length : Int)) (s25 : t'.get 25 = .int .i64 ((i + 1 : Nat) : Int)) => hnext (l.length - (i + 1)) t' (q2.setBlk g0.next (.map (setOf ((l.take i).map (·.1) ++ [(l.getD i (0, [])).1])))) (by omega) ⟨i + 1, rfl, by omega, fun j hj => by
      rcases Nat.lt_or_ge j i with h | h
      · exact hall j h
      · obtain rfl : j = i := by omega
        exact hm, k2.trans Keeps.setMap (fun A _ e => e), by rw [htk, List.map_append]; exact MapAt.set, s0, s3, s5, s6, s10, s23, s24, s25⟩
    have mu := fun (hm : zAD keys x l i = true) => mupdV_set qm2 (okTag_new (keys := keys) (x := x) hi' (fun j hj => by
      rcases Nat.lt_or_ge j i with h | h
      · exact hall j h
      · obtain rfl : j = i := by omega
        exact hm))
    cases hgd : goodP keys x (l.getD i (0, [])).1 (l.getD i (0, [])).2
    · rw [hgd] at gd
      have hb1 := hbad i hi' (by simp only [zAD, hgd, Bool.and_false])
      by_cases c3 : 0 < i
      · have d3 : decide ((i : Int) > 0) = true := decide_eq_true (by omega)
        obtain ⟨_, _, _, _, hel2⟩ := zBH (zCo wf gQ2 hs)
        obtain ⟨B2, o2, ia2, _, ld2, _⟩ := hel2 (i - 1) (by omega)
        rw [show ((i - 1 : Nat) : Int) = (i : Int) - 1 by omega] at ia2
        cases d4 : decide ((l.getD (i - 1) (0, [])).1 ≥ (l.getD i (0, [])).1)
        · (repeat (first | refine zS ?_ | refine zL ?_ | refine zR ?_ | refine zE ?_ | refine zC ?_ | refine zJ ?_ | refine zK ?_ | refine zP ?_ | refine zF ?_ | refine zH ?_ | refine zG ?_ | refine zI (by decide) ?_ | refine zQ ?_ | ((first | refine zD ?_ | refine zN ?_ | refine zT rfl rfl ?_ | refine zO rfl ?_ | refine zM ?_); simp only [yq49.down, zA, lemS.down, lemC.down, Int.reduceBEq, Nat.reduceAdd, Nat.reduceLeDiff, reduceIte, Nat.reduceEqDiff, Int.reduceLT, Int.reduceLE, Int.reduceGT, Int.reduceGE, Int.reduceEq, Int.reduceAdd, Int.reduceSub, Int.reduceMul, reduceCtorEq, lemH.down, t0, t3, t5, t6, t10, t23, t24, t25, zAJ, ia, ld, hq1, st, d3, u6, wm, ia2, ld2, u0, d4, u5, uN, gd, Nat.add_zero])))
          exact ⟨.inr rfl, by (simp only [yq49.down, zA, lemS.down, lemC.down, Int.reduceBEq, Nat.reduceAdd, Nat.reduceLeDiff, reduceIte, Nat.reduceEqDiff, Int.reduceLT, Int.reduceLE, Int.reduceGT, Int.reduceGE, Int.reduceEq, Int.reduceAdd, Int.reduceSub, Int.reduceMul, reduceCtorEq]) <;> (rw [hb1]; rfl), gQ2⟩
        · (repeat (first | refine zS ?_ | refine zL ?_ | refine zR ?_ | refine zE ?_ | refine zC ?_ | refine zJ ?_ | refine zK ?_ | refine zP ?_ | refine zF ?_ | refine zH ?_ | refine zG ?_ | refine zI (by decide) ?_ | refine zQ ?_ | ((first | refine zD ?_ | refine zN ?_ | refine zT rfl rfl ?_ | refine zO rfl ?_ | refine zM ?_); simp only [yq49.down, zA, lemS.down, lemC.down, Int.reduceBEq, Nat.reduceAdd, Nat.reduceLeDiff, reduceIte, Nat.reduceEqDiff, Int.reduceLT, Int.reduceLE, Int.reduceGT, Int.reduceGE, Int.reduceEq, Int.reduceAdd, Int.reduceSub, Int.reduceMul, reduceCtorEq, lemH.down, t0, t3, t5, t6, t10, t23, t24, t25, zAJ, ia, ld, hq1, st, d3, u6, wm, ia2, ld2, u0, d4, zAU, Nat.add_zero])))
          exact ⟨.inr rfl, by (simp only [yq49.down, zA, lemS.down, lemC.down, Int.reduceBEq, Nat.reduceAdd, Nat.reduceLeDiff, reduceIte, Nat.reduceEqDiff, Int.reduceLT, Int.reduceLE, Int.reduceGT, Int.reduceGE, Int.reduceEq, Int.reduceAdd, Int.reduceSub, Int.reduceMul, reduceCtorEq]) <;> (rw [hb1]; rfl), gQ2⟩
      · have d3 : decide ((i : Int) > 0) = false := decide_eq_false (by omega)
        (repeat (first | refine zS ?_ | refine zL ?_ | refine zR ?_ | refine zE ?_ | refine zC ?_ | refine zJ ?_ | refine zK ?_ | refine zP ?_ | refine zF ?_ | refine zH ?_ | refine zG ?_ | refine zI (by decide) ?_ | refine zQ ?_ | ((first | refine zD ?_ | refine zN ?_ | refine zT rfl rfl ?_ | refine zO rfl ?_ | refine zM ?_); simp only [yq49.down, zA, lemS.down, lemC.down, Int.reduceBEq, Nat.reduceAdd, Nat.reduceLeDiff, reduceIte, Nat.reduceEqDiff, Int.reduceLT, Int.reduceLE, Int.reduceGT, Int.reduceGE, Int.reduceEq, Int.reduceAdd, Int.reduceSub, Int.reduceMul, reduceCtorEq, lemH.down, t0, t3, t5, t6, t10, t23, t24, t25, zAJ, ia, ld, hq1, st, d3, u5, uN, gd, zAU, Nat.add_zero])))
        exact ⟨.inr rfl, by (simp only [yq49.down, zA, lemS.down, lemC.down, Int.reduceBEq, Nat.reduceAdd, Nat.reduceLeDiff, reduceIte, Nat.reduceEqDiff, Int.reduceLT, Int.reduceLE, Int.reduceGT, Int.reduceGE, Int.reduceEq, Int.reduceAdd, Int.reduceSub, Int.reduceMul, reduceCtorEq]) <;> (rw [hb1]; rfl), gQ2⟩
    · rw [hgd] at gd
      by_cases c3 : 0 < i
      · have d3 : decide ((i : Int) > 0) = true := decide_eq_true (by omega)
        obtain ⟨_, _, _, _, hel2⟩ := zBH (zCo wf gQ2 hs)
        obtain ⟨B2, o2, ia2, _, ld2, _⟩ := hel2 (i - 1) (by omega)
        rw [show ((i - 1 : Nat) : Int) = (i : Int) - 1 by omega] at ia2
        cases d4 : decide ((l.getD (i - 1) (0, [])).1 ≥ (l.getD i (0, [])).1)
        · have hok : zAD keys x l i = true := by simp only [zAD, hgd, d4, Bool.and_false]; rfl
          have mu := mu hok
          (repeat (first | refine zS ?_ | refine zL ?_ | refine zR ?_ | refine zE ?_ | refine zC ?_ | refine zJ ?_ | refine zK ?_ | refine zP ?_ | refine zF ?_ | refine zH ?_ | refine zG ?_ | refine zI (by decide) ?_ | refine zQ ?_ | ((first | refine zD ?_ | refine zN ?_ | refine zT rfl rfl ?_ | refine zO rfl ?_ | refine zM ?_); simp only [yq49.down, zA, lemS.down, lemC.down, Int.reduceBEq, Nat.reduceAdd, Nat.reduceLeDiff, reduceIte, Nat.reduceEqDiff, Int.reduceLT, Int.reduceLE, Int.reduceGT, Int.reduceGE, Int.reduceEq, Int.reduceAdd, Int.reduceSub, Int.reduceMul, reduceCtorEq, lemH.down, t0, t3, t5, t6, t10, t23, t24, t25, zAJ, ia, ld, hq1, st, d3, u6, wm, ia2, ld2, u0, d4, u5, uN, gd, Nat.add_zero, eff_mupdV, mu, ww])))
          exact fin hok _ (by simp only [yq49.down, zA, lemS.down, lemC.down, Int.reduceBEq, Nat.reduceAdd, Nat.reduceLeDiff, reduceIte, Nat.reduceEqDiff, Int.reduceLT, Int.reduceLE, Int.reduceGT, Int.reduceGE, Int.reduceEq, Int.reduceAdd, Int.reduceSub, Int.reduceMul, reduceCtorEq, t0]) (by simp only [yq49.down, zA, lemS.down, lemC.down, Int.reduceBEq, Nat.reduceAdd, Nat.reduceLeDiff, reduceIte, Nat.reduceEqDiff, Int.reduceLT, Int.reduceLE, Int.reduceGT, Int.reduceGE, Int.reduceEq, Int.reduceAdd, Int.reduceSub, Int.reduceMul, reduceCtorEq, t3]) (by simp only [yq49.down, zA, lemS.down, lemC.down, Int.reduceBEq, Nat.reduceAdd, Nat.reduceLeDiff, reduceIte, Nat.reduceEqDiff, Int.reduceLT, Int.reduceLE, Int.reduceGT, Int.reduceGE, Int.reduceEq, Int.reduceAdd, Int.reduceSub, Int.reduceMul, reduceCtorEq, t5]) (by simp only [yq49.down, zA, lemS.down, lemC.down, Int.reduceBEq, Nat.reduceAdd, Nat.reduceLeDiff, reduceIte, Nat.reduceEqDiff, Int.reduceLT, Int.reduceLE, Int.reduceGT, Int.reduceGE, Int.reduceEq, Int.reduceAdd, Int.reduceSub, Int.reduceMul, reduceCtorEq, t6]) (by simp only [yq49.down, zA, lemS.down, lemC.down, Int.reduceBEq, Nat.reduceAdd, Nat.reduceLeDiff, reduceIte, Nat.reduceEqDiff, Int.reduceLT, Int.reduceLE, Int.reduceGT, Int.reduceGE, Int.reduceEq, Int.reduceAdd, Int.reduceSub, Int.reduceMul, reduceCtorEq, t10]) (by simp only [yq49.down, zA, lemS.down, lemC.down, Int.reduceBEq, Nat.reduceAdd, Nat.reduceLeDiff, reduceIte, Nat.reduceEqDiff, Int.reduceLT, Int.reduceLE, Int.reduceGT, Int.reduceGE, Int.reduceEq, Int.reduceAdd, Int.reduceSub, Int.reduceMul, reduceCtorEq, t23]) (by simp only [yq49.down, zA, lemS.down, lemC.down, Int.reduceBEq, Nat.reduceAdd, Nat.reduceLeDiff, reduceIte, Nat.reduceEqDiff, Int.reduceLT, Int.reduceLE, Int.reduceGT, Int.reduceGE, Int.reduceEq, Int.reduceAdd, Int.reduceSub, Int.reduceMul, reduceCtorEq, t24]) (by simp only [yq49.down, zA, lemS.down, lemC.down, Int.reduceBEq, Nat.reduceAdd, Nat.reduceLeDiff, reduceIte, Nat.reduceEqDiff, Int.reduceLT, Int.reduceLE, Int.reduceGT, Int.reduceGE, Int.reduceEq, Int.reduceAdd, Int.reduceSub, Int.reduceMul, reduceCtorEq])
        · have hb1 := hbad i hi' (by simp only [zAD, d4, decide_eq_true c3, Bool.and_self, Bool.not_true, Bool.false_and])
          (repeat (first | refine zS ?_ | refine zL ?_ | refine zR ?_ | refine zE ?_ | refine zC ?_ | refine zJ ?_ | refine zK ?_ | refine zP ?_ | refine zF ?_ | refine zH ?_ | refine zG ?_ | refine zI (by decide) ?_ | refine zQ ?_ | ((first | refine zD ?_ | refine zN ?_ | refine zT rfl rfl ?_ | refine zO rfl ?_ | refine zM ?_); simp only [yq49.down, zA, lemS.down, lemC.down, Int.reduceBEq, Nat.reduceAdd, Nat.reduceLeDiff, reduceIte, Nat.reduceEqDiff, Int.reduceLT, Int.reduceLE, Int.reduceGT, Int.reduceGE, Int.reduceEq, Int.reduceAdd, Int.reduceSub, Int.reduceMul, reduceCtorEq, lemH.down, t0, t3, t5, t6, t10, t23, t24, t25, zAJ, ia, ld, hq1, st, d3, u6, wm, ia2, ld2, u0, d4, zAU, Nat.add_zero])))
          exact ⟨.inr rfl, by (simp only [yq49.down, zA, lemS.down, lemC.down, Int.reduceBEq, Nat.reduceAdd, Nat.reduceLeDiff, reduceIte, Nat.reduceEqDiff, Int.reduceLT, Int.reduceLE, Int.reduceGT, Int.reduceGE, Int.reduceEq, Int.reduceAdd, Int.reduceSub, Int.reduceMul, reduceCtorEq]) <;> (rw [hb1]; rfl), gQ2⟩
      · have d3 : decide ((i : Int) > 0) = false := decide_eq_false (by omega)
        have hok : zAD keys x l i = true := by simp only [zAD, hgd, decide_eq_false c3, Bool.false_and, Bool.not_false, Bool.and_self]
        have mu := mu hok
        (repeat (first | refine zS ?_ | refine zL ?_ | refine zR ?_ | refine zE ?_ | refine zC ?_ | refine zJ ?_ | refine zK ?_ | refine zP ?_ | refine zF ?_ | refine zH ?_ | refine zG ?_ | refine zI (by decide) ?_ | refine zQ ?_ | ((first | refine zD ?_ | refine zN ?_ | refine zT rfl rfl ?_ | refine zO rfl ?_ | refine zM ?_); simp only [yq49.down, zA, lemS.down, lemC.down, Int.reduceBEq, Nat.reduceAdd, Nat.reduceLeDiff, reduceIte, Nat.reduceEqDiff, Int.reduceLT, Int.reduceLE, Int.reduceGT, Int.reduceGE, Int.reduceEq, Int.reduceAdd, Int.reduceSub, Int.reduceMul, reduceCtorEq, lemH.down, t0, t3, t5, t6, t10, t23, t24, t25, zAJ, ia, ld, hq1, st, d3, u0, u5, uN, gd, zAU, Nat.add_zero, eff_mupdV, mu, ww])))
        exact fin hok _ (by simp only [yq49.down, zA, lemS.down, lemC.down, Int.reduceBEq, Nat.reduceAdd, Nat.reduceLeDiff, reduceIte, Nat.reduceEqDiff, Int.reduceLT, Int.reduceLE, Int.reduceGT, Int.reduceGE, Int.reduceEq, Int.reduceAdd, Int.reduceSub, Int.reduceMul, reduceCtorEq, t0]) (by simp only [yq49.down, zA, lemS.down, lemC.down, Int.reduceBEq, Nat.reduceAdd, Nat.reduceLeDiff, reduceIte, Nat.reduceEqDiff, Int.reduceLT, Int.reduceLE, Int.reduceGT, Int.reduceGE, Int.reduceEq, Int.reduceAdd, Int.reduceSub, Int.reduceMul, reduceCtorEq, t3]) (by simp only [yq49.down, zA, lemS.down, lemC.down, Int.reduceBEq, Nat.reduceAdd, Nat.reduceLeDiff, reduceIte, Nat.reduceEqDiff, Int.reduceLT, Int.reduceLE, Int.reduceGT, Int.reduceGE, Int.reduceEq, Int.reduceAdd, Int.reduceSub, Int.reduceMul, reduceCtorEq, t5]) (by simp only [yq49.down, zA, lemS.down, lemC.down, Int.reduceBEq, Nat.reduceAdd, Nat.reduceLeDiff, reduceIte, Nat.reduceEqDiff, Int.reduceLT, Int.reduceLE, Int.reduceGT, Int.reduceGE, Int.reduceEq, Int.reduceAdd, Int.reduceSub, Int.reduceMul, reduceCtorEq, t6]) (by simp only [yq49.down, zA, lemS.down, lemC.down, Int.reduceBEq, Nat.reduceAdd, Nat.reduceLeDiff, reduceIte, Nat.reduceEqDiff, Int.reduceLT, Int.reduceLE, Int.reduceGT, Int.reduceGE, Int.reduceEq, Int.reduceAdd, Int.reduceSub, Int.reduceMul, reduceCtorEq, t10]) (by simp only [yq49.down, zA, lemS.down, lemC.down, Int.reduceBEq, Nat.reduceAdd, Nat.reduceLeDiff, reduceIte, Nat.reduceEqDiff, Int.reduceLT, Int.reduceLE, Int.reduceGT, Int.reduceGE, Int.reduceEq, Int.reduceAdd, Int.reduceSub, Int.reduceMul, reduceCtorEq, t23]) (by simp only [yq49.down, zA, lemS.down, lemC.down, Int.reduceBEq, Nat.reduceAdd, Nat.reduceLeDiff, reduceIte, Nat.reduceEqDiff, Int.reduceLT, Int.reduceLE, Int.reduceGT, Int.reduceGE, Int.reduceEq, Int.reduceAdd, Int.reduceSub, Int.reduceMul, reduceCtorEq, t24]) (by simp only [yq49.down, zA, lemS.down, lemC.down, Int.reduceBEq, Nat.reduceAdd, Nat.reduceLeDiff, reduceIte, Nat.reduceEqDiff, Int.reduceLT, Int.reduceLE, Int.reduceGT, Int.reduceGE, Int.reduceEq, Int.reduceAdd, Int.reduceSub, Int.reduceMul, reduceCtorEq])
  · obtain rfl : i = l.length := by omega
    rw [List.take_length] at qm
    have mo := zu T.most (mostG_at (zCe wf gQ hms) qm hml)
    have hX2 := hgood hall
    cases hmo : mostP ms (l.map (·.1))
    · rw [hmo] at mo hX2
      rw [if_neg (by decide)] at hX2
      (repeat (first | refine zS ?_ | refine zL ?_ | refine zR ?_ | refine zE ?_ | refine zC ?_ | refine zJ ?_ | refine zK ?_ | refine zP ?_ | refine zF ?_ | refine zH ?_ | refine zG ?_ | refine zI (by decide) ?_ | refine zQ ?_ | ((first | refine zD ?_ | refine zN ?_ | refine zT rfl rfl ?_ | refine zO rfl ?_ | refine zM ?_); simp only [yq49.down, zA, lemS.down, lemC.down, Int.reduceBEq, Nat.reduceAdd, Nat.reduceLeDiff, reduceIte, Nat.reduceEqDiff, Int.reduceLT, Int.reduceLE, Int.reduceGT, Int.reduceGE, Int.reduceEq, Int.reduceAdd, Int.reduceSub, Int.reduceMul, reduceCtorEq, lemH.down, t0, t3, t5, t6, t10, t23, t24, t25, mo])))
      exact ⟨.inr rfl, by (simp only [yq49.down, zA, lemS.down, lemC.down, Int.reduceBEq, Nat.reduceAdd, Nat.reduceLeDiff, reduceIte, Nat.reduceEqDiff, Int.reduceLT, Int.reduceLE, Int.reduceGT, Int.reduceGE, Int.reduceEq, Int.reduceAdd, Int.reduceSub, Int.reduceMul, reduceCtorEq]) <;> (rw [hX2]; rfl), gQ⟩
    · rw [hmo] at mo hX2
      rw [if_pos rfl] at hX2
      (repeat (first | refine zS ?_ | refine zL ?_ | refine zR ?_ | refine zE ?_ | refine zC ?_ | refine zJ ?_ | refine zK ?_ | refine zP ?_ | refine zF ?_ | refine zH ?_ | refine zG ?_ | refine zI (by decide) ?_ | refine zQ ?_ | ((first | refine zD ?_ | refine zN ?_ | refine zT rfl rfl ?_ | refine zO rfl ?_ | refine zM ?_); simp only [yq49.down, zA, lemS.down, lemC.down, Int.reduceBEq, Nat.reduceAdd, Nat.reduceLeDiff, reduceIte, Nat.reduceEqDiff, Int.reduceLT, Int.reduceLE, Int.reduceGT, Int.reduceGE, Int.reduceEq, Int.reduceAdd, Int.reduceSub, Int.reduceMul, reduceCtorEq, lemH.down, t0, t3, t5, t6, t10, t23, t24, t25, mo])))
      exact ⟨.inr rfl, by (simp only [yq49.down, zA, lemS.down, lemC.down, Int.reduceBEq, Nat.reduceAdd, Nat.reduceLeDiff, reduceIte, Nat.reduceEqDiff, Int.reduceLT, Int.reduceLE, Int.reduceGT, Int.reduceGE, Int.reduceEq, Int.reduceAdd, Int.reduceSub, Int.reduceMul, reduceCtorEq]) <;> (rw [hX2]; rfl), gQ⟩
end Go.X
end
section
open Go Go.Proofs Go.RowKit Go.Lib
namespace Go.X
set_option linter.unusedVariables false
theorem zCm {P : Program} (w : World) (dT sT ty elem : TypeId) (e b o dLen dCap : Nat) (a : Addr) (sLen sCap : Nat) (cs : List Value)
    (hu : P.underlying dT = some (.slice elem)) (hs : (P.info? elem).map (·.size) = some e) (hn : cs.length = Nat.min sLen dLen * e)
    (hsrc : ∀ j v, cs[j]? = some v → w.cell? (a.add j) = some v) (hc : ∀ j, j < cs.length → (w.cell? ⟨b, o + j, none⟩).isSome = true) (hf : ∀ j, j < cs.length → w.frozen? ⟨b, o + j, none⟩ = false) (h1 : ∀ v ∈ cs, v.oneCell' = true) :
    (Builtin.copy_ #[dT, sT] ty #[.slice (some ⟨b, o, none⟩) dLen dCap, .slice (some a) sLen sCap]).run P w = .ok (goInt (Nat.min sLen dLen)) (w.setCells b o cs) := by
  have hl := run_loadCells_list (P := P) w a cs hsrc
  have hst := run_storeCells_cells (P := P) b o cs 0 w (by simpa using hc) (by simpa using hf) h1
  cases hq : P.info? elem with
  | none => simp [hq] at hs
  | some i =>
    have hi : i.size = e := by simpa [hq] using hs
    simp [Builtin.copy_, run_underlying hu, Builtin.lenOf, Builtin.firstCells, sizeOf, typeInfo, hq, hi, ← hn, hl, hst]
theorem infoTag : (Try.prog.info? 65).map (fun i => (i.zero, i.size, i.bytes)) = some (some (.agg #[.int .i64 0, .string ⟨#[]⟩]), 2, 24) := by kernel_rfl
theorem sizeTag (w : World) : (Go.sizeOf 65).run Try.prog w = .ok 2 w := by
  obtain ⟨i, hi, _, h2, _⟩ := info_parts infoTag
  simp [Go.sizeOf, typeInfo, hi, h2]
set_option maxHeartbeats 4000000 in
set_option maxRecDepth 100000 in
theorem insTag_shift (b off n c i vb voff m vc : Nat) (cs vs : List Value) (w : World) (hi : i < n) (hm : 0 < m) (hroom : n + m ≤ c) (hc63 : n + m ≤ 9223372036854775807) (hvb : vb ≠ b)
    (hcl : cs.length = n * 2) (hvl : vs.length = m * 2)
    (hcs : ∀ j v, cs[j]? = some v → w.cell? ⟨b, off + j, none⟩ = some v) (hsp : ∀ j, j < (n + m) * 2 → (w.cell? ⟨b, off + j, none⟩).isSome = true) (hfz : ∀ j, j < (n + m) * 2 → w.frozen? ⟨b, off + j, none⟩ = false)
    (hvs : ∀ j v, vs[j]? = some v → w.cell? ⟨vb, voff + j, none⟩ = some v) (h1c : ∀ v ∈ cs.drop (i * 2), v.oneCell' = true) (h1v : ∀ v ∈ vs, v.oneCell' = true)
    (tA tB : TypeId) (kA kB : Nat) (hsa : w.shape? vb = some (tA, kA)) (hsb : w.shape? b = some (tB, kB)) (hkB : kB ≠ 0) (hfa : w.frozen? ⟨vb, voff, none⟩ = false) (hfe : w.frozen? ⟨vb, kA, none⟩ = false) :
    Calls Try.prog 80 #[.slice (some ⟨b, off, none⟩) n c, .int .i64 i, .slice (some ⟨vb, voff, none⟩) m vc] w fun e w' =>
      e = .returned (.slice (some ⟨b, off, none⟩) (n + m) c) ∧ w' = (w.drew.setCells b (off + (i + m) * 2) (cs.drop (i * 2))).setCells b (off + i * 2) vs := by
  have hz1 : ¬ ((m : Int) = 0) := by omega
  have hz2 : ¬ ((i : Int) = (n : Int)) := by omega
  have hsz : (Try.prog.info? 65).map (·.size) = some 2 := by kernel_rfl
  have hz2s : ∀ w : World, (Go.sizeOf 65).run Try.prog w = .ok 2 w := sizeTag
  have hov : ∀ lb cb, (callFunc 100 #[.slice (some ⟨vb, voff, none⟩) m vc, .slice (some ⟨b, off + (i + m) * 2, none⟩) lb cb]).run Try.prog w = .ok (.value (.bool false)) w := fun lb cb => by
    rw [run_callFunc_extern Try.func100 (by kernel_rfl) (by kernel_rfl) (by kernel_rfl) (e := Extern.SlicesOverlaps.overlaps #[77, 77] #[4]) (by kernel_rfl),
      Lib.run_overlaps_apart w 77 4 65 Try.underlying77 2 hz2s ⟨vb, voff, none⟩ ⟨b, off + (i + m) * 2, none⟩ m vc lb cb hvb tA tB kA kB hsa hsb hkB hfa hfe]
    rfl
  have hdl : (cs.drop (i * 2)).length = (n - i) * 2 := by rw [List.length_drop, hcl]; omega
  have mixed : Try.prog.follows .mixedOrders = true := by kernel_rfl
  have hw1 : IntKind.i64.wrap ((i : Int) + (m : Int)) = (i : Int) + (m : Int) := by rw [IntKind.wrap_i64]; omega
  have hb1 : (0 : Int) ≤ (i : Int) + (m : Int) := by omega
  have hin : i ≤ n := by omega
  have htn : ((i : Int) + (m : Int)).toNat = i + m := by omega
  have hb2 : ¬ (c = i + m) := by omega
  have hb3 : (i : Int) ≤ (n : Int) + (m : Int) := by omega
  have hb4 : ¬ (c = i) := by omega
  have hcp1 : ∀ ty dc sc, (Builtin.copy_ #[77, 77] ty #[.slice (some ⟨b, off + (i + m) * 2, none⟩) (n + m - (i + m)) dc, .slice (some ⟨b, off + i * 2, none⟩) (n + m - i) sc]).run Try.prog w.drew = .ok (goInt (Nat.min (n + m - i) (n + m - (i + m)))) (w.drew.setCells b (off + (i + m) * 2) (cs.drop (i * 2))) := fun ty dc sc =>
    zCm w.drew _ _ ty 65 2 b (off + (i + m) * 2) (n + m - (i + m)) dc ⟨b, off + i * 2, none⟩ (n + m - i) sc (cs.drop (i * 2)) Try.underlying77 hsz (by rw [hdl]; simp only [Nat.min_def]; split <;> omega)
      (fun j v hj => by rw [Addr.add_lit, Nat.add_assoc]; exact hcs (i * 2 + j) v (by rwa [List.getElem?_drop] at hj))
      (fun j hj => by rw [Nat.add_assoc]; exact hsp _ (by omega)) (fun j hj => by rw [Nat.add_assoc]; exact hfz _ (by omega)) h1c
  obtain ⟨W1, hW1⟩ : ∃ W1, W1 = w.drew.setCells b (off + (i + m) * 2) (cs.drop (i * 2)) := ⟨_, rfl⟩
  have hsp1 : ∀ k, k < (n + m) * 2 → (W1.cell? ⟨b, off + k, none⟩).isSome = true := fun k hk => by
    rw [hW1]
    exact isSome_setCells b _ _ _ (fun j hj => by rw [Nat.add_assoc]; exact hsp _ (by omega)) _ (hsp k hk)
  have hcp2 : ∀ (W : World), (∀ x, W.cell? x = W1.cell? x) → (∀ x, W.frozen? x = W1.frozen? x) → ∀ ty dc, (Builtin.copy_ #[77, 77] ty #[.slice (some ⟨b, off + i * 2, none⟩) (n + m - i) dc, .slice (some ⟨vb, voff, none⟩) m vc]).run Try.prog W = .ok (goInt (Nat.min m (n + m - i))) (W.setCells b (off + i * 2) vs) := fun W hWc hWf ty dc =>
    zCm W _ _ ty 65 2 b (off + i * 2) (n + m - i) dc ⟨vb, voff, none⟩ m vc vs Try.underlying77 hsz (by rw [hvl]; simp only [Nat.min_def]; split <;> omega)
      (fun j v hj => by
        rw [Addr.add_lit, hWc, hW1, World.cell?_setCells_out b _ _ _ _ (fun h _ => absurd h hvb)]
        exact hvs j v hj)
      (fun j hj => by rw [hWc, Nat.add_assoc]; exact hsp1 _ (by omega)) (fun j hj => by rw [hWf, hW1, World.frozen?_setCells, Nat.add_assoc]; exact hfz _ (by omega)) h1v
  rw [← hW1] at hcp1
  have u77 := run_underlying Try.underlying77
  go_enter Try.func80, Try.ntmps80
  go_wp2_with (simp only [hov])
  go_region_law_o (refine step_copy_runI rfl _ _ 77 77 rfl _ _ (by simp [Act.eval, Act.put]) (by simp [Act.eval, Act.put]) (hcp1 _ _ _) ?_)
  go_wp2_with (at_builtin; refine wpList_copy_runI _ rfl _ _ 77 77 rfl _ _ rfl rfl (hcp2 _ (fun _ => rfl) (fun _ => rfl) _ _) ?_)
  go_ret
  first | exact ⟨rfl, rfl⟩ | exact ⟨rfl, by rw [hW1]⟩
set_option maxHeartbeats 4000000 in
set_option maxRecDepth 100000 in
theorem insTag_grow (b off n c i vb voff m vc : Nat) (cs vs : List Value) (w : World) (hi : i < n) (hm : 0 < m) (hnc : n ≤ c) (hroom : c < n + m) (hbig : (n + m) * 24 ≤ 140737488355328)
    (hcl : cs.length = n * 2) (hvl : vs.length = m * 2)
    (hcs : ∀ j v, cs[j]? = some v → w.cell? ⟨b, off + j, none⟩ = some v)
    (hvs : ∀ j v, vs[j]? = some v → w.cell? ⟨vb, voff + j, none⟩ = some v) (h1c : ∀ v ∈ cs.drop (i * 2), v.oneCell' = true) (h1v : ∀ v ∈ vs, v.oneCell' = true) :
    Calls Try.prog 80 #[.slice (some ⟨b, off, none⟩) n c, .int .i64 i, .slice (some ⟨vb, voff, none⟩) m vc] w fun e w' =>
      e = .returned (.slice (some ⟨w.heap.size, 0, none⟩) (n + m) (grownCap w (n + m) c 65)) ∧
      w' = (((w.alloc (.cells ((cs.take (i * 2)).toArray ++ Builtin.zeroCells (Value.agg #[.int .i64 0, .string ⟨#[]⟩]).cells (n + m - i) ++ Builtin.zeroCells (Value.agg #[.int .i64 0, .string ⟨#[]⟩]).cells (grownCap w (n + m) c 65 - (n + m))) 65)).drew.setCells w.heap.size (i * 2) vs).drew).setCells w.heap.size ((i + m) * 2) (cs.drop (i * 2)) := by
  have mixed : Try.prog.follows .mixedOrders = true := by kernel_rfl
  obtain ⟨i0, hi0, hz0, hzs, hzb⟩ := info_parts infoTag
  have hz1 : ¬ ((m : Int) = 0) := by omega
  have hz2 : ¬ ((i : Int) = (n : Int)) := by omega
  have hz3 : (c : Int) < (n : Int) + (m : Int) := by omega
  have hsz : (Try.prog.info? 65).map (·.size) = some 2 := by rw [hi0]; simp [hzs]
  have u77 := run_underlying Try.underlying77
  have hbw : b < w.heap.size := block_lt_of_cell (hcs 0 _ (List.getElem?_eq_getElem (by omega)))
  have hvw : vb < w.heap.size := block_lt_of_cell (hvs 0 _ (List.getElem?_eq_getElem (by omega)))
  have hkk : (n : Int) + (m : Int) - (i : Int) = ((n + m - i : Nat) : Int) := by omega
  have hik : i + (n + m - i) = n + m := by omega
  have hold : (Builtin.firstCells i0.size i (.slice (some ⟨b, off, none⟩) i c)).run Try.prog w.drew = .ok (cs.take (i * 2)).toArray w.drew := by
    rw [hzs]
    exact run_firstCells_some w.drew 2 i ⟨b, off, none⟩ i c (cs.take (i * 2)) (by rw [List.length_take]; omega) (fun j v hj => by
      rw [Addr.add_lit]
      rw [List.getElem?_take] at hj
      split at hj
      · exact hcs j v hj
      · cases hj)
  have hrz : ∀ ty, (Builtin.append_ #[77, 3] ty #[.slice (some ⟨b, off, none⟩) i c, .int .i64 ((n : Int) + (m : Int) - (i : Int))]).run Try.prog w =
      .ok (.slice (some ⟨w.heap.size, 0, none⟩) (n + m) (grownCap w (n + m) c 65)) (w.drew.alloc (.cells ((cs.take (i * 2)).toArray ++ Builtin.zeroCells (Value.agg #[.int .i64 0, .string ⟨#[]⟩]).cells (n + m - i) ++ Builtin.zeroCells (Value.agg #[.int .i64 0, .string ⟨#[]⟩]).cells (grownCap w (n + m) c 65 - (n + m))) 65)) := fun ty => by
    have h := Lib.run_append_grow_zeros w 77 3 ty 65 i0 _ .i64 .i64 Try.underlying77 Try.underlying3 hi0 hz0 (some ⟨b, off, none⟩) i c (cs.take (i * 2)) hold (n + m - i) (by omega) (by omega) (by omega) (by omega) (by rw [hzb]; omega) (by rw [hzb, hik]; exact growslice_fits hroom hbig)
    rw [hik] at h
    rw [hkk]
    exact h
  obtain ⟨G, hG⟩ : ∃ G, G = grownCap w (n + m) c 65 := ⟨_, rfl⟩
  obtain ⟨ROW, hROW⟩ : ∃ ROW : Array Value, ROW = (cs.take (i * 2)).toArray ++ Builtin.zeroCells (Value.agg #[.int .i64 0, .string ⟨#[]⟩]).cells (n + m - i) ++ Builtin.zeroCells (Value.agg #[.int .i64 0, .string ⟨#[]⟩]).cells (G - (n + m)) := ⟨_, rfl⟩
  rw [← hG] at hrz ⊢
  rw [← hROW] at hrz ⊢
  have hRl : (n + m) * 2 ≤ ROW.size := by
    rw [hROW]
    simp [Builtin.zeroCells, Value.cells]
    omega
  obtain ⟨W1, hW1⟩ : ∃ W1, W1 = w.drew.alloc (.cells ROW 65) := ⟨_, rfl⟩
  rw [← hW1] at hrz
  have hN : ∀ j, j < (n + m) * 2 → (W1.cell? ⟨w.heap.size, j, none⟩).isSome = true := fun j hj => by
    rw [hW1, World.cell?_alloc_at (w := w.drew) ROW _ w.heap.size j rfl, Array.getElem?_eq_getElem (by omega)]; rfl
  have hNf : ∀ j, W1.frozen? ⟨w.heap.size, j, none⟩ = false := fun j => by rw [hW1]; exact World.frozen?_alloc_at (w := w.drew) ROW _ w.heap.size j rfl
  have hOb : ∀ j v, w.cell? ⟨b, j, none⟩ = some v → W1.cell? ⟨b, j, none⟩ = some v := fun j v h => by rw [hW1, World.cell?_alloc_past (w := w.drew) _ b j hbw]; exact h
  have hOv : ∀ j v, w.cell? ⟨vb, j, none⟩ = some v → W1.cell? ⟨vb, j, none⟩ = some v := fun j v h => by rw [hW1, World.cell?_alloc_past (w := w.drew) _ vb j hvw]; exact h
  have hcpA : ∀ (W : World), (∀ x, W.cell? x = W1.cell? x) → (∀ x, W.frozen? x = W1.frozen? x) → ∀ ty dc, (Builtin.copy_ #[77, 77] ty #[.slice (some ⟨w.heap.size, i * 2, none⟩) (n + m - i) dc, .slice (some ⟨vb, voff, none⟩) m vc]).run Try.prog W = .ok (goInt (Nat.min m (n + m - i))) (W.setCells w.heap.size (i * 2) vs) := fun W hWc hWf ty dc =>
    zCm W _ _ ty 65 2 w.heap.size (i * 2) (n + m - i) dc ⟨vb, voff, none⟩ m vc vs Try.underlying77 hsz (by rw [hvl]; simp only [Nat.min_def]; split <;> omega)
      (fun j v hj => by rw [Addr.add_lit, hWc]; exact hOv _ v (hvs j v hj))
      (fun j hj => by rw [hWc]; exact hN _ (by omega)) (fun j hj => by rw [hWf]; exact hNf _) h1v
  have hGn : n + m ≤ G := by rw [hG]; exact grownCap_ge w _ _ _
  have hG63 : G ≤ 9223372036854775807 := by
    have := grownCap_le_maxLen w (n + m) c 65 (by unfold maxLen; omega)
    rw [← hG] at this
    unfold maxLen at this
    omega
  have hGi : ¬ (G = i) := by omega
  have hGim : ¬ (G = i + m) := by omega
  have hci : ¬ (c = i) := by omega
  have hbN : b ≠ w.heap.size := by omega
  have hdl : (cs.drop (i * 2)).length = (n - i) * 2 := by rw [List.length_drop, hcl]; omega
  have hcpB : ∀ (W : World), (∀ x, W.cell? x = (W1.setCells w.heap.size (i * 2) vs).cell? x) → (∀ x, W.frozen? x = (W1.setCells w.heap.size (i * 2) vs).frozen? x) → ∀ ty dc sc, (Builtin.copy_ #[77, 77] ty #[.slice (some ⟨w.heap.size, (i + m) * 2, none⟩) (n + m - (i + m)) dc, .slice (some ⟨b, off + i * 2, none⟩) (n - i) sc]).run Try.prog W = .ok (goInt (Nat.min (n - i) (n + m - (i + m)))) (W.setCells w.heap.size ((i + m) * 2) (cs.drop (i * 2))) := fun W hWc hWf ty dc sc =>
    zCm W _ _ ty 65 2 w.heap.size ((i + m) * 2) (n + m - (i + m)) dc ⟨b, off + i * 2, none⟩ (n - i) sc (cs.drop (i * 2)) Try.underlying77 hsz (by rw [hdl]; simp only [Nat.min_def]; split <;> omega)
      (fun j v hj => by
        rw [Addr.add_lit, hWc, World.cell?_setCells_out _ _ _ _ _ (fun h _ => absurd h hbN), Nat.add_assoc]
        exact hOb _ v (hcs (i * 2 + j) v (by rwa [List.getElem?_drop] at hj)))
      (fun j hj => by rw [hWc]; exact isSome_setCells _ _ _ _ (fun t ht => hN _ (by omega)) _ (hN _ (by omega)))
      (fun j hj => by rw [hWf, World.frozen?_setCells]; exact hNf _) h1c
  subst hW1
  have hE1 : ∀ x, ((w.alloc (.cells ROW 65)).drew).cell? x = (w.drew.alloc (.cells ROW 65)).cell? x := fun x => rfl
  have hE2 : ∀ x, ((w.alloc (.cells ROW 65)).drew).frozen? x = (w.drew.alloc (.cells ROW 65)).frozen? x := fun x => rfl
  have hF1 : ∀ x, (((w.alloc (.cells ROW 65)).drew.setCells w.heap.size (i * 2) vs).drew).cell? x = ((w.drew.alloc (.cells ROW 65)).setCells w.heap.size (i * 2) vs).cell? x := fun x => rfl
  have hF2 : ∀ x, (((w.alloc (.cells ROW 65)).drew.setCells w.heap.size (i * 2) vs).drew).frozen? x = ((w.drew.alloc (.cells ROW 65)).setCells w.heap.size (i * 2) vs).frozen? x := fun x => rfl
  have hw1 : IntKind.i64.wrap ((i : Int) + (m : Int)) = (i : Int) + (m : Int) := by rw [IntKind.wrap_i64]; omega
  have hb1 : (0 : Int) ≤ (i : Int) + (m : Int) := by omega
  have hin : i ≤ n := by omega
  have htn : ((i : Int) + (m : Int)).toNat = i + m := by omega
  have hb3 : (i : Int) ≤ (n : Int) := by omega
  clear hkk hik hold hROW hG hRl
  go_enter Try.func80, Try.ntmps80
  go_wp2_with (first
    | (at_builtin; refine Lib.wpList_append_run _ rfl _ _ _ _ rfl _ _ rfl rfl _ _ (hrz _) ?_)
    | (at_builtin; refine wpList_copy_runI _ rfl _ _ 77 77 rfl _ _ rfl rfl (hcpA _ hE1 hE2 _ _) ?_)
    | (at_builtin; refine wpList_copy_runI _ rfl _ _ 77 77 rfl _ _ rfl rfl (hcpB _ (fun _ => rfl) (fun _ => rfl) _ _ _) ?_))
  go_region_law_o (refine step_copy_runI rfl _ _ 77 77 rfl (.slice (some ⟨w.heap.size, (i + m) * 2, none⟩) (n + m - (i + m)) (G - (i + m))) (.slice (some ⟨b, off + i * 2, none⟩) (n - i) (c - i)) (by simp [Act.eval, Act.put]) (by simp [Act.eval, Act.put]) (hcpB _ hF1 hF2 3 (G - (i + m)) (c - i)) ?_)
  go_wp2
  go_ret
  exact ⟨rfl, rfl⟩
set_option maxHeartbeats 4000000 in
set_option maxRecDepth 100000 in
theorem insTag_end (base : Option Addr) (n c m vc : Nat) (va : Option Addr) (v : Value) (w w' : World) (hm : 0 < m) (hnc : n ≤ c) (hnil : base = none → n = 0)
    (hrun : (Builtin.append_ #[77, 77] 77 #[.slice base n c, .slice va m vc]).run Try.prog w = .ok v w') :
    Calls Try.prog 80 #[.slice base n c, .int .i64 n, .slice va m vc] w fun e w1 => e = .returned v ∧ w1 = w' := by
  have hz1 : ¬ ((m : Int) = 0) := by omega
  have u77 := run_underlying Try.underlying77
  go_enter Try.func80, Try.ntmps80
  cases base with
  | none =>
    have h0 := hnil rfl
    subst h0
    go_wp2_with (at_builtin; refine Lib.wpList_append_run _ rfl _ _ _ _ rfl _ _ rfl rfl _ _ hrun ?_)
    go_ret
    exact ⟨rfl, rfl⟩
  | some a =>
    obtain ⟨ab, ao, asp⟩ := a
    go_wp2_with (at_builtin; refine Lib.wpList_append_run _ rfl _ _ _ _ rfl _ _ rfl rfl _ _ hrun ?_)
    all_goals (go_ret; exact ⟨rfl, rfl⟩)
end Go.X
end
section
open Go Go.X Go.Proofs Go.RowKit
namespace Go.X
theorem insTagFn : InsFn Try.prog 80 77 65 2 24 (.agg #[.int .i64 0, .string ⟨#[]⟩]) where
  call := ⟨_, Try.func80, by decide +kernel, by kernel_rfl⟩
  und := Try.underlying77
  info := infoTag
  zero := by kernel_rfl
  size := by kernel_rfl
  bytes := by kernel_rfl
  zlen := rfl
  by0 := by decide
  sz0 := by decide
  end_ := insTag_end
  shift := insTag_shift
  grow := insTag_grow
end Go.X
end
section
open Go Go.X Go.Proofs Go.RowKit
namespace Go.X
set_option linter.unusedVariables false
def U1 : List (Nat × Prim) := (40, zb wnumS) :: S1
def U2 : List (Nat × Prim) := (112, zb hash3S) :: U1
def U3 : List (Nat × Prim) := (82, zBx) :: U2
def U4 : List (Nat × Prim) := (75, zBj) :: U3
def U5 : List (Nat × Prim) := (95, zBk) :: U4
def U6 : List (Nat × Prim) := (113, zCR) :: U5
def U7 : List (Nat × Prim) := (96, zCP) :: U6
def U8 : List (Nat × Prim) := (77, zBk) :: U7
def U9 : List (Nat × Prim) := (76, saidCG) :: U8
def U10 : List (Nat × Prim) := (41, signG) :: U9
def U11 : List (Nat × Prim) := (46, goodG) :: U10
def U12 : List (Nat × Prim) := (99, zb cmpS) :: U11
def U13 : List (Nat × Prim) := (98, zb findFnS) :: U12
def U14 : List (Nat × Prim) := (97, bsG) :: U13
def U15 : List (Nat × Prim) := (79, findG) :: U14
def U16 : List (Nat × Prim) := (80, zBc 2 24) :: U15
def U17 : List (Nat × Prim) := (102, zb mostS) :: U16
def U18 : List (Nat × Prim) := (83, mostG) :: U17
def zCN : Prim := fun args h => match args with
  | [.pointer (some a), .agg c, .agg ⟨[tv]⟩, msv] => match zAE h a, hdrL h c.toList, zAT h tv, zAC h msv with
    | some keys, some (x, _), some l, some ms => if zAW keys = true ∧ l.length ≤ 1000000 ∧ ms.length ≤ 1000000 then some (.int .i64 (zAl keys x l ms : Int), h) else none
    | _, _, _, _ => none
  | _ => none
theorem zBs {h : Heap} {a : Addr} {keys : List (List UInt8)} (hr : zAE h a = some keys) (hk : zAW keys = true) {x : Hdr} {mv : Value} (hx : HdAt h x mv) {tv : Value} {l : TagL} (hs : zAT h tv = some l) (hl : l.length ≤ 1000000) {msv : Value} {ms : List Int} (hms : zAC h msv = some ms) (hml : ms.length ≤ 1000000) :
    zCN [.pointer (some a), .agg (ze x mv).toArray, .agg [tv].toArray, msv] h = some (.int .i64 (zAl keys x l ms : Int), h) := by
  simp only [zCN, hr, hdrL_at hx, hs, hms]
  rw [if_pos ⟨hk, hl, hml⟩]
def U19 : List (Nat × Prim) := (49, zCN) :: U18
def U20 : List (Nat × Prim) := (45, tag17G) :: U19
theorem uk1 : XOK Try.prog (Tab Try.prog U1) := Tab.pure sk1 Try.func40 cq40 fun args v h => ⟨(num3S_ok h).1, (num3S_ok h).2.1, fun g => (num3S_ok h).2.2 _ g rfl (zW Try.func40 cq40)⟩
theorem uk2 : XOK Try.prog (Tab Try.prog U2) := Tab.pure uk1 Try.func112 cq112 fun args v h => ⟨(hash3S_ok h).1, (hash3S_ok h).2.1, fun g => (hash3S_ok h).2.2 _ g⟩
theorem uk3 : XOK Try.prog (Tab Try.prog U3) := Tab.read uk2 Try.func82 cq82 fun args h v h' hr => by
  unfold zBx at hr
  split at hr
  · split at hr
    · split at hr
      · rename_i hs hl; cases hr; exact ⟨rfl, rfl, rfl, fun n wf => members_ok _ (h.at n) _ _ hs hl⟩
      · cases hr
    · cases hr
  · cases hr
theorem uk4 : XOK Try.prog (Tab Try.prog U4) := Tab.read uk3 Try.func75 cq75 fun args h v h' hr => by
  unfold zBj at hr
  split at hr
  · split at hr
    · rename_i hx
      cases hr
      obtain ⟨e, hd⟩ := agg_hd hx
      rw [e]
      exact ⟨rfl, rfl, rfl, fun n wf => headCheck_ok _ rfl (h.at n) wf _ _ hd⟩
    · cases hr
  · cases hr
theorem wireU4 : WireTab (Tab Try.prog U4) := ⟨rfl, rfl, zW Try.func51 cq51, rfl, zW Try.func91 cq91, rfl, zW Try.func66 cq66, rfl, zW Try.func92 cq92, rfl, zW Try.func67 cq67, rfl, zW Try.func68 cq68, rfl, zW Try.func53 cq53, rfl, zW Try.func54 cq54, rfl, zW Try.func69 cq69, rfl, zW Try.func93 cq93, rfl, zW Try.func94 cq94, rfl, zW Try.func70 cq70, rfl, zW Try.func71 cq71, rfl, zW Try.func72 cq72, rfl, zW Try.func84 cq84, rfl, zW Try.func56 cq56, rfl, zW Try.func57 cq57, rfl, zW Try.func58 cq58⟩
theorem headU4 : HeadTab (Tab Try.prog U4) := ⟨wireU4, rfl, rfl, rfl, zW Try.func124 cq124, rfl, zW Try.func111 cq111⟩
theorem uk5 : XOK Try.prog (Tab Try.prog U5) := Tab.read uk4 Try.func95 cq95 fun args h v h' hr => by
  unfold zBk at hr
  split at hr
  · split at hr
    · rename_i hx
      cases hr
      obtain ⟨e, hd⟩ := agg_hd hx
      rw [e]
      exact ⟨rfl, rfl, rfl, fun n wf => headHash_ok _ headU4 rfl (h.at n) wf _ _ hd⟩
    · cases hr
  · cases hr
theorem uk6 : XOK Try.prog (Tab Try.prog U6) := Tab.read uk5 Try.func113 cq113 fun args h v h' hr => by
  unfold zCR at hr
  split at hr
  · split at hr
    · split at hr
      · rename_i hs hl; cases hr; exact ⟨rfl, rfl, rfl, fun n wf => memsBytes_ok _ rfl (h.at n) _ _ hs hl⟩
      · cases hr
    · cases hr
  · cases hr
theorem uk7 : XOK Try.prog (Tab Try.prog U7) := Tab.read uk6 Try.func96 cq96 fun args h v h' hr => by
  unfold zCP at hr
  split at hr
  · split at hr
    · rename_i hx
      cases hr
      obtain ⟨e, hd⟩ := agg_hd hx
      rw [e]
      exact ⟨rfl, rfl, rfl, fun n wf => headBytes_ok _ rfl rfl rfl (h.at n) wf _ _ hd⟩
    · cases hr
  · cases hr
theorem uk8 : XOK Try.prog (Tab Try.prog U8) := Tab.read uk7 Try.func77 cq77 fun args h v h' hr => by
  unfold zBk at hr
  split at hr
  · split at hr
    · rename_i hx
      cases hr
      obtain ⟨e, hd⟩ := agg_hd hx
      rw [e]
      exact ⟨rfl, rfl, rfl, fun n wf => refHash_ok _ rfl rfl (h.at n) wf _ _ hd⟩
    · cases hr
  · cases hr
theorem uk9 : XOK Try.prog (Tab Try.prog U9) := Tab.read uk8 Try.func76 cq76 fun args h v h' hr => by
  unfold saidCG at hr
  split at hr
  · split at hr
    · rename_i hx
      cases hr
      obtain ⟨e, hd⟩ := agg_hd hx
      rw [e]
      exact ⟨rfl, rfl, rfl, fun n wf => saidC_ok _ rfl rfl (h.at n) wf _ _ hd⟩
    · cases hr
  · cases hr
theorem uk10 : XOK Try.prog (Tab Try.prog U10) := Tab.read uk9 Try.func41 cq41 fun args h v h' hr => by
  unfold signG at hr
  split at hr
  · split at hr
    · split at hr
      · rename_i hrg hx hk
        cases hr
        obtain ⟨e, hd⟩ := agg_hd hx
        rw [e]
        exact ⟨rfl, rfl, rfl, fun n wf => sign_ok _ rfl rfl rfl (h.at n) wf _ _ hrg hk _ _ _ hd⟩
      · cases hr
    · cases hr
  · cases hr
theorem uk11 : XOK Try.prog (Tab Try.prog U11) := Tab.read uk10 Try.func46 cq46 fun args h v h' hr => by
  unfold goodG at hr
  split at hr
  · rename_i a c r t
    split at hr
    · split at hr
      · rename_i hrg hx hk
        cases hr
        obtain ⟨e, hd⟩ := agg_hd hx
        rw [e]
        refine ⟨rfl, rfl, rfl, fun n wf => ?_⟩
        have := good_ok (Tab Try.prog U10) rfl rfl rfl (h.at n) wf a _ hrg hk r t.data.toList _ _ hd
        rw [tagV, zBo] at this
        exact this
      · cases hr
    · cases hr
  · cases hr
theorem uk12 : XOK Try.prog (Tab Try.prog U12) := Tab.pure uk11 Try.func99 cq99 fun args v h => by
  unfold cmpS at h
  split at h
  · cases h; exact ⟨rfl, rfl, fun g => cmp_ok _ rfl (zW Try.func114 cq114) _ _ g⟩
  · cases h
theorem uk13 : XOK Try.prog (Tab Try.prog U13) := Tab.pure uk12 Try.func98 cq98 fun args v h => by
  unfold findFnS at h
  split at h
  · rename_i a s b
    cases h
    refine ⟨rfl, rfl, fun g => ?_⟩
    have := findFn_ok (Tab Try.prog U12) rfl a b s.data.toList g
    rw [tagV, zBo] at this
    exact this
  · cases h
theorem uk14 : XOK Try.prog (Tab Try.prog U14) := Tab.read uk13 Try.func97 cq97 fun args h v h' hr => by
  unfold bsG at hr
  split at hr
  · split at hr
    · split at hr
      · rename_i hs hc; cases hr; exact ⟨rfl, rfl, rfl, fun n wf => bs_ok _ rfl (h.at n) _ _ _ hs hc.1 hc.2⟩
      · cases hr
    · cases hr
  · cases hr
theorem uk15 : XOK Try.prog (Tab Try.prog U15) := Tab.read uk14 Try.func79 cq79 fun args h v h' hr => by
  unfold findG at hr
  split at hr
  · split at hr
    · split at hr
      · rename_i hs hc; cases hr; exact ⟨rfl, rfl, rfl, fun n wf => find_ok _ rfl (h.at n) wf _ _ _ hs hc.1 hc.2⟩
      · cases hr
    · cases hr
  · cases hr
theorem uk16 : XOK Try.prog (Tab Try.prog U16) := Tab.cons uk15 fun args h v h' hr => ⟨insTagFn.call, insertG_next hr, insertG_ok insTagFn hr⟩
theorem uk17 : XOK Try.prog (Tab Try.prog U17) := Tab.pure uk16 Try.func102 cq102 fun args v h => by
  unfold mostS at h
  split at h
  · split at h
    · rename_i hc; cases h; exact ⟨rfl, rfl, fun g => most_ok _ _ hc g⟩
    · cases h
  · cases h
theorem uk18 : XOK Try.prog (Tab Try.prog U18) := Tab.read uk17 Try.func83 cq83 fun args h v h' hr => by
  unfold mostG at hr
  split at hr
  · split at hr
    · split at hr
      · split at hr
        · rename_i hs hm _ _ hk hl
          cases hr
          refine ⟨rfl, rfl, rfl, fun n wf => cmost_ok _ rfl (h.at n) _ _ _ _ hs ?_ hl⟩
          unfold MapAt
          rw [← keysOf_eq hk]
          exact hm
        · cases hr
      · cases hr
    · cases hr
  · cases hr
theorem uk19 : XOK Try.prog (Tab Try.prog U19) := Tab.read uk18 Try.func49 cq49 fun args h v h' hr => by
  unfold zCN at hr
  split at hr
  · split at hr
    · split at hr
      · rename_i hrg hx ht hm hc
        cases hr
        obtain ⟨e, hd⟩ := agg_hd hx
        rw [e]
        exact ⟨rfl, rfl, rfl, fun n wf => ccheck_ok _ ⟨rfl, rfl, rfl, rfl⟩ (h.at n) wf _ _ hrg hc.1 _ _ hd _ _ ht hc.2.1 _ _ hm hc.2.2⟩
      · cases hr
    · cases hr
  · cases hr
theorem headU19 : HeadTab (Tab Try.prog U19) := ⟨⟨rfl, rfl, zW Try.func51 cq51, rfl, zW Try.func91 cq91, rfl, zW Try.func66 cq66, rfl, zW Try.func92 cq92, rfl, zW Try.func67 cq67, rfl, zW Try.func68 cq68, rfl, zW Try.func53 cq53, rfl, zW Try.func54 cq54, rfl, zW Try.func69 cq69, rfl, zW Try.func93 cq93, rfl, zW Try.func94 cq94, rfl, zW Try.func70 cq70, rfl, zW Try.func71 cq71, rfl, zW Try.func72 cq72, rfl, zW Try.func84 cq84, rfl, zW Try.func56 cq56, rfl, zW Try.func57 cq57, rfl, zW Try.func58 cq58⟩, rfl, rfl, rfl, zW Try.func124 cq124, rfl, zW Try.func111 cq111⟩
theorem certU19 : CertTab (Tab Try.prog U19) := ⟨headU19, rfl, rfl, rfl, rfl, rfl, rfl, rfl, zW Try.func27 cq27, rfl, rfl, rfl, zW Try.func42 cq42, rfl, zW Try.func43 cq43, rfl, zW Try.func78 cq78⟩
theorem uk20 : XOK Try.prog (Tab Try.prog U20) := Tab.read uk19 Try.func45 cq45 fun args h v h' hr => by
  unfold tag17G at hr
  split at hr
  · rename_i i c
    split at hr
    · split at hr
      · rename_i hx hc
        cases hr
        obtain ⟨e, hd⟩ := agg_hd hx
        rw [e]
        refine ⟨rfl, rfl, rfl, fun n wf => ?_⟩
        have := tag17_ok (Tab Try.prog U19) certU19 (h.at n) wf _ _ hd i.toNat (by omega)
        rw [show ((i.toNat : Nat) : Int) = i by omega] at this
        exact this
      · cases hr
    · cases hr
  · cases hr
end Go.X
end
