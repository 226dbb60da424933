/- Certificates put and taken; the statement of their bytes. -/
import Derived.Test.YtmhkcnibbodjnaaXN
import Derived.Test.YtmhkcnibbodjnaaXS
set_option linter.unusedSimpArgs false
set_option linter.unusedVariables false
set_option maxHeartbeats 2000000
section
open Go Go.X
namespace Go.X
set_option linter.unusedVariables false
structure PutTab (pr : Prog) : Prop where
  wire : zBi pr
  put : pr.prim 52 = none
  putC : pr.code 52 = some xq52
def zA5 (l : TagL) : List UInt8 := l.flatMap fun q => numB (w64 q.1) 1 ++ zAJ q.2
def zDG (l : TagL) : List UInt8 := numB l.length 1 ++ zA5 l
theorem zF2 (l : TagL) : (zA5 l).length = l.length * 33 := by
  induction l with
  | nil => rfl
  | cons x l ih => unfold zA5 at ih ⊢; simp only [List.flatMap_cons, List.length_append, zAQ, zBa, ih, List.length_cons]; omega
theorem zU5 (l m : TagL) : zA5 (l ++ m) = zA5 l ++ zA5 m := by simp [zA5]
theorem zU6 {l : TagL} {i : Nat} (hi : i < l.length) : zA5 (l.take (i + 1)) = zA5 (l.take i) ++ numB (w64 (l.getD i (0, [])).1) 1 ++ zAJ (l.getD i (0, [])).2 := by
  rw [List.take_succ_eq_append_getElem hi, zU5, List.getD_eq_getElem?_getD, List.getElem?_eq_getElem hi, List.append_assoc]
  simp [zA5]
theorem zU4 (l : TagL) : (zDG l).length = 1 + l.length * 33 := by simp [zDG, zAQ, zF2]
theorem zIT {pr : Prog} (T : PutTab pr) {h0 h : Heap} (hg : Grows h0 h) {W : Nat} {S : Nat → Prop} {b : List UInt8} (hS0 : ∀ A, A < h0.next → ¬ S A) (hw : WrS h W S b) (hS : ∀ A, h.next ≤ A → S A) {v : Value} {l : TagL} (hr : RdTags h0 v l) (hl : l.length ≤ 1000000) (hroom : b.length + 40000000 ≤ zU) :
    ∃ h', cfi pr 52 [.pointer (some ⟨W, 0, none⟩), .agg [v].toArray] h = some (.tuple #[], h') ∧ WrS h' W S (b ++ zDG l) ∧ Keeps S h h' := by
  have hr64 : zU = 140737488355328 := rfl
  have : ∃ w h', cfi pr 52 [.pointer (some ⟨W, 0, none⟩), .agg [v].toArray] h = some (w, h') ∧ w = .tuple #[] ∧ WrS h' W S (b ++ zDG l) ∧ Keeps S h h' := by
    refine zAg T.put T.putC rfl ?_
    unfold xq52
    dsimp only [zc]
    refine wpk.out (k := []) ?_
    obtain ⟨_, a, cap, rfl, _⟩ := zBT hr.now
    obtain ⟨g, hgx, v0, gg, gn⟩ := box1 (h := h) (v := .slice a l.length cap) rfl
    have l0 : ∀ sp, g.load ⟨h.next, 0, sp⟩ = some (.slice a l.length cap) := fun sp => v0.load
    have wg := hw.grow gg
    have c0 := zBU (k := .u64) (k' := .i64) zC4 (n := l.length)
    have hSg : ∀ A, g.next ≤ A → S A := fun A hA => hS A (by omega)
    have hSb : ∀ A, g.next ≤ A → S A ∧ A ≠ h.next := fun A hA => ⟨hSg A hA, by omega⟩
    have wg' : WrS g W (fun A => S A ∧ A ≠ h.next) b := by
      obtain ⟨sw, u, vw, ow⟩ := hw
      refine ⟨⟨sw, fun e => ?_⟩, u, vw.grow gg, ?_⟩
      · have := vw.1
        omega
      · refine (ow.bound.grow gg).mono fun A hB => ⟨⟨hB.1.1, ?_⟩, hB.1.2⟩
        have := hB.2
        omega
    obtain ⟨h1, e1, w1, k1⟩ := zDq T.wire wg' hSb l.length 1 (by omega) (by decide) (by omega)
    have e1 : cfi pr 66 [.pointer (some ⟨W, 0, none⟩), uw .u64 l.length, .int .i64 1] g = some (.tuple #[], h1) := e1
    have v1 := v0.keep k1 (fun q => q.2 rfl)
    have l1 : ∀ sp, h1.load ⟨h.next, 0, sp⟩ = some (.slice a l.length cap) := fun sp => v1.load
    have hS0' : ∀ A, A < h0.next → ¬ (S A ∧ A ≠ h.next) := fun A hA q => hS0 A hA q.1
    (repeat (first | refine zS ?_ | refine zL ?_ | refine zR ?_ | refine zE ?_ | refine zC ?_ | refine zJ ?_ | refine zK ?_ | refine zP ?_ | refine zF ?_ | refine zH ?_ | refine zG ?_ | refine zI (by decide) ?_ | refine zQ ?_ | ((first | refine zD ?_ | refine zN ?_ | refine zT rfl rfl ?_ | refine zO rfl ?_ | refine zM ?_); simp only [yq52.down, zA, lemS.down, lemC.down, Int.reduceBEq, Nat.reduceAdd, Nat.reduceLeDiff, reduceIte, Nat.reduceEqDiff, Int.reduceLT, Int.reduceLE, Int.reduceGT, Int.reduceGE, Int.reduceEq, Int.reduceAdd, Int.reduceSub, Int.reduceMul, reduceCtorEq, lemH.down, zCG, hgx, l0, Nat.add_zero, c0, e1, l1])))
    refine zo (fun m t g' => ∃ i, m = l.length - i ∧ i ≤ l.length ∧ WrS g' W (fun A => S A ∧ A ≠ h.next) (b ++ numB l.length 1 ++ zA5 (l.take i)) ∧ Keeps (fun A => S A ∧ A ≠ h.next) g g' ∧ t.get 0 = .pointer (some ⟨W, 0, none⟩) ∧ t.get 13 = .slice a l.length cap ∧ t.get 14 = .int .i64 (l.length : Int) ∧ t.get 15 = .int .i64 (i : Int)) ?_ l.length _ _ ⟨0, rfl, by omega, by simpa [zA5] using w1, k1, by simp only [yq52.down, zA, lemS.down, lemC.down, Int.reduceBEq, Nat.reduceAdd, Nat.reduceLeDiff, reduceIte, Nat.reduceEqDiff, Int.reduceLT, Int.reduceLE, Int.reduceGT, Int.reduceGE, Int.reduceEq, Int.reduceAdd, Int.reduceSub, Int.reduceMul, reduceCtorEq], by simp only [yq52.down, zA, lemS.down, lemC.down, Int.reduceBEq, Nat.reduceAdd, Nat.reduceLeDiff, reduceIte, Nat.reduceEqDiff, Int.reduceLT, Int.reduceLE, Int.reduceGT, Int.reduceGE, Int.reduceEq, Int.reduceAdd, Int.reduceSub, Int.reduceMul, reduceCtorEq], by simp only [yq52.down, zA, lemS.down, lemC.down, Int.reduceBEq, Nat.reduceAdd, Nat.reduceLeDiff, reduceIte, Nat.reduceEqDiff, Int.reduceLT, Int.reduceLE, Int.reduceGT, Int.reduceGE, Int.reduceEq, Int.reduceAdd, Int.reduceSub, Int.reduceMul, reduceCtorEq], by (simp only [yq52.down, zA, lemS.down, lemC.down, Int.reduceBEq, Nat.reduceAdd, Nat.reduceLeDiff, reduceIte, Nat.reduceEqDiff, Int.reduceLT, Int.reduceLE, Int.reduceGT, Int.reduceGE, Int.reduceEq, Int.reduceAdd, Int.reduceSub, Int.reduceMul, reduceCtorEq]) <;> rfl⟩
    rintro m t g' ⟨i, rfl, hi, gw, gk, t0, t13, t14, t15⟩ hnext
    refine xq52_8k ?_
    dsimp only [zH4]
    (repeat (first | refine zS ?_ | refine zL ?_ | refine zR ?_ | refine zE ?_ | refine zC ?_ | refine zJ ?_ | refine zK ?_ | refine zP ?_ | refine zF ?_ | refine zH ?_ | refine zG ?_ | refine zI (by decide) ?_ | refine zQ ?_ | ((first | refine zD ?_ | refine zN ?_ | refine zT rfl rfl ?_ | refine zO rfl ?_ | refine zM ?_); simp only [yq52.down, zA, lemS.down, lemC.down, Int.reduceBEq, Nat.reduceAdd, Nat.reduceLeDiff, reduceIte, Nat.reduceEqDiff, Int.reduceLT, Int.reduceLE, Int.reduceGT, Int.reduceGE, Int.reduceEq, Int.reduceAdd, Int.reduceSub, Int.reduceMul, reduceCtorEq, lemH.down, t0, t13, t14, t15])))
    refine ⟨fun hlt => ?_, fun hge => ?_⟩
    · have hi' : i < l.length := by omega
      have hgg : Grows h0 g' := (hg.trans gg).then gk hS0'
      obtain ⟨B, o, ia, ld⟩ := (hr.grow hgg).elim hi'
      have ld := (ld g' (Grows.refl _)).1
      have ww : IntKind.i64.wrap ((i : Int) + 1) = ((i + 1 : Nat) : Int) := by rw [wrap_i64 (by omega) (by omega)]; omega
      have cm := zF5 (l.getD i (0, [])).1
      have hlen : (b ++ numB l.length 1 ++ zA5 (l.take i)).length + 8 ≤ zU := by
        simp only [List.length_append, zAQ, zF2, List.length_take]; omega
      obtain ⟨q2, g2, a2, st2, v2, gg2, n2⟩ := zDh (g := g') (r := (l.getD i (0, [])).1) (t := (l.getD i (0, [])).2)
      have st2 : zu q2 2 (.pointer (some ⟨g'.next, 0, none⟩)) (.agg [.int .i64 (l.getD i (0, [])).1, .string (zB (l.getD i (0, [])).2)].toArray) = some (.tuple #[], g2) := st2
      have la : ∀ sp, g2.load ⟨g'.next, 0, sp⟩ = some (.int .i64 (l.getD i (0, [])).1) := fun sp => v2.load
      have hnW : g'.next ≠ W := by
        obtain ⟨_, u, vw, _⟩ := gw
        have := vw.1
        omega
      have gw2 : WrS g2 W (fun A => (S A ∧ A ≠ h.next) ∧ A ≠ g'.next) (b ++ numB l.length 1 ++ zA5 (l.take i)) := by
        obtain ⟨sw, u, vw, ow⟩ := gw
        refine ⟨⟨sw, fun e => hnW e.symm⟩, u, vw.grow gg2, ?_⟩
        refine (ow.bound.grow gg2).mono fun A hB => ⟨⟨hB.1.1, ?_⟩, hB.1.2⟩
        have := hB.2
        omega
      have kn := gk.next
      have hS2 : ∀ A, g2.next ≤ A → (S A ∧ A ≠ h.next) ∧ A ≠ g'.next := fun A hA => ⟨hSb A (by omega), by omega⟩
      obtain ⟨g3, e3, w3, k3⟩ := zDq T.wire gw2 hS2 (w64 (l.getD i (0, [])).1) 1 (zFW _) (by decide) hlen
      have e3 : cfi pr 66 [.pointer (some ⟨W, 0, none⟩), uw .u64 (w64 (l.getD i (0, [])).1), .int .i64 1] g2 = some (.tuple #[], g3) := e3
      have v3 := v2.keep k3 (fun q => q.2 rfl)
      have lb : ∀ sp, g3.load ⟨g'.next, 1, sp⟩ = some (.string (zB (l.getD i (0, [])).2)) := fun sp => v3.load
      obtain ⟨g4, e4, w4, k4⟩ := zEi T.wire w3 (fun A hA => hS2 A (Nat.le_trans k3.next hA)) (l.getD i (0, [])).2 (by
        simp only [List.length_append, zAQ, zF2, List.length_take]; omega)
      (repeat (first | refine zS ?_ | refine zL ?_ | refine zR ?_ | refine zE ?_ | refine zC ?_ | refine zJ ?_ | refine zK ?_ | refine zP ?_ | refine zF ?_ | refine zH ?_ | refine zG ?_ | refine zI (by decide) ?_ | refine zQ ?_ | ((first | refine zD ?_ | refine zN ?_ | refine zT rfl rfl ?_ | refine zO rfl ?_ | refine zM ?_); simp only [yq52.down, zA, lemS.down, lemC.down, Int.reduceBEq, Nat.reduceAdd, Nat.reduceLeDiff, reduceIte, Nat.reduceEqDiff, Int.reduceLT, Int.reduceLE, Int.reduceGT, Int.reduceGE, Int.reduceEq, Int.reduceAdd, Int.reduceSub, Int.reduceMul, reduceCtorEq, lemH.down, t0, t13, t14, t15, zAG, ia, ld, a2, st2, la, Nat.add_zero, cm, e3, lb, e4, ww])))
      refine hnext (l.length - (i + 1)) _ g4 (by omega) ⟨i + 1, rfl, by omega, ?_, ?_, by simp only [yq52.down, zA, lemS.down, lemC.down, Int.reduceBEq, Nat.reduceAdd, Nat.reduceLeDiff, reduceIte, Nat.reduceEqDiff, Int.reduceLT, Int.reduceLE, Int.reduceGT, Int.reduceGE, Int.reduceEq, Int.reduceAdd, Int.reduceSub, Int.reduceMul, reduceCtorEq, t0], by simp only [yq52.down, zA, lemS.down, lemC.down, Int.reduceBEq, Nat.reduceAdd, Nat.reduceLeDiff, reduceIte, Nat.reduceEqDiff, Int.reduceLT, Int.reduceLE, Int.reduceGT, Int.reduceGE, Int.reduceEq, Int.reduceAdd, Int.reduceSub, Int.reduceMul, reduceCtorEq, t13], by simp only [yq52.down, zA, lemS.down, lemC.down, Int.reduceBEq, Nat.reduceAdd, Nat.reduceLeDiff, reduceIte, Nat.reduceEqDiff, Int.reduceLT, Int.reduceLE, Int.reduceGT, Int.reduceGE, Int.reduceEq, Int.reduceAdd, Int.reduceSub, Int.reduceMul, reduceCtorEq, t14], by simp only [yq52.down, zA, lemS.down, lemC.down, Int.reduceBEq, Nat.reduceAdd, Nat.reduceLeDiff, reduceIte, Nat.reduceEqDiff, Int.reduceLT, Int.reduceLE, Int.reduceGT, Int.reduceGE, Int.reduceEq, Int.reduceAdd, Int.reduceSub, Int.reduceMul, reduceCtorEq]⟩
      · rw [zU6 hi', ← List.append_assoc, ← List.append_assoc]
        exact w4.mono fun A _ hA => hA.1
      · have k23 : Keeps (fun A => (S A ∧ A ≠ h.next) ∧ A ≠ g'.next) g' g4 := (gg2.keeps.trans k3 (fun _ _ q => q)).trans k4 (fun _ _ q => q)
        exact gk.trans (k23.mono fun A _ q => q.1) (fun _ _ q => q)
    · obtain rfl : i = l.length := by omega
      (repeat (first | refine zS ?_ | refine zL ?_ | refine zR ?_ | refine zE ?_ | refine zC ?_ | refine zJ ?_ | refine zK ?_ | refine zP ?_ | refine zF ?_ | refine zH ?_ | refine zG ?_ | refine zI (by decide) ?_ | refine zQ ?_ | ((first | refine zD ?_ | refine zN ?_ | refine zT rfl rfl ?_ | refine zO rfl ?_ | refine zM ?_); simp only [yq52.down, zA, lemS.down, lemC.down, Int.reduceBEq, Nat.reduceAdd, Nat.reduceLeDiff, reduceIte, Nat.reduceEqDiff, Int.reduceLT, Int.reduceLE, Int.reduceGT, Int.reduceGE, Int.reduceEq, Int.reduceAdd, Int.reduceSub, Int.reduceMul, reduceCtorEq, lemH.down, t0, t13, t14, t15])))
      refine ⟨.inl rfl, _, rfl, rfl, ?_, ?_⟩
      · rw [List.take_length, List.append_assoc] at gw
        exact gw.mono fun A _ hA => hA.1
      · exact (gg.keeps (W := S)).trans (gk.mono fun A _ q => q.1) (fun _ _ q => q)
  obtain ⟨w, h', e, rfl, r⟩ := this
  exact ⟨h', e, r⟩
end Go.X
end
section
open Go Go.X
namespace Go.X
set_option linter.unusedVariables false
end Go.X
end
section
open Go Go.X
namespace Go.X
set_option linter.unusedVariables false
structure TakeTab (pr : Prog) : Prop where
  wire : zBi pr
  take : pr.prim 55 = none
  takeC : pr.code 55 = some xq55
end Go.X
end
section
open Go Go.X
namespace Go.X
set_option linter.unusedVariables false
structure Law17c (pr : Prog) : Prop where
  b : Law17b pr
  put : PutTab pr
  take : TakeTab pr
theorem addT_end {l : TagL} {q : Int × List UInt8} (h : ∀ y ∈ l, y.1 < q.1) : addT l q = l ++ [q] := by
  have hp : zAM l q.1 = l.length := zJ4 (Nat.le_refl _) (fun k hk => h _ (by rw [zED hk]; exact List.getElem_mem hk)) (fun q => absurd q (Nat.lt_irrefl _))
  have hi : isT l q.1 = false := by
    unfold isT
    rw [hp]
    simp
  unfold addT
  rw [hi, hp]
  simp
theorem zXJ (x : Hdr) (l m : List Int) : zz x (l ++ m) = zz x l ++ zz x m := by simp [zz]
theorem zKj {l : List Int} {i : Nat} (hi : i < l.length) : l.take (i + 1) = l.take i ++ [l.getD i 0] := by
  rw [List.take_succ_eq_append_getElem hi, List.getD_eq_getElem?_getD, List.getElem?_eq_getElem hi]
  rfl
theorem Few.take {l : List Int} (h : Few l) (j : Nat) : Few (l.take j) := ⟨h.1.take, fun x hx => h.2 x (List.mem_of_mem_take hx)⟩
theorem Few.take_lt {l : List Int} (h : Few l) {j : Nat} (hj : j < l.length) : ∀ y ∈ l.take j, y < l.getD j 0 := by
  have := (h.take (j + 1)).1
  rw [zKj hj] at this
  exact fun y hy => (List.pairwise_append.1 this).2.2 y hy _ (List.mem_singleton.2 rfl)
theorem add_up {x : Hdr} {l : List Int} (h : Few l) {j : Nat} (hj : j < l.length) {t : List UInt8} (ht : t = tagC (l.getD j 0).toNat x) : addT (zz x (l.take j)) (l.getD j 0, t) = zz x (l.take (j + 1)) := by
  rw [zKj hj, zXJ, ht]
  refine addT_end fun y hy => ?_
  unfold zz at hy
  rw [List.mem_map] at hy
  obtain ⟨i, hi, rfl⟩ := hy
  exact h.take_lt hj i hi
end Go.X
end
section
open Go Go.X Go.Proofs Go.RowKit
namespace Go.X
set_option linter.unusedVariables false
theorem zGS : Law17c (Tab Try.prog U21) := ⟨lawbU21, ⟨headU21.wire, rfl, zW Try.func52 cq52⟩, ⟨headU21.wire, rfl, zW Try.func55 cq55⟩⟩
end Go.X
end
