/- Certificates put and taken; the statement of their bytes. -/
import Derived.Test.YtmhkcnibbodjnaaXN
import Derived.Test.YtmhkcnibbodjnaaXS
set_option linter.unusedSimpArgs false
set_option linter.unusedVariables false
set_option maxHeartbeats 2000000
section
open Go Go.X
namespace Go.X
set_option linter.unusedVariables false
structure PutTab (pr : Prog) : Prop where
  wire : zAs pr
  put : pr.prim 52 = none
  putC : pr.code 52 = some xq52
def zy (l : TagL) : List UInt8 := l.flatMap fun q => numB (w64 q.1) 1 ++ zAD q.2
def zAK (l : TagL) : List UInt8 := numB l.length 1 ++ zy l
theorem zEv (l : TagL) : (zy l).length = l.length * 33 := by
  induction l with
  | nil => rfl
  | cons x l ih => unfold zy at ih ⊢; simp only [List.flatMap_cons, List.length_append, zAB, zBh, ih, List.length_cons]; omega
theorem zEu (l m : TagL) : zy (l ++ m) = zy l ++ zy m := by simp [zy]
theorem zWN {l : TagL} {i : Nat} (hi : i < l.length) : zy (l.take (i + 1)) = zy (l.take i) ++ numB (w64 (l.getD i (0, [])).1) 1 ++ zAD (l.getD i (0, [])).2 := by
  rw [List.take_succ_eq_append_getElem hi, zEu, List.getD_eq_getElem?_getD, List.getElem?_eq_getElem hi, List.append_assoc]
  simp [zy]
theorem zF6 (l : TagL) : (zAK l).length = 1 + l.length * 33 := by simp [zAK, zAB, zEv]
theorem zFm {pr : Prog} (T : PutTab pr) {h0 h : Heap} (hg : Grows h0 h) {W : Nat} {S : Nat → Prop} {b : List UInt8} (hS0 : ∀ A, A < h0.next → ¬ S A) (hw : WrS h W S b) (hS : ∀ A, h.next ≤ A → S A) {v : Value} {l : TagL} (hr : RdTags h0 v l) (hl : l.length ≤ 1000000) (hroom : b.length + 40000000 ≤ zU) :
    ∃ h', cfi pr 52 [.pointer (some ⟨W, 0, none⟩), .agg [v].toArray] h = some (.tuple #[], h') ∧ WrS h' W S (b ++ zAK l) ∧ Keeps S h h' := by
  have hr64 : zU = 140737488355328 := rfl
  have : ∃ w h', cfi pr 52 [.pointer (some ⟨W, 0, none⟩), .agg [v].toArray] h = some (w, h') ∧ w = .tuple #[] ∧ WrS h' W S (b ++ zAK l) ∧ Keeps S h h' := by
    refine zAS T.put T.putC rfl ?_
    unfold xq52
    dsimp only [zc]
    refine wpk.out (k := []) ?_
    obtain ⟨_, a, cap, rfl, _⟩ := zBb hr.now
    obtain ⟨g, hgx, v0, gg, gn⟩ := box1 (h := h) (v := .slice a l.length cap) rfl
    have l0 : ∀ sp, g.load ⟨h.next, 0, sp⟩ = some (.slice a l.length cap) := fun sp => v0.load
    have wg := hw.grow gg
    have c0 := zBK (k := .u64) (k' := .i64) zCF (n := l.length)
    have hSg : ∀ A, g.next ≤ A → S A := fun A hA => hS A (by omega)
    have hSb : ∀ A, g.next ≤ A → S A ∧ A ≠ h.next := fun A hA => ⟨hSg A hA, by omega⟩
    have wg' : WrS g W (fun A => S A ∧ A ≠ h.next) b := by
      obtain ⟨sw, u, vw, ow⟩ := hw
      refine ⟨⟨sw, fun e => ?_⟩, u, vw.grow gg, ?_⟩
      · have := vw.1
        omega
      · refine (ow.bound.grow gg).mono fun A hB => ⟨⟨hB.1.1, ?_⟩, hB.1.2⟩
        have := hB.2
        omega
    obtain ⟨h1, e1, w1, k1⟩ := zDu T.wire wg' hSb l.length 1 (by omega) (by decide) (by omega)
    have e1 : cfi pr 66 [.pointer (some ⟨W, 0, none⟩), uw .u64 l.length, .int .i64 1] g = some (.tuple #[], h1) := e1
    have v1 := v0.keep k1 (fun q => q.2 rfl)
    have l1 : ∀ sp, h1.load ⟨h.next, 0, sp⟩ = some (.slice a l.length cap) := fun sp => v1.load
    have hS0' : ∀ A, A < h0.next → ¬ (S A ∧ A ≠ h.next) := fun A hA q => hS0 A hA q.1
    (repeat (first | refine zS ?_ | refine zL ?_ | refine zR ?_ | refine zE ?_ | refine zC ?_ | refine zJ ?_ | refine zK ?_ | refine zP ?_ | refine zF ?_ | refine zH ?_ | refine zG ?_ | refine zI (by decide) ?_ | refine zQ ?_ | ((first | refine zD ?_ | refine zN ?_ | refine zT rfl rfl ?_ | refine zO rfl ?_ | refine zM ?_); simp only [yq52.down, zA, lemS.down, lemC.down, Int.reduceBEq, Nat.reduceAdd, Nat.reduceLeDiff, reduceIte, Nat.reduceEqDiff, Int.reduceLT, Int.reduceLE, Int.reduceGT, Int.reduceGE, Int.reduceEq, Int.reduceAdd, Int.reduceSub, Int.reduceMul, reduceCtorEq, lemH.down, zCO, hgx, l0, Nat.add_zero, c0, e1, l1])))
    refine zr (fun m t g' => ∃ i, m = l.length - i ∧ i ≤ l.length ∧ WrS g' W (fun A => S A ∧ A ≠ h.next) (b ++ numB l.length 1 ++ zy (l.take i)) ∧ Keeps (fun A => S A ∧ A ≠ h.next) g g' ∧ t.get 0 = .pointer (some ⟨W, 0, none⟩) ∧ t.get 13 = .slice a l.length cap ∧ t.get 14 = .int .i64 (l.length : Int) ∧ t.get 15 = .int .i64 (i : Int)) ?_ l.length _ _ ⟨0, rfl, by omega, by simpa [zy] using w1, k1, by simp only [yq52.down, zA, lemS.down, lemC.down, Int.reduceBEq, Nat.reduceAdd, Nat.reduceLeDiff, reduceIte, Nat.reduceEqDiff, Int.reduceLT, Int.reduceLE, Int.reduceGT, Int.reduceGE, Int.reduceEq, Int.reduceAdd, Int.reduceSub, Int.reduceMul, reduceCtorEq], by simp only [yq52.down, zA, lemS.down, lemC.down, Int.reduceBEq, Nat.reduceAdd, Nat.reduceLeDiff, reduceIte, Nat.reduceEqDiff, Int.reduceLT, Int.reduceLE, Int.reduceGT, Int.reduceGE, Int.reduceEq, Int.reduceAdd, Int.reduceSub, Int.reduceMul, reduceCtorEq], by simp only [yq52.down, zA, lemS.down, lemC.down, Int.reduceBEq, Nat.reduceAdd, Nat.reduceLeDiff, reduceIte, Nat.reduceEqDiff, Int.reduceLT, Int.reduceLE, Int.reduceGT, Int.reduceGE, Int.reduceEq, Int.reduceAdd, Int.reduceSub, Int.reduceMul, reduceCtorEq], by (simp only [yq52.down, zA, lemS.down, lemC.down, Int.reduceBEq, Nat.reduceAdd, Nat.reduceLeDiff, reduceIte, Nat.reduceEqDiff, Int.reduceLT, Int.reduceLE, Int.reduceGT, Int.reduceGE, Int.reduceEq, Int.reduceAdd, Int.reduceSub, Int.reduceMul, reduceCtorEq]) <;> rfl⟩
    rintro m t g' ⟨i, rfl, hi, gw, gk, t0, t13, t14, t15⟩ hnext
    refine xq52_8k ?_
    dsimp only [zH8]
    (repeat (first | refine zS ?_ | refine zL ?_ | refine zR ?_ | refine zE ?_ | refine zC ?_ | refine zJ ?_ | refine zK ?_ | refine zP ?_ | refine zF ?_ | refine zH ?_ | refine zG ?_ | refine zI (by decide) ?_ | refine zQ ?_ | ((first | refine zD ?_ | refine zN ?_ | refine zT rfl rfl ?_ | refine zO rfl ?_ | refine zM ?_); simp only [yq52.down, zA, lemS.down, lemC.down, Int.reduceBEq, Nat.reduceAdd, Nat.reduceLeDiff, reduceIte, Nat.reduceEqDiff, Int.reduceLT, Int.reduceLE, Int.reduceGT, Int.reduceGE, Int.reduceEq, Int.reduceAdd, Int.reduceSub, Int.reduceMul, reduceCtorEq, lemH.down, t0, t13, t14, t15])))
    refine ⟨fun hlt => ?_, fun hge => ?_⟩
    · have hi' : i < l.length := by omega
      have hgg : Grows h0 g' := (hg.trans gg).then gk hS0'
      obtain ⟨B, o, ia, ld⟩ := (hr.grow hgg).elim hi'
      have ld := (ld g' (Grows.refl _)).1
      have ww : IntKind.i64.wrap ((i : Int) + 1) = ((i + 1 : Nat) : Int) := by rw [wrap_i64 (by omega) (by omega)]; omega
      have cm := zF9 (l.getD i (0, [])).1
      have hlen : (b ++ numB l.length 1 ++ zy (l.take i)).length + 8 ≤ zU := by
        simp only [List.length_append, zAB, zEv, List.length_take]; omega
      obtain ⟨q2, g2, a2, st2, v2, gg2, n2⟩ := zEb (g := g') (r := (l.getD i (0, [])).1) (t := (l.getD i (0, [])).2)
      have st2 : zx q2 2 (.pointer (some ⟨g'.next, 0, none⟩)) (.agg [.int .i64 (l.getD i (0, [])).1, .string (zB (l.getD i (0, [])).2)].toArray) = some (.tuple #[], g2) := st2
      have la : ∀ sp, g2.load ⟨g'.next, 0, sp⟩ = some (.int .i64 (l.getD i (0, [])).1) := fun sp => v2.load
      have hnW : g'.next ≠ W := by
        obtain ⟨_, u, vw, _⟩ := gw
        have := vw.1
        omega
      have gw2 : WrS g2 W (fun A => (S A ∧ A ≠ h.next) ∧ A ≠ g'.next) (b ++ numB l.length 1 ++ zy (l.take i)) := by
        obtain ⟨sw, u, vw, ow⟩ := gw
        refine ⟨⟨sw, fun e => hnW e.symm⟩, u, vw.grow gg2, ?_⟩
        refine (ow.bound.grow gg2).mono fun A hB => ⟨⟨hB.1.1, ?_⟩, hB.1.2⟩
        have := hB.2
        omega
      have kn := gk.next
      have hS2 : ∀ A, g2.next ≤ A → (S A ∧ A ≠ h.next) ∧ A ≠ g'.next := fun A hA => ⟨hSb A (by omega), by omega⟩
      obtain ⟨g3, e3, w3, k3⟩ := zDu T.wire gw2 hS2 (w64 (l.getD i (0, [])).1) 1 (zFe _) (by decide) hlen
      have e3 : cfi pr 66 [.pointer (some ⟨W, 0, none⟩), uw .u64 (w64 (l.getD i (0, [])).1), .int .i64 1] g2 = some (.tuple #[], g3) := e3
      have v3 := v2.keep k3 (fun q => q.2 rfl)
      have lb : ∀ sp, g3.load ⟨g'.next, 1, sp⟩ = some (.string (zB (l.getD i (0, [])).2)) := fun sp => v3.load
      obtain ⟨g4, e4, w4, k4⟩ := zEl T.wire w3 (fun A hA => hS2 A (Nat.le_trans k3.next hA)) (l.getD i (0, [])).2 (by
        simp only [List.length_append, zAB, zEv, List.length_take]; omega)
      (repeat (first | refine zS ?_ | refine zL ?_ | refine zR ?_ | refine zE ?_ | refine zC ?_ | refine zJ ?_ | refine zK ?_ | refine zP ?_ | refine zF ?_ | refine zH ?_ | refine zG ?_ | refine zI (by decide) ?_ | refine zQ ?_ | ((first | refine zD ?_ | refine zN ?_ | refine zT rfl rfl ?_ | refine zO rfl ?_ | refine zM ?_); simp only [yq52.down, zA, lemS.down, lemC.down, Int.reduceBEq, Nat.reduceAdd, Nat.reduceLeDiff, reduceIte, Nat.reduceEqDiff, Int.reduceLT, Int.reduceLE, Int.reduceGT, Int.reduceGE, Int.reduceEq, Int.reduceAdd, Int.reduceSub, Int.reduceMul, reduceCtorEq, lemH.down, t0, t13, t14, t15, zAE, ia, ld, a2, st2, la, Nat.add_zero, cm, e3, lb, e4, ww])))
      refine hnext (l.length - (i + 1)) _ g4 (by omega) ⟨i + 1, rfl, by omega, ?_, ?_, by simp only [yq52.down, zA, lemS.down, lemC.down, Int.reduceBEq, Nat.reduceAdd, Nat.reduceLeDiff, reduceIte, Nat.reduceEqDiff, Int.reduceLT, Int.reduceLE, Int.reduceGT, Int.reduceGE, Int.reduceEq, Int.reduceAdd, Int.reduceSub, Int.reduceMul, reduceCtorEq, t0], by simp only [yq52.down, zA, lemS.down, lemC.down, Int.reduceBEq, Nat.reduceAdd, Nat.reduceLeDiff, reduceIte, Nat.reduceEqDiff, Int.reduceLT, Int.reduceLE, Int.reduceGT, Int.reduceGE, Int.reduceEq, Int.reduceAdd, Int.reduceSub, Int.reduceMul, reduceCtorEq, t13], by simp only [yq52.down, zA, lemS.down, lemC.down, Int.reduceBEq, Nat.reduceAdd, Nat.reduceLeDiff, reduceIte, Nat.reduceEqDiff, Int.reduceLT, Int.reduceLE, Int.reduceGT, Int.reduceGE, Int.reduceEq, Int.reduceAdd, Int.reduceSub, Int.reduceMul, reduceCtorEq, t14], by simp only [yq52.down, zA, lemS.down, lemC.down, Int.reduceBEq, Nat.reduceAdd, Nat.reduceLeDiff, reduceIte, Nat.reduceEqDiff, Int.reduceLT, Int.reduceLE, Int.reduceGT, Int.reduceGE, Int.reduceEq, Int.reduceAdd, Int.reduceSub, Int.reduceMul, reduceCtorEq]⟩
      · rw [zWN hi', ← List.append_assoc, ← List.append_assoc]
        exact w4.mono fun A _ hA => hA.1
      · have k23 : Keeps (fun A => (S A ∧ A ≠ h.next) ∧ A ≠ g'.next) g' g4 := (gg2.keeps.trans k3 (fun _ _ q => q)).trans k4 (fun _ _ q => q)
        exact gk.trans (k23.mono fun A _ q => q.1) (fun _ _ q => q)
    · obtain rfl : i = l.length := by omega
      (repeat (first | refine zS ?_ | refine zL ?_ | refine zR ?_ | refine zE ?_ | refine zC ?_ | refine zJ ?_ | refine zK ?_ | refine zP ?_ | refine zF ?_ | refine zH ?_ | refine zG ?_ | refine zI (by decide) ?_ | refine zQ ?_ | ((first | refine zD ?_ | refine zN ?_ | refine zT rfl rfl ?_ | refine zO rfl ?_ | refine zM ?_); simp only [yq52.down, zA, lemS.down, lemC.down, Int.reduceBEq, Nat.reduceAdd, Nat.reduceLeDiff, reduceIte, Nat.reduceEqDiff, Int.reduceLT, Int.reduceLE, Int.reduceGT, Int.reduceGE, Int.reduceEq, Int.reduceAdd, Int.reduceSub, Int.reduceMul, reduceCtorEq, lemH.down, t0, t13, t14, t15])))
      refine ⟨.inl rfl, _, rfl, rfl, ?_, ?_⟩
      · rw [List.take_length, List.append_assoc] at gw
        exact gw.mono fun A _ hA => hA.1
      · exact (gg.keeps (W := S)).trans (gk.mono fun A _ q => q.1) (fun _ _ q => q)
  obtain ⟨w, h', e, rfl, r⟩ := this
  exact ⟨h', e, r⟩
end Go.X
end
section
open Go Go.X
namespace Go.X
set_option linter.unusedVariables false
def tagR (r : RS) : RS × (Int × List UInt8) := ((ze (zg r 1).1 32).1, (((zg r 1).2 : Int), (ze (zg r 1).1 32).2))
def lastT (acc : TagL) : Int := (acc.getD (acc.length - 1) (0, [])).1
def badT (acc : TagL) (t : Int × List UInt8) : Bool := decide (t.1 ≥ 16) || (decide (0 < acc.length) && decide (lastT acc ≥ t.1))
def zBA (r : RS) (acc : TagL) : RS := if (tagR r).1.err = 0 ∧ badT acc (tagR r).2 = true then ⟨(tagR r).1.s, (tagR r).1.pos, 6⟩ else (tagR r).1
def zAT : Nat → RS → TagL → RS × TagL
  | 0, r, acc => (r, acc)
  | n + 1, r, acc => if r.err = 0 then zAT n (zBA r acc) (acc ++ [(tagR r).2]) else (r, acc)
def zD8 (p : RS × TagL) : RS × TagL := (p.1, if p.1.err = 0 then p.2 else [])
def zt (r : RS) : RS × TagL := zD8 (zAT (zg r 1).2 (zg r 1).1 [])
theorem tagR_s (r : RS) : (tagR r).1.s = r.s := by unfold tagR; rw [zJB, zKB]
theorem zJ8 (r : RS) (acc : TagL) : (zBA r acc).s = r.s := by
  unfold zBA
  split
  · exact tagR_s r
  · exact tagR_s r
theorem zJ2 : ∀ (n : Nat) (r : RS) (acc : TagL), (zAT n r acc).1.s = r.s
  | 0, _, _ => rfl
  | n + 1, r, acc => by
    unfold zAT
    split
    · rw [zJ2 n, zJ8]
    · rfl
theorem zEO (r : RS) : (zg r 1).2 < 256 := zXk r (by decide)
theorem zYb (r : RS) : 0 ≤ (tagR r).2.1 ∧ (tagR r).2.1 < 256 := by
  have := zEO r
  show (0 : Int) ≤ ((zg r 1).2 : Int) ∧ ((zg r 1).2 : Int) < 256
  omega
theorem zFw {r : RS} {n : Nat} (h : (ze r n).1.err = 0) : r.err = 0 ∧ r.pos + n ≤ r.s.length ∧ (ze r n).1 = ⟨r.s, r.pos + n, 0⟩ ∧ (ze r n).2 = (r.s.drop r.pos).take n := by
  unfold ze at h ⊢
  split at h
  · rename_i q
    exact absurd h q
  · rename_i q
    have q : r.err = 0 := by omega
    split at h
    · simp at h
    · split at h
      · simp at h
      · rename_i a b
        refine ⟨q, by omega, ?_, ?_⟩ <;> rw [if_neg (by omega), if_neg a, if_neg b]
        · rw [q]; rfl
        · rfl
theorem zKA (b : List UInt8) (h : b.length = 1) : numB (numV b) 1 = b := by rw [← h]; exact zXj b
theorem take_add {s : List UInt8} {p n : Nat} : s.take (p + n) = s.take p ++ (s.drop p).take n := by rw [List.take_add]
theorem zLF {n : Nat} (h : n < 18446744073709551616) : w64 (n : Int) = n := by unfold w64; omega
theorem zYa {r : RS} (h : (tagR r).1.err = 0) : r.err = 0 ∧ (tagR r).1.pos = r.pos + 33 ∧ r.pos + 33 ≤ r.s.length ∧ r.s.take (r.pos + 33) = r.s.take r.pos ++ zy [(tagR r).2] := by
  obtain ⟨h1, h2, h3, h4⟩ := zFw (r := (zg r 1).1) (n := 32) h
  have h1' : (ze r 1).1.err = 0 := h1
  obtain ⟨g1, g2, g3, g4⟩ := zFw (r := r) (n := 1) h1'
  have hs : (zg r 1).1 = ⟨r.s, r.pos + 1, 0⟩ := g3
  rw [hs] at h2 h3 h4
  have h2 : r.pos + 1 + 32 ≤ r.s.length := h2
  have e3 : (tagR r).1 = ⟨r.s, r.pos + 1 + 32, 0⟩ := by
    show (ze (zg r 1).1 32).1 = _
    rw [hs]
    exact h3
  have e4 : (tagR r).2.2 = (r.s.drop (r.pos + 1)).take 32 := by
    show (ze (zg r 1).1 32).2 = _
    rw [hs]
    exact h4
  refine ⟨g1, by rw [e3], by omega, ?_⟩
  have l1 : ((r.s.drop r.pos).take 1).length = 1 := by rw [List.length_take, List.length_drop]; omega
  have l2 : ((r.s.drop (r.pos + 1)).take 32).length = 32 := by rw [List.length_take, List.length_drop]; omega
  have hn := zEO r
  have e5 : numB (w64 (tagR r).2.1) 1 = (r.s.drop r.pos).take 1 := by
    show numB (w64 ((zg r 1).2 : Int)) 1 = _
    rw [zLF (by omega)]
    show numB (numV (ze r 1).2) 1 = _
    rw [show (ze r 1).2 = (r.s.drop r.pos).take 1 from g4]
    exact zKA _ l1
  have e6 : zy [(tagR r).2] = numB (w64 (tagR r).2.1) 1 ++ zAD (tagR r).2.2 := by simp [zy]
  rw [e6, e5, e4, zGP l2, ← List.append_assoc, ← take_add, show r.pos + 33 = r.pos + 1 + 32 by omega, ← take_add]
theorem zXg {r : RS} {acc : TagL} (h : (zBA r acc).err = 0) : zBA r acc = (tagR r).1 ∧ (tagR r).1.err = 0 ∧ badT acc (tagR r).2 = false := by
  unfold zBA at h ⊢
  split at h
  · simp at h
  · rename_i q
    refine ⟨if_neg q, h, ?_⟩
    cases hb : badT acc (tagR r).2
    · rfl
    · exact absurd ⟨h, hb⟩ q
theorem zGX {n : Nat} {r : RS} {acc : TagL} (h : (zAT n r acc).1.err = 0) : r.err = 0 := by
  cases n with
  | zero => exact h
  | succ n =>
    unfold zAT at h
    split at h
    · assumption
    · exact h
theorem zJ0 : ∀ (n : Nat) (r : RS) (acc : TagL), (zAT n r acc).1.err = 0 → ∃ m, (zAT n r acc).2 = acc ++ m ∧ m.length = n ∧ (zAT n r acc).1.pos = r.pos + n * 33 ∧ r.s.take (r.pos + n * 33) = r.s.take r.pos ++ zy m
  | 0, r, acc, _ => ⟨[], by simp [zAT], rfl, by simp [zAT], by simp [zy]⟩
  | n + 1, r, acc, h => by
    have q := zGX h
    unfold zAT at h ⊢
    rw [if_pos q] at h ⊢
    obtain ⟨a1, a2, a3⟩ := zXg (zGX h)
    obtain ⟨b1, b2, b3, b4⟩ := zYa a2
    obtain ⟨m, m1, m2, m3, m4⟩ := zJ0 n _ _ h
    rw [zJ8, a1, b2] at m4
    rw [a1, b2] at m3
    rw [a1] at m1
    rw [a1]
    refine ⟨(tagR r).2 :: m, by rw [m1]; simp, by rw [List.length_cons, m2], by rw [m3]; omega, ?_⟩
    have e : (tagR r).2 :: m = [(tagR r).2] ++ m := rfl
    rw [e, zEu, ← List.append_assoc, ← b4, ← m4]
    congr 1
    omega
theorem takeR_s (r : RS) : (zt r).1.s = r.s := by
  show (zAT (zg r 1).2 (zg r 1).1 []).1.s = _
  rw [zJ2, zKB]
theorem zYf {r : RS} (h : (zt r).1.err ≠ 0) : (zt r).2 = [] := if_neg h
theorem zYg {s : List UInt8} (h : (zt ⟨s, 0, 0⟩).1.err = 0) : s.take (zt ⟨s, 0, 0⟩).1.pos = zAK (zt ⟨s, 0, 0⟩).2 ∧ (zt ⟨s, 0, 0⟩).2.length < 256 := by
  have h1 : (zAT (zg ⟨s, 0, 0⟩ 1).2 (zg ⟨s, 0, 0⟩ 1).1 []).1.err = 0 := h
  have e2 : (zt ⟨s, 0, 0⟩).2 = (zAT (zg ⟨s, 0, 0⟩ 1).2 (zg ⟨s, 0, 0⟩ 1).1 []).2 := if_pos h1
  have e1 : (zt ⟨s, 0, 0⟩).1 = (zAT (zg ⟨s, 0, 0⟩ 1).2 (zg ⟨s, 0, 0⟩ 1).1 []).1 := rfl
  obtain ⟨g1, g2, g3, g4⟩ := zFw (r := ⟨s, 0, 0⟩) (n := 1) (zGX h1)
  have hs : (zg ⟨s, 0, 0⟩ 1).1 = ⟨s, 0 + 1, 0⟩ := g3
  have hn := zEO ⟨s, 0, 0⟩
  obtain ⟨m, m1, m2, m3, m4⟩ := zJ0 _ _ _ h1
  rw [e1, e2, m1, m3, hs, List.nil_append]
  rw [hs] at m4
  have m4 : s.take (0 + 1 + (zg ⟨s, 0, 0⟩ 1).2 * 33) = s.take (0 + 1) ++ zy m := m4
  refine ⟨?_, by rw [m2]; exact hn⟩
  show s.take (0 + 1 + (zg ⟨s, 0, 0⟩ 1).2 * 33) = _
  rw [m4]
  unfold zAK
  congr 1
  have l1 : ((s.drop 0).take 1).length = 1 := by
    have g2 : 0 + 1 ≤ s.length := g2
    rw [List.length_take, List.length_drop]
    omega
  rw [m2]
  have e5 : numB (numV (ze ⟨s, 0, 0⟩ 1).2) 1 = (s.drop 0).take 1 := by
    rw [show (ze ⟨s, 0, 0⟩ 1).2 = (s.drop 0).take 1 from g4]
    exact zKA _ l1
  exact e5.symm
def zDt (q : Int × List UInt8) : Prop := 0 ≤ q.1 ∧ q.1 < 16 ∧ q.2.length = 32
theorem tagR_fwd {s y : List UInt8} {p : Nat} {q : Int × List UInt8} (hq : zDt q) (hp : p ≤ s.length) (hd : s.drop p = zy [q] ++ y) : tagR ⟨s, p, 0⟩ = (⟨s, p + 33, 0⟩, q) ∧ p + 33 ≤ s.length ∧ s.drop (p + 33) = y := by
  obtain ⟨i, t⟩ := q
  obtain ⟨h0, h1, h2⟩ := hq
  have h2 : t.length = 32 := h2
  have h0 : 0 ≤ i := h0
  have h1 : i < 16 := h1
  have e0 : zy [(i, t)] = numB (w64 i) 1 ++ t := by simp [zy, zGP h2]
  rw [e0] at hd
  have hl := congrArg List.length hd
  simp only [List.length_drop, List.length_append, zAB] at hl
  have f1 := zFx (n := 1) (x := numB (w64 i) 1) (y := t ++ y) (by rw [hd, List.append_assoc]) (zAB _ _) hp
  have d1 : s.drop (p + 1) = t ++ y := by
    rw [← List.drop_drop, hd, List.append_assoc, List.drop_left' (zAB _ _)]
  have f2 := zFx (n := 32) (p := p + 1) (x := t) (y := y) d1 h2 (by omega)
  have n1 : zg ⟨s, p, 0⟩ 1 = (⟨s, p + 1, 0⟩, (w64 i)) := by
    unfold zg
    have f1 : ze ⟨s, p, 0⟩ ((1 : Nat) : Int) = _ := f1
    rw [f1]
    have : numV (numB (w64 i) 1) = w64 i := zGh 1 _ (by unfold w64; omega)
    rw [this]
  refine ⟨?_, by omega, ?_⟩
  · unfold tagR
    rw [n1]
    have f2 : ze ⟨s, p + 1, 0⟩ 32 = _ := f2
    show ((ze ⟨s, p + 1, 0⟩ 32).1, ((w64 i : Nat) : Int), (ze ⟨s, p + 1, 0⟩ 32).2) = _
    rw [f2]
    have : ((w64 i : Nat) : Int) = i := by unfold w64; omega
    rw [this]
  · rw [show p + 33 = p + 1 + 32 by omega, ← List.drop_drop, d1, List.drop_left' h2]
theorem zVy {acc : TagL} {q : Int × List UInt8} (hq : zDt q) (hs : zA4 (acc ++ [q])) : badT acc q = false := by
  unfold badT lastT
  have d1 : decide (q.1 ≥ 16) = false := decide_eq_false (by have := hq.2.1; omega)
  rw [d1, Bool.false_or]
  by_cases h0 : 0 < acc.length
  · have : decide ((acc.getD (acc.length - 1) (0, [])).1 ≥ q.1) = false := decide_eq_false (by
      have hm : acc.getD (acc.length - 1) (0, []) ∈ acc := by
        rw [zDP (by omega)]
        exact List.getElem_mem _
      have := (List.pairwise_append.1 hs).2.2 _ hm q (List.mem_singleton.2 rfl)
      omega)
    rw [this, Bool.and_false]
  · rw [decide_eq_false h0]
    rfl
theorem zJ1 {s y : List UInt8} : ∀ (m acc : TagL) (p : Nat), p ≤ s.length → s.drop p = zy m ++ y → zA4 (acc ++ m) → (∀ q ∈ m, zDt q) → zAT m.length ⟨s, p, 0⟩ acc = (⟨s, p + m.length * 33, 0⟩, acc ++ m)
  | [], acc, p, _, _, _, _ => by simp [zAT]
  | q :: m, acc, p, hp, hd, hs, hf => by
    have e : q :: m = [q] ++ m := rfl
    obtain ⟨t1, t2, t3⟩ := tagR_fwd (y := zy m ++ y) (hf q (by simp)) hp (by rw [hd, e, zEu, List.append_assoc])
    have hs' : zA4 (acc ++ [q] ++ m) := by rw [List.append_assoc]; exact hs
    have hb : badT acc q = false := zVy (hf q (by simp)) (List.pairwise_append.1 hs').1
    have hn : zBA ⟨s, p, 0⟩ acc = ⟨s, p + 33, 0⟩ := by
      unfold zBA
      rw [t1]
      rw [if_neg (by rw [hb]; simp)]
    rw [List.length_cons]
    unfold zAT
    rw [if_pos rfl, hn, t1, zJ1 m (acc ++ [q]) (p + 33) t2 t3 hs' (fun x hx => hf x (by simp [hx]))]
    rw [List.append_assoc]
    congr 2
    omega
theorem zYh {L : TagL} {y : List UInt8} (hs : zA4 L) (hf : ∀ q ∈ L, zDt q) (hl : L.length < 256) : zt ⟨zAK L ++ y, 0, 0⟩ = (⟨zAK L ++ y, (zAK L).length, 0⟩, L) := by
  have f1 := zFx (s := zAK L ++ y) (p := 0) (n := 1) (x := numB L.length 1) (y := zy L ++ y) (by simp [zAK]) (zAB _ _) (Nat.zero_le _)
  have n1 : zg ⟨zAK L ++ y, 0, 0⟩ 1 = (⟨zAK L ++ y, 0 + 1, 0⟩, L.length) := by
    unfold zg
    rw [f1, zGh 1 _ (by omega)]
  unfold zt
  rw [n1, zJ1 L [] (0 + 1) (by rw [List.length_append, zF6]; omega) (by
    unfold zAK
    rw [List.append_assoc, List.drop_left' (zAB _ _)]) (by simpa using hs) hf]
  unfold zD8
  rw [if_pos rfl, zF6, Nat.zero_add, List.nil_append]
end Go.X
end
section
open Go Go.X
namespace Go.X
set_option linter.unusedVariables false
structure zIk (pr : Prog) : Prop where
  wire : zAs pr
  take : pr.prim 55 = none
  takeC : pr.code 55 = some xq55
theorem zIl {pr : Prog} (T : zIk pr) {h : Heap} {R : Nat} {r : RS} (hr : Rd h R r) :
    ∃ v' h', cfi pr 55 [.pointer (some ⟨R, 0, none⟩)] h = some (.agg [v'].toArray, h') ∧ Rd h' R (zt r).1 ∧ Own h' (fun A => h.next ≤ A) 2 v' (zt r).2.length (zi (zt r).2) ∧ (∀ q ∈ (zt r).2, inI q.1) ∧ Keeps (fun A => A = R) h h' := by
  have hr64 : zU = 140737488355328 := rfl
  have : ∃ w h', cfi pr 55 [.pointer (some ⟨R, 0, none⟩)] h = some (w, h') ∧ ∃ v', w = .agg [v'].toArray ∧ Rd h' R (zt r).1 ∧ Own h' (fun A => h.next ≤ A) 2 v' (zt r).2.length (zi (zt r).2) ∧ (∀ q ∈ (zt r).2, inI q.1) ∧ Keeps (fun A => A = R) h h' := by
    refine zAS T.take T.takeC rfl ?_
    unfold xq55
    dsimp only [zc]
    refine wpk.out (k := []) ?_
    have hR : R < h.next := hr.2.1
    obtain ⟨ga, hga, va, gga, gna⟩ := box1 (h := h) (v := .slice none 0 0) rfl
    obtain ⟨gb, hgb, vb, ggb, gnb⟩ := box1 (h := ga) (v := .slice none 0 0) rfl
    rw [gna] at vb
    have va1 := va.grow ggb
    obtain ⟨gc, ec, rdc, kc⟩ := zIi T.wire (hr.grow (gga.trans ggb)) 1 (by decide)
    have hn0 := zEO r
    have eu : uw .u64 (zg r 1).2 = .int .u64 ((zg r 1).2 : Int) := (zBP (by omega)).symm
    rw [eu] at ec
    have ec : cfi pr 69 [.pointer (some ⟨R, 0, none⟩), .int .i64 1] gb = some (.int .u64 ((zg r 1).2 : Int), gc) := ec
    (repeat (first | refine zS ?_ | refine zL ?_ | refine zR ?_ | refine zE ?_ | refine zC ?_ | refine zJ ?_ | refine zK ?_ | refine zP ?_ | refine zF ?_ | refine zH ?_ | refine zG ?_ | refine zI (by decide) ?_ | refine zQ ?_ | ((first | refine zD ?_ | refine zN ?_ | refine zT rfl rfl ?_ | refine zO rfl ?_ | refine zM ?_); simp only [yq55.down, zA, lemS.down, lemC.down, Int.reduceBEq, Nat.reduceAdd, Nat.reduceLeDiff, reduceIte, Nat.reduceEqDiff, Int.reduceLT, Int.reduceLE, Int.reduceGT, Int.reduceGE, Int.reduceEq, Int.reduceAdd, Int.reduceSub, Int.reduceMul, reduceCtorEq, lemH.down, hga, gna, hgb, ec])))
    have va2 := va1.keep kc (fun q => by omega)
    have vb2 := vb.keep kc (fun q => by omega)
    have kkc : Keeps (fun A => A = R) h gc := (gga.trans ggb).keeps.trans kc (fun _ _ q => q)
    have ntc := kc.next
    refine zr (fun m t g => ∃ r2 acc v, m + acc.length ≤ 256 ∧ zAT m r2 acc = zAT (zg r 1).2 (zg r 1).1 [] ∧ Rd g R r2 ∧ Own g (fun A => h.next + 2 ≤ A) 2 v acc.length (zi acc) ∧ (∀ q ∈ acc, inI q.1) ∧ Var g h.next [.slice none 0 0] ∧ Var g (h.next + 1) [v] ∧ Keeps (fun A => A = R) h g ∧ h.next + 2 ≤ g.next ∧ t.get 0 = .pointer (some ⟨R, 0, none⟩) ∧ t.get 2 = .pointer (some ⟨h.next, 0, none⟩) ∧ t.get 3 = .pointer (some ⟨h.next + 1, 0, none⟩) ∧ t.get 4 = .int .u64 (m : Int)) ?_ (zg r 1).2 _ _
      ⟨_, [], _, by simp; omega, rfl, rdc, Own.nil, by simp, va2, vb2, kkc, by omega, by simp only [yq55.down, zA, lemS.down, lemC.down, Int.reduceBEq, Nat.reduceAdd, Nat.reduceLeDiff, reduceIte, Nat.reduceEqDiff, Int.reduceLT, Int.reduceLE, Int.reduceGT, Int.reduceGE, Int.reduceEq, Int.reduceAdd, Int.reduceSub, Int.reduceMul, reduceCtorEq], by simp only [yq55.down, zA, lemS.down, lemC.down, Int.reduceBEq, Nat.reduceAdd, Nat.reduceLeDiff, reduceIte, Nat.reduceEqDiff, Int.reduceLT, Int.reduceLE, Int.reduceGT, Int.reduceGE, Int.reduceEq, Int.reduceAdd, Int.reduceSub, Int.reduceMul, reduceCtorEq], by simp only [yq55.down, zA, lemS.down, lemC.down, Int.reduceBEq, Nat.reduceAdd, Nat.reduceLeDiff, reduceIte, Nat.reduceEqDiff, Int.reduceLT, Int.reduceLE, Int.reduceGT, Int.reduceGE, Int.reduceEq, Int.reduceAdd, Int.reduceSub, Int.reduceMul, reduceCtorEq], by simp only [yq55.down, zA, lemS.down, lemC.down, Int.reduceBEq, Nat.reduceAdd, Nat.reduceLeDiff, reduceIte, Nat.reduceEqDiff, Int.reduceLT, Int.reduceLE, Int.reduceGT, Int.reduceGE, Int.reduceEq, Int.reduceAdd, Int.reduceSub, Int.reduceMul, reduceCtorEq]⟩
    rintro m t g ⟨r2, acc, v, hm, hL, rd, oc, hin, va, vb, kk, gn, t0, t2, t3, t4⟩ hnext
    refine xq55_9k ?_
    dsimp only [zID]
    have er := zDF T.wire rd
    obtain ⟨av, cv, rfl, _⟩ := oc.shape
    cases m with
    | zero =>
      by_cases c0 : r2.err = 0
      · have b0 : ((r2.err : Int) == 0) = true := by rw [c0]; rfl
        have l3 : ∀ sp, g.loadN ⟨h.next + 1, 0, sp⟩ 1 = some [.slice av acc.length cv] := fun sp => vb.loadAll rfl
        have st : zx g 1 (.pointer (some ⟨h.next, 0, none⟩)) (.agg [.slice av acc.length cv].toArray) = some (.tuple #[], g.wr h.next [.slice av acc.length cv]) := va.storeAll rfl rfl (by decide) rfl
        (repeat (first | refine zS ?_ | refine zL ?_ | refine zR ?_ | refine zE ?_ | refine zC ?_ | refine zJ ?_ | refine zK ?_ | refine zP ?_ | refine zF ?_ | refine zH ?_ | refine zG ?_ | refine zI (by decide) ?_ | refine zQ ?_ | ((first | refine zD ?_ | refine zN ?_ | refine zT rfl rfl ?_ | refine zO rfl ?_ | refine zM ?_); simp only [yq55.down, zA, lemS.down, lemC.down, Int.reduceBEq, Nat.reduceAdd, Nat.reduceLeDiff, reduceIte, Nat.reduceEqDiff, Int.reduceLT, Int.reduceLE, Int.reduceGT, Int.reduceGE, Int.reduceEq, Int.reduceAdd, Int.reduceSub, Int.reduceMul, reduceCtorEq, lemH.down, t0, t2, t3, t4, zAI, er, b0, Bool.not_true, Bool.not_false, l3, st])))
        have eT : zt r = zD8 (r2, acc) := by unfold zt; rw [← hL]; rfl
        have e2 : (zt r).2 = acc := by rw [eT]; exact if_pos c0
        have e1 : (zt r).1 = r2 := by rw [eT]; rfl
        rw [e1, e2]
        exact ⟨.inr rfl, _, zCe (a := ⟨h.next, 0, none⟩) (by simp only [yq55.down, zA, lemS.down, lemC.down, Int.reduceBEq, Nat.reduceAdd, Nat.reduceLeDiff, reduceIte, Nat.reduceEqDiff, Int.reduceLT, Int.reduceLE, Int.reduceGT, Int.reduceGE, Int.reduceEq, Int.reduceAdd, Int.reduceSub, Int.reduceMul, reduceCtorEq, t2]) (va.wr.loadAll rfl), _, rfl, rd.keep Keeps.wr (by omega), (oc.keep Keeps.wr (fun A hA e => by omega)).mono (fun A hA => by omega), hin, kk.trans Keeps.wr (fun A hA e => by omega)⟩
      · have b0 : ((r2.err : Int) == 0) = false := by rw [beq_eq_false_iff_ne]; omega
        have st : zx g 1 (.pointer (some ⟨h.next, 0, none⟩)) (.agg [.slice none 0 0].toArray) = some (.tuple #[], g.wr h.next [.slice none 0 0]) := va.storeAll rfl rfl (by decide) rfl
        (repeat (first | refine zS ?_ | refine zL ?_ | refine zR ?_ | refine zE ?_ | refine zC ?_ | refine zJ ?_ | refine zK ?_ | refine zP ?_ | refine zF ?_ | refine zH ?_ | refine zG ?_ | refine zI (by decide) ?_ | refine zQ ?_ | ((first | refine zD ?_ | refine zN ?_ | refine zT rfl rfl ?_ | refine zO rfl ?_ | refine zM ?_); simp only [yq55.down, zA, lemS.down, lemC.down, Int.reduceBEq, Nat.reduceAdd, Nat.reduceLeDiff, reduceIte, Nat.reduceEqDiff, Int.reduceLT, Int.reduceLE, Int.reduceGT, Int.reduceGE, Int.reduceEq, Int.reduceAdd, Int.reduceSub, Int.reduceMul, reduceCtorEq, lemH.down, t0, t2, t3, t4, zAI, er, b0, Bool.not_true, Bool.not_false, zEE, st])))
        have eT : zt r = zD8 (r2, acc) := by unfold zt; rw [← hL]; rfl
        have e2 : (zt r).2 = [] := by rw [eT]; exact if_neg c0
        have e1 : (zt r).1 = r2 := by rw [eT]; rfl
        rw [e1, e2]
        exact ⟨.inr rfl, _, zCe (a := ⟨h.next, 0, none⟩) (by simp only [yq55.down, zA, lemS.down, lemC.down, Int.reduceBEq, Nat.reduceAdd, Nat.reduceLeDiff, reduceIte, Nat.reduceEqDiff, Int.reduceLT, Int.reduceLE, Int.reduceGT, Int.reduceGE, Int.reduceEq, Int.reduceAdd, Int.reduceSub, Int.reduceMul, reduceCtorEq, t2]) (va.wr.loadAll rfl), .slice none 0 0, rfl, rd.keep Keeps.wr (by omega), Own.nil, by simp, kk.trans Keeps.wr (fun A hA e => by omega)⟩
    | succ m =>
    have d0 : decide (((m + 1 : Nat) : Int) > 0) = true := decide_eq_true (by omega)
    by_cases c0 : r2.err = 0
    rotate_left
    · have b0 : ((r2.err : Int) == 0) = false := by rw [beq_eq_false_iff_ne]; omega
      have st : zx g 1 (.pointer (some ⟨h.next, 0, none⟩)) (.agg [.slice none 0 0].toArray) = some (.tuple #[], g.wr h.next [.slice none 0 0]) := va.storeAll rfl rfl (by decide) rfl
      (repeat (first | refine zS ?_ | refine zL ?_ | refine zR ?_ | refine zE ?_ | refine zC ?_ | refine zJ ?_ | refine zK ?_ | refine zP ?_ | refine zF ?_ | refine zH ?_ | refine zG ?_ | refine zI (by decide) ?_ | refine zQ ?_ | ((first | refine zD ?_ | refine zN ?_ | refine zT rfl rfl ?_ | refine zO rfl ?_ | refine zM ?_); simp only [yq55.down, zA, lemS.down, lemC.down, Int.reduceBEq, Nat.reduceAdd, Nat.reduceLeDiff, reduceIte, Nat.reduceEqDiff, Int.reduceLT, Int.reduceLE, Int.reduceGT, Int.reduceGE, Int.reduceEq, Int.reduceAdd, Int.reduceSub, Int.reduceMul, reduceCtorEq, lemH.down, t0, t2, t3, t4, d0, zAI, er, b0, Bool.not_true, Bool.not_false, zEE, st])))
      have eT : zt r = zD8 (r2, acc) := by unfold zt; rw [← hL]; conv => { lhs; unfold zAT }; rw [if_neg c0]
      have e2 : (zt r).2 = [] := by rw [eT]; exact if_neg c0
      have e1 : (zt r).1 = r2 := by rw [eT]; rfl
      rw [e1, e2]
      exact ⟨.inr rfl, _, zCe (a := ⟨h.next, 0, none⟩) (by simp only [yq55.down, zA, lemS.down, lemC.down, Int.reduceBEq, Nat.reduceAdd, Nat.reduceLeDiff, reduceIte, Nat.reduceEqDiff, Int.reduceLT, Int.reduceLE, Int.reduceGT, Int.reduceGE, Int.reduceEq, Int.reduceAdd, Int.reduceSub, Int.reduceMul, reduceCtorEq, t2]) (va.wr.loadAll rfl), .slice none 0 0, rfl, rd.keep Keeps.wr (by omega), Own.nil, by simp, kk.trans Keeps.wr (fun A hA e => by omega)⟩
    have b0 : ((r2.err : Int) == 0) = true := by rw [c0]; rfl
    obtain ⟨g1, e1, rd1, k1⟩ := zIi T.wire rd 1 (by decide)
    have e1 : cfi pr 69 [.pointer (some ⟨R, 0, none⟩), .int .i64 1] g = some (uw .u64 (zg r2 1).2, g1) := e1
    have hn2 := zEO r2
    have ci := ci64 (n := (zg r2 1).2) (by omega)
    obtain ⟨g2, e2, rd2, k2⟩ := zVj T.wire rd1
    obtain ⟨a, ea⟩ : ∃ a, (tagR r2).2 = a := ⟨_, rfl⟩
    have ea1 : ((zg r2 1).2 : Int) = a.1 := by rw [← ea]; rfl
    have ea2 : (ze (zg r2 1).1 32).2 = a.2 := by rw [← ea]; rfl
    rw [ea1] at ci
    rw [ea2] at e2
    have rd2 : Rd g2 R (tagR r2).1 := rd2
    obtain ⟨q3, g3, a3, st3, v3, gg3, n3⟩ := zEb (g := g2) (r := a.1) (t := a.2)
    have st3 : zx q3 2 (.pointer (some ⟨g2.next, 0, none⟩)) (.agg [.int .i64 a.1, .string (zB a.2)].toArray) = some (.tuple #[], g3) := st3
    have fl0 : zp [.int .i64 0, .string (zB [])] [(0, 1, .int .i64 a.1), (1, 1, .string (zB a.2))] = some [.int .i64 a.1, .string (zB a.2)] := rfl
    have fl : zp [.int .i64 0, .string (zB [])] [(0, 2, .agg [.int .i64 a.1, .string (zB a.2)].toArray)] = some [.int .i64 a.1, .string (zB a.2)] := rfl
    have rd3 := rd2.grow gg3
    have er3 := zDF T.wire rd3
    have k12 : Keeps (fun A => A = R) g g2 := k1.trans k2 (fun _ _ q => q)
    have k13 : Keeps (fun A => A = R) g g3 := k12.trans gg3.keeps (fun _ _ q => q)
    have n12 := k12.next
    have n13 := k13.next
    have la : ∀ sp, g3.load ⟨g2.next, 0, sp⟩ = some (.int .i64 a.1) := fun sp => v3.load
    have vb3 := vb.keep k13 (fun q => by omega)
    have va3 := va.keep k13 (fun q => by omega)
    have lv3 : ∀ sp, g3.load ⟨h.next + 1, 0, sp⟩ = some (.slice av acc.length cv) := fun sp => vb3.load
    have oc3 := oc.keep k13 (fun A hA q => by omega)
    have hsm := zYb r2
    rw [ea] at hsm
    have wn : IntKind.u64.wrap (((m + 1 : Nat) : Int) - 1) = (m : Int) := by
      have : IntKind.u64.wrap (((m + 1 : Nat) : Int) - 1) = (((m + 1 : Nat) : Int) - 1) % 18446744073709551616 := by simp [IntKind.wrap, IntKind.signed, IntKind.bits]
      rw [this]
      omega
    have hL2 : ∀ r5, zBA r2 acc = r5 → zAT m r5 (acc ++ [a]) = zAT (zg r 1).2 (zg r 1).1 [] := fun r5 e => by
      rw [← hL, ← e, ← ea]
      conv => rhs; unfold zAT
      rw [if_pos c0]
    have tl : ∀ g5 r5, Keeps (fun A => A = R) g3 g5 → Rd g5 R r5 → ∃ v2 g6, zAm (g5.new [.int .i64 a.1, .string (zB a.2)]) 2 24 (.slice av acc.length cv) (.slice (some ⟨g5.next, 0, none⟩) 1 1) = some (v2, g6) ∧ zx g6 1 (.pointer (some ⟨h.next + 1, 0, none⟩)) v2 = some (.tuple #[], g6.wr (h.next + 1) [v2]) ∧ (∀ sp, g5.load ⟨h.next + 1, 0, sp⟩ = some (.slice av acc.length cv)) ∧ (∀ sp, g5.loadN ⟨g2.next, 0, sp⟩ 2 = some [.int .i64 a.1, .string (zB a.2)]) ∧
        ∀ t' : Fr, zBA r2 acc = r5 → t'.get 0 = .pointer (some ⟨R, 0, none⟩) → t'.get 2 = .pointer (some ⟨h.next, 0, none⟩) → t'.get 3 = .pointer (some ⟨h.next + 1, 0, none⟩) → t'.get 4 = .int .u64 (m : Int) → kont pr [KI.lp zIC, KI.blk 0, KI.code (((XC.ops zH9).seq (XC.cond (X.T 61) ((XC.ops zIA).seq XC.ret) XC.skip)).seq ((XC.ops zIB).seq XC.ret))] (fun e t h' => (e = XE.normal ∨ e = XE.ret) ∧ ∃ w, zAQ t h' [.cellN 2 1] = some w ∧ ∃ v', w = .agg [v'].toArray ∧ Rd h' R (zt r).1 ∧ Own h' (fun A => h.next ≤ A) 2 v' (zt r).2.length (zi (zt r).2) ∧ (∀ q ∈ (zt r).2, inI q.1) ∧ Keeps (fun A => A = R) h h') t' (g6.wr (h.next + 1) [v2]) := by
      intro g5 r5 k5 rd5
      have n5 := k5.next
      have oc5 := oc3.keep k5 (fun A hA q => by omega)
      have vb5 := vb3.keep k5 (fun q => by omega)
      have va5 := va3.keep k5 (fun q => by omega)
      have v5 := v3.keep k5 (fun q => by omega)
      obtain ⟨v2, g6, ey, o6, k6⟩ := oc5.pushTag a (by omega)
      have n6 := k6.next
      have vb6 := vb5.keep k6 (fun q => by omega)
      have va6 := va5.keep k6 (fun q => by omega)
      have rd6 := rd5.keep k6 (fun q => by omega)
      refine ⟨v2, g6, ey, ?_, fun sp => vb5.load, fun sp => v5.loadAll rfl, fun t' hx s0 s2 s3 s4 => hnext m t' _ (by omega) ⟨r5, acc ++ [a], v2, by rw [List.length_append, List.length_singleton]; omega, hL2 r5 hx, rd6.keep Keeps.wr (by omega), ?_, ?_, va6.wr_ne (by omega), vb6.wr, ?_, by show h.next + 2 ≤ g6.next; omega, s0, s2, s3, s4⟩⟩
      · rw [zX o6.cell, vb6.store1 (i := 0) (by simp) o6.one]
        rfl
      · rw [List.length_append]
        exact (o6.keep Keeps.wr (fun A hA e => by rcases hA with q | q <;> omega)).mono (fun A hA => by rcases hA with q | q <;> omega)
      · intro q hq
        rcases List.mem_append.1 hq with hq | hq
        · exact hin q hq
        · obtain rfl := List.mem_singleton.1 hq
          constructor <;> omega
      · exact (((kk.trans k13 (fun _ _ q => q)).trans k5 (fun _ _ q => q)).trans k6 (fun A hA q => by omega)).trans Keeps.wr (fun A hA e => by omega)
    by_cases c1 : (tagR r2).1.err = 0
    rotate_left
    · have b1 : (((tagR r2).1.err : Int) == 0) = false := by rw [beq_eq_false_iff_ne]; omega
      have nx : zBA r2 acc = (tagR r2).1 := if_neg (fun q => c1 q.1)
      obtain ⟨v2, g6, ey, st6, lv, lt, fin⟩ := tl g3 (tagR r2).1 Keeps.refl rd3
      (repeat (first | refine zS ?_ | refine zL ?_ | refine zR ?_ | refine zE ?_ | refine zC ?_ | refine zJ ?_ | refine zK ?_ | refine zP ?_ | refine zF ?_ | refine zH ?_ | refine zG ?_ | refine zI (by decide) ?_ | refine zQ ?_ | ((first | refine zD ?_ | refine zN ?_ | refine zT rfl rfl ?_ | refine zO rfl ?_ | refine zM ?_); simp only [yq55.down, zA, lemS.down, lemC.down, Int.reduceBEq, Nat.reduceAdd, Nat.reduceLeDiff, reduceIte, Nat.reduceEqDiff, Int.reduceLT, Int.reduceLE, Int.reduceGT, Int.reduceGE, Int.reduceEq, Int.reduceAdd, Int.reduceSub, Int.reduceMul, reduceCtorEq, lemH.down, t0, t2, t3, t4, d0, er, b0, e1, ci, e2, fl0, a3, st3, er3, b1, lv, lt, Nat.add_zero, fl, ey, st6, wn, zAI])))
      exact fin _ (nx) (by simp only [yq55.down, zA, lemS.down, lemC.down, Int.reduceBEq, Nat.reduceAdd, Nat.reduceLeDiff, reduceIte, Nat.reduceEqDiff, Int.reduceLT, Int.reduceLE, Int.reduceGT, Int.reduceGE, Int.reduceEq, Int.reduceAdd, Int.reduceSub, Int.reduceMul, reduceCtorEq, t0]) (by simp only [yq55.down, zA, lemS.down, lemC.down, Int.reduceBEq, Nat.reduceAdd, Nat.reduceLeDiff, reduceIte, Nat.reduceEqDiff, Int.reduceLT, Int.reduceLE, Int.reduceGT, Int.reduceGE, Int.reduceEq, Int.reduceAdd, Int.reduceSub, Int.reduceMul, reduceCtorEq, t2]) (by simp only [yq55.down, zA, lemS.down, lemC.down, Int.reduceBEq, Nat.reduceAdd, Nat.reduceLeDiff, reduceIte, Nat.reduceEqDiff, Int.reduceLT, Int.reduceLE, Int.reduceGT, Int.reduceGE, Int.reduceEq, Int.reduceAdd, Int.reduceSub, Int.reduceMul, reduceCtorEq, t3]) (by simp only [yq55.down, zA, lemS.down, lemC.down, Int.reduceBEq, Nat.reduceAdd, Nat.reduceLeDiff, reduceIte, Nat.reduceEqDiff, Int.reduceLT, Int.reduceLE, Int.reduceGT, Int.reduceGE, Int.reduceEq, Int.reduceAdd, Int.reduceSub, Int.reduceMul, reduceCtorEq])
    have b1 : (((tagR r2).1.err : Int) == 0) = true := by rw [c1]; rfl
    obtain ⟨g5, e5, rd5, k5⟩ := zVi T.wire rd3 6
    have e5 : cfi pr 84 [.pointer (some ⟨R, 0, none⟩), .int .i64 6] g3 = some (.tuple #[], g5) := e5
    rw [if_pos c1] at rd5
    by_cases c2 : a.1 ≥ 16
    · have b2 : decide (a.1 ≥ 16) = true := decide_eq_true c2
      have nx : zBA r2 acc = ⟨(tagR r2).1.s, (tagR r2).1.pos, 6⟩ := if_pos ⟨c1, by unfold badT; rw [ea, b2]; rfl⟩
      obtain ⟨v2, g6, ey, st6, lv, lt, fin⟩ := tl g5 ⟨(tagR r2).1.s, (tagR r2).1.pos, 6⟩ k5 rd5
      (repeat (first | refine zS ?_ | refine zL ?_ | refine zR ?_ | refine zE ?_ | refine zC ?_ | refine zJ ?_ | refine zK ?_ | refine zP ?_ | refine zF ?_ | refine zH ?_ | refine zG ?_ | refine zI (by decide) ?_ | refine zQ ?_ | ((first | refine zD ?_ | refine zN ?_ | refine zT rfl rfl ?_ | refine zO rfl ?_ | refine zM ?_); simp only [yq55.down, zA, lemS.down, lemC.down, Int.reduceBEq, Nat.reduceAdd, Nat.reduceLeDiff, reduceIte, Nat.reduceEqDiff, Int.reduceLT, Int.reduceLE, Int.reduceGT, Int.reduceGE, Int.reduceEq, Int.reduceAdd, Int.reduceSub, Int.reduceMul, reduceCtorEq, lemH.down, t0, t2, t3, t4, d0, er, b0, e1, ci, e2, fl0, a3, st3, er3, b1, la, Nat.add_zero, b2, e5, lv, lt, Nat.add_zero, fl, ey, st6, wn, zAI])))
      exact fin _ (nx) (by simp only [yq55.down, zA, lemS.down, lemC.down, Int.reduceBEq, Nat.reduceAdd, Nat.reduceLeDiff, reduceIte, Nat.reduceEqDiff, Int.reduceLT, Int.reduceLE, Int.reduceGT, Int.reduceGE, Int.reduceEq, Int.reduceAdd, Int.reduceSub, Int.reduceMul, reduceCtorEq, t0]) (by simp only [yq55.down, zA, lemS.down, lemC.down, Int.reduceBEq, Nat.reduceAdd, Nat.reduceLeDiff, reduceIte, Nat.reduceEqDiff, Int.reduceLT, Int.reduceLE, Int.reduceGT, Int.reduceGE, Int.reduceEq, Int.reduceAdd, Int.reduceSub, Int.reduceMul, reduceCtorEq, t2]) (by simp only [yq55.down, zA, lemS.down, lemC.down, Int.reduceBEq, Nat.reduceAdd, Nat.reduceLeDiff, reduceIte, Nat.reduceEqDiff, Int.reduceLT, Int.reduceLE, Int.reduceGT, Int.reduceGE, Int.reduceEq, Int.reduceAdd, Int.reduceSub, Int.reduceMul, reduceCtorEq, t3]) (by simp only [yq55.down, zA, lemS.down, lemC.down, Int.reduceBEq, Nat.reduceAdd, Nat.reduceLeDiff, reduceIte, Nat.reduceEqDiff, Int.reduceLT, Int.reduceLE, Int.reduceGT, Int.reduceGE, Int.reduceEq, Int.reduceAdd, Int.reduceSub, Int.reduceMul, reduceCtorEq])
    have b2 : decide (a.1 ≥ 16) = false := decide_eq_false c2
    by_cases c3 : 0 < acc.length
    rotate_left
    · have b3 : decide ((acc.length : Int) > 0) = false := decide_eq_false (by omega)
      have b3' : decide (0 < acc.length) = false := decide_eq_false c3
      have nx : zBA r2 acc = (tagR r2).1 := if_neg (fun q => by have := q.2; unfold badT at this; rw [ea, b2, b3'] at this; simp at this)
      obtain ⟨v2, g6, ey, st6, lv, lt, fin⟩ := tl g3 (tagR r2).1 Keeps.refl rd3
      (repeat (first | refine zS ?_ | refine zL ?_ | refine zR ?_ | refine zE ?_ | refine zC ?_ | refine zJ ?_ | refine zK ?_ | refine zP ?_ | refine zF ?_ | refine zH ?_ | refine zG ?_ | refine zI (by decide) ?_ | refine zQ ?_ | ((first | refine zD ?_ | refine zN ?_ | refine zT rfl rfl ?_ | refine zO rfl ?_ | refine zM ?_); simp only [yq55.down, zA, lemS.down, lemC.down, Int.reduceBEq, Nat.reduceAdd, Nat.reduceLeDiff, reduceIte, Nat.reduceEqDiff, Int.reduceLT, Int.reduceLE, Int.reduceGT, Int.reduceGE, Int.reduceEq, Int.reduceAdd, Int.reduceSub, Int.reduceMul, reduceCtorEq, lemH.down, t0, t2, t3, t4, d0, er, b0, e1, ci, e2, fl0, a3, st3, er3, b1, la, Nat.add_zero, b2, lv3, b3, lv, lt, Nat.add_zero, fl, ey, st6, wn, zAI])))
      exact fin _ (nx) (by simp only [yq55.down, zA, lemS.down, lemC.down, Int.reduceBEq, Nat.reduceAdd, Nat.reduceLeDiff, reduceIte, Nat.reduceEqDiff, Int.reduceLT, Int.reduceLE, Int.reduceGT, Int.reduceGE, Int.reduceEq, Int.reduceAdd, Int.reduceSub, Int.reduceMul, reduceCtorEq, t0]) (by simp only [yq55.down, zA, lemS.down, lemC.down, Int.reduceBEq, Nat.reduceAdd, Nat.reduceLeDiff, reduceIte, Nat.reduceEqDiff, Int.reduceLT, Int.reduceLE, Int.reduceGT, Int.reduceGE, Int.reduceEq, Int.reduceAdd, Int.reduceSub, Int.reduceMul, reduceCtorEq, t2]) (by simp only [yq55.down, zA, lemS.down, lemC.down, Int.reduceBEq, Nat.reduceAdd, Nat.reduceLeDiff, reduceIte, Nat.reduceEqDiff, Int.reduceLT, Int.reduceLE, Int.reduceGT, Int.reduceGE, Int.reduceEq, Int.reduceAdd, Int.reduceSub, Int.reduceMul, reduceCtorEq, t3]) (by simp only [yq55.down, zA, lemS.down, lemC.down, Int.reduceBEq, Nat.reduceAdd, Nat.reduceLeDiff, reduceIte, Nat.reduceEqDiff, Int.reduceLT, Int.reduceLE, Int.reduceGT, Int.reduceGE, Int.reduceEq, Int.reduceAdd, Int.reduceSub, Int.reduceMul, reduceCtorEq])
    have b3 : decide ((acc.length : Int) > 0) = true := decide_eq_true (by omega)
    have b3' : decide (0 < acc.length) = true := decide_eq_true c3
    obtain ⟨Bl, ol, ial, ldl⟩ := (oc3.rdTags hin).elim (i := acc.length - 1) (by omega)
    have ll := (ldl g3 (Grows.refl _)).2.1
    have el : ((acc.length - 1 : Nat) : Int) = (acc.length : Int) - 1 := by omega
    rw [el] at ial
    have wl : IntKind.i64.wrap ((acc.length : Int) - 1) = (acc.length : Int) - 1 := wrap_i64 (by omega) (by omega)
    cases c4 : decide (lastT acc ≥ a.1)
    · have nx : zBA r2 acc = (tagR r2).1 := if_neg (fun q => by have := q.2; unfold badT at this; rw [ea, b2, b3', c4] at this; simp at this)
      have c4' : decide ((acc.getD (acc.length - 1) (0, [])).1 ≥ a.1) = false := c4
      obtain ⟨v2, g6, ey, st6, lv, lt, fin⟩ := tl g3 (tagR r2).1 Keeps.refl rd3
      (repeat (first | refine zS ?_ | refine zL ?_ | refine zR ?_ | refine zE ?_ | refine zC ?_ | refine zJ ?_ | refine zK ?_ | refine zP ?_ | refine zF ?_ | refine zH ?_ | refine zG ?_ | refine zI (by decide) ?_ | refine zQ ?_ | ((first | refine zD ?_ | refine zN ?_ | refine zT rfl rfl ?_ | refine zO rfl ?_ | refine zM ?_); simp only [yq55.down, zA, lemS.down, lemC.down, Int.reduceBEq, Nat.reduceAdd, Nat.reduceLeDiff, reduceIte, Nat.reduceEqDiff, Int.reduceLT, Int.reduceLE, Int.reduceGT, Int.reduceGE, Int.reduceEq, Int.reduceAdd, Int.reduceSub, Int.reduceMul, reduceCtorEq, lemH.down, t0, t2, t3, t4, d0, er, b0, e1, ci, e2, fl0, a3, st3, er3, b1, la, Nat.add_zero, b2, lv3, b3, wl, zAE, ial, ll, c4', lv, lt, Nat.add_zero, fl, ey, st6, wn, zAI])))
      exact fin _ (nx) (by simp only [yq55.down, zA, lemS.down, lemC.down, Int.reduceBEq, Nat.reduceAdd, Nat.reduceLeDiff, reduceIte, Nat.reduceEqDiff, Int.reduceLT, Int.reduceLE, Int.reduceGT, Int.reduceGE, Int.reduceEq, Int.reduceAdd, Int.reduceSub, Int.reduceMul, reduceCtorEq, t0]) (by simp only [yq55.down, zA, lemS.down, lemC.down, Int.reduceBEq, Nat.reduceAdd, Nat.reduceLeDiff, reduceIte, Nat.reduceEqDiff, Int.reduceLT, Int.reduceLE, Int.reduceGT, Int.reduceGE, Int.reduceEq, Int.reduceAdd, Int.reduceSub, Int.reduceMul, reduceCtorEq, t2]) (by simp only [yq55.down, zA, lemS.down, lemC.down, Int.reduceBEq, Nat.reduceAdd, Nat.reduceLeDiff, reduceIte, Nat.reduceEqDiff, Int.reduceLT, Int.reduceLE, Int.reduceGT, Int.reduceGE, Int.reduceEq, Int.reduceAdd, Int.reduceSub, Int.reduceMul, reduceCtorEq, t3]) (by simp only [yq55.down, zA, lemS.down, lemC.down, Int.reduceBEq, Nat.reduceAdd, Nat.reduceLeDiff, reduceIte, Nat.reduceEqDiff, Int.reduceLT, Int.reduceLE, Int.reduceGT, Int.reduceGE, Int.reduceEq, Int.reduceAdd, Int.reduceSub, Int.reduceMul, reduceCtorEq])
    · have nx : zBA r2 acc = ⟨(tagR r2).1.s, (tagR r2).1.pos, 6⟩ := if_pos ⟨c1, by unfold badT; rw [ea, b2, b3', c4]; rfl⟩
      have c4' : decide ((acc.getD (acc.length - 1) (0, [])).1 ≥ a.1) = true := c4
      obtain ⟨v2, g6, ey, st6, lv, lt, fin⟩ := tl g5 ⟨(tagR r2).1.s, (tagR r2).1.pos, 6⟩ k5 rd5
      (repeat (first | refine zS ?_ | refine zL ?_ | refine zR ?_ | refine zE ?_ | refine zC ?_ | refine zJ ?_ | refine zK ?_ | refine zP ?_ | refine zF ?_ | refine zH ?_ | refine zG ?_ | refine zI (by decide) ?_ | refine zQ ?_ | ((first | refine zD ?_ | refine zN ?_ | refine zT rfl rfl ?_ | refine zO rfl ?_ | refine zM ?_); simp only [yq55.down, zA, lemS.down, lemC.down, Int.reduceBEq, Nat.reduceAdd, Nat.reduceLeDiff, reduceIte, Nat.reduceEqDiff, Int.reduceLT, Int.reduceLE, Int.reduceGT, Int.reduceGE, Int.reduceEq, Int.reduceAdd, Int.reduceSub, Int.reduceMul, reduceCtorEq, lemH.down, t0, t2, t3, t4, d0, er, b0, e1, ci, e2, fl0, a3, st3, er3, b1, la, Nat.add_zero, b2, lv3, b3, wl, zAE, ial, ll, c4', e5, lv, lt, Nat.add_zero, fl, ey, st6, wn, zAI])))
      exact fin _ (nx) (by simp only [yq55.down, zA, lemS.down, lemC.down, Int.reduceBEq, Nat.reduceAdd, Nat.reduceLeDiff, reduceIte, Nat.reduceEqDiff, Int.reduceLT, Int.reduceLE, Int.reduceGT, Int.reduceGE, Int.reduceEq, Int.reduceAdd, Int.reduceSub, Int.reduceMul, reduceCtorEq, t0]) (by simp only [yq55.down, zA, lemS.down, lemC.down, Int.reduceBEq, Nat.reduceAdd, Nat.reduceLeDiff, reduceIte, Nat.reduceEqDiff, Int.reduceLT, Int.reduceLE, Int.reduceGT, Int.reduceGE, Int.reduceEq, Int.reduceAdd, Int.reduceSub, Int.reduceMul, reduceCtorEq, t2]) (by simp only [yq55.down, zA, lemS.down, lemC.down, Int.reduceBEq, Nat.reduceAdd, Nat.reduceLeDiff, reduceIte, Nat.reduceEqDiff, Int.reduceLT, Int.reduceLE, Int.reduceGT, Int.reduceGE, Int.reduceEq, Int.reduceAdd, Int.reduceSub, Int.reduceMul, reduceCtorEq, t3]) (by simp only [yq55.down, zA, lemS.down, lemC.down, Int.reduceBEq, Nat.reduceAdd, Nat.reduceLeDiff, reduceIte, Nat.reduceEqDiff, Int.reduceLT, Int.reduceLE, Int.reduceGT, Int.reduceGE, Int.reduceEq, Int.reduceAdd, Int.reduceSub, Int.reduceMul, reduceCtorEq])
  obtain ⟨w, h', e, v', rfl, r⟩ := this
  exact ⟨v', h', e, r⟩
end Go.X
end
section
open Go Go.X
namespace Go.X
set_option linter.unusedVariables false
structure Law17c (pr : Prog) : Prop where
  b : Law17b pr
  put : PutTab pr
  take : zIk pr
theorem addT_end {l : TagL} {q : Int × List UInt8} (h : ∀ y ∈ l, y.1 < q.1) : addT l q = l ++ [q] := by
  have hp : zAj l q.1 = l.length := zKR (Nat.le_refl _) (fun k hk => h _ (by rw [zDP hk]; exact List.getElem_mem hk)) (fun q => absurd q (Nat.lt_irrefl _))
  have hi : isT l q.1 = false := by
    unfold isT
    rw [hp]
    simp
  unfold addT
  rw [hi, hp]
  simp
theorem zK6 (x : Hdr) (l m : List Int) : zAU x (l ++ m) = zAU x l ++ zAU x m := by simp [zAU]
theorem zHG {l : List Int} {i : Nat} (hi : i < l.length) : l.take (i + 1) = l.take i ++ [l.getD i 0] := by
  rw [List.take_succ_eq_append_getElem hi, List.getD_eq_getElem?_getD, List.getElem?_eq_getElem hi]
  rfl
theorem Few.take {l : List Int} (h : Few l) (j : Nat) : Few (l.take j) := ⟨h.1.take, fun x hx => h.2 x (List.mem_of_mem_take hx)⟩
theorem Few.take_lt {l : List Int} (h : Few l) {j : Nat} (hj : j < l.length) : ∀ y ∈ l.take j, y < l.getD j 0 := by
  have := (h.take (j + 1)).1
  rw [zHG hj] at this
  exact fun y hy => (List.pairwise_append.1 this).2.2 y hy _ (List.mem_singleton.2 rfl)
theorem add_up {x : Hdr} {l : List Int} (h : Few l) {j : Nat} (hj : j < l.length) {t : List UInt8} (ht : t = tagC (l.getD j 0).toNat x) : addT (zAU x (l.take j)) (l.getD j 0, t) = zAU x (l.take (j + 1)) := by
  rw [zHG hj, zK6, ht]
  refine addT_end fun y hy => ?_
  unfold zAU at hy
  rw [List.mem_map] at hy
  obtain ⟨i, hi, rfl⟩ := hy
  exact h.take_lt hj i hi
theorem zYe {x : Hdr} {l : List Int} (h : Few l) : ∀ q ∈ zAU x l, zDt q := by
  intro q hq
  unfold zAU at hq
  rw [List.mem_map] at hq
  obtain ⟨i, hi, rfl⟩ := hq
  have := h.2 i hi
  exact ⟨this.1, this.2, zK4 _ _⟩
theorem zWM {k : Nat} (hk : k < 16) {t : List UInt8} (ht : t.length = 32) : zy [((k : Int), t)] = numB k 1 ++ t := by
  simp only [zy, List.flatMap_cons, List.flatMap_nil, List.append_nil, zGP ht]
  rw [zLF (by omega)]
set_option maxRecDepth 100000 in
set_option maxHeartbeats 4000000 in
theorem zVf (pr : Prog) (T : Law17c pr) (s : Int) (n : Nat) (hn : n < 18446744073709551616) (u : List UInt8) (hu : u.length ≤ 9223372036854775807) (h : Heap) : Comes pr xq14 [.int .i64 s, .int .u64 (n : Int), .string (zB u)] h (.bool true) := by
  apply Comes.of
  unfold xq14
  dsimp only [zc]
  have hr64 : zU = 140737488355328 := rfl
  have aw := fun g : Heap => zf (h := g) T.b.aw (s := trueS) (args := []) rfl
  have an2 := zVs (a := s)
  obtain ⟨v9, hA, e2, r9, g2⟩ := list_run T.b.list T.b.listC (h := h) (a := s % 65536)
  rw [zV0 (by omega)] at r9
  have f9 := few_bits s
  have hb9 := zFt s 16
  generalize zAh s 16 = l at *
  obtain ⟨b9, a9, c9, rfl, el9⟩ := r9.elim
  have c0 := zBK (k := .u64) (k' := .i64) zCF (n := l.length)
  have n0 := fun g : Heap => zf (h := g) T.b.law.cert.num (zDC (n := l.length) (k := 1) (by omega) (by decide))
  have n0 : ∀ g : Heap, cfi pr 40 [uw .u64 l.length, .int .i64 1] g = some (.string (zB (numB l.length 1)), g) := n0
  obtain ⟨q5, hB, a5, st5, v5, g5, n5⟩ := zD4 (g := hA) zKY
  (repeat (first | refine zS ?_ | refine zL ?_ | refine zR ?_ | refine zE ?_ | refine zC ?_ | refine zJ ?_ | refine zK ?_ | refine zP ?_ | refine zF ?_ | refine zH ?_ | refine zG ?_ | refine zI (by decide) ?_ | refine zQ ?_ | ((first | refine zD ?_ | refine zN ?_ | refine zO rfl ?_ | refine zM ?_); simp only [yq14.down, zA, lemS.down, lemC.down, Int.reduceBEq, Nat.reduceAdd, Nat.reduceLeDiff, reduceIte, Nat.reduceEqDiff, Int.reduceLT, Int.reduceLE, Int.reduceGT, Int.reduceGE, Int.reduceEq, Int.reduceAdd, Int.reduceSub, Int.reduceMul, reduceCtorEq, lemH.down, an2, e2, c0, n0, zEE, a5, st5])))
  refine zr (fun m t g => ∃ i v, m = l.length - i ∧ i ≤ l.length ∧ Grows hA g ∧ hA.next + 1 ≤ g.next ∧ Var g hA.next [v] ∧ Own g (fun A => hA.next + 1 ≤ A) 2 v i (zi (zAU (zh n) (l.take i))) ∧ t.get 1 = .int .u64 (n : Int) ∧ t.get 2 = .string (zB u) ∧ t.get 7 = .slice a9 l.length c9 ∧ t.get 8 = .pointer (some ⟨hA.next, 0, none⟩) ∧ t.get 9 = .string (zB (numB l.length 1 ++ zy (zAU (zh n) (l.take i)))) ∧ t.get 10 = .int .i64 (i : Int)) ?_ l.length _ _
    ⟨0, _, rfl, by omega, g5, by omega, v5, Own.nil, by simp only [yq14.down, zA, lemS.down, lemC.down, Int.reduceBEq, Nat.reduceAdd, Nat.reduceLeDiff, reduceIte, Nat.reduceEqDiff, Int.reduceLT, Int.reduceLE, Int.reduceGT, Int.reduceGE, Int.reduceEq, Int.reduceAdd, Int.reduceSub, Int.reduceMul, reduceCtorEq], by simp only [yq14.down, zA, lemS.down, lemC.down, Int.reduceBEq, Nat.reduceAdd, Nat.reduceLeDiff, reduceIte, Nat.reduceEqDiff, Int.reduceLT, Int.reduceLE, Int.reduceGT, Int.reduceGE, Int.reduceEq, Int.reduceAdd, Int.reduceSub, Int.reduceMul, reduceCtorEq], by simp only [yq14.down, zA, lemS.down, lemC.down, Int.reduceBEq, Nat.reduceAdd, Nat.reduceLeDiff, reduceIte, Nat.reduceEqDiff, Int.reduceLT, Int.reduceLE, Int.reduceGT, Int.reduceGE, Int.reduceEq, Int.reduceAdd, Int.reduceSub, Int.reduceMul, reduceCtorEq], by simp only [yq14.down, zA, lemS.down, lemC.down, Int.reduceBEq, Nat.reduceAdd, Nat.reduceLeDiff, reduceIte, Nat.reduceEqDiff, Int.reduceLT, Int.reduceLE, Int.reduceGT, Int.reduceGE, Int.reduceEq, Int.reduceAdd, Int.reduceSub, Int.reduceMul, reduceCtorEq], by (simp only [yq14.down, zA, lemS.down, lemC.down, Int.reduceBEq, Nat.reduceAdd, Nat.reduceLeDiff, reduceIte, Nat.reduceEqDiff, Int.reduceLT, Int.reduceLE, Int.reduceGT, Int.reduceGE, Int.reduceEq, Int.reduceAdd, Int.reduceSub, Int.reduceMul, reduceCtorEq]) <;> simp [zAU, zy], by (simp only [yq14.down, zA, lemS.down, lemC.down, Int.reduceBEq, Nat.reduceAdd, Nat.reduceLeDiff, reduceIte, Nat.reduceEqDiff, Int.reduceLT, Int.reduceLE, Int.reduceGT, Int.reduceGE, Int.reduceEq, Int.reduceAdd, Int.reduceSub, Int.reduceMul, reduceCtorEq]) <;> rfl⟩
  rintro m t g ⟨i, v, rfl, hi, gg, gn, vc, oc, t1, t2, t7, t8, t9, t10⟩ hnext
  refine xq14_9k ?_
  dsimp only [zHi]
  by_cases hlt : i < l.length
  · have dlt : decide ((i : Int) < (l.length : Int)) = true := decide_eq_true (by omega)
    obtain ⟨k, hk, ek, sg⟩ := tagged17 (n := n) f9 hlt
    obtain ⟨B, o, ia, ld⟩ := el9 i hlt
    obtain ⟨g1, e1, r1, gg1⟩ := zEU T.b.law.cert g
    obtain ⟨mv, g2, eh, x2, gg2⟩ := zDS T.b.law.cert g1 n hn
    have p0 := ld g gg
    have p1 := ld g1 (gg.trans gg1)
    have p2 := ld g2 ((gg.trans gg1).trans gg2)
    have s1 := zz T.b.law.cert.sign (zHB (i := l.getD i 0) (r1.grow gg2).now zEJ x2.now)
    rw [sg] at s1
    have s1 : cfi pr 41 [.pointer (some ⟨g.next, 0, none⟩), .int .i64 (l.getD i 0), .agg (zd (zh n) mv).toArray] g2 = some (.tuple #[tagV (l.getD i 0) (tagC (l.getD i 0).toNat (zh n)), .int .i64 0], g2) := s1
    obtain ⟨tg, htg⟩ : ∃ tg, tagC (l.getD i 0).toNat (zh n) = tg := ⟨_, rfl⟩
    have htl : tg.length = 32 := by rw [← htg]; exact zK4 _ _
    rw [htg] at s1
    obtain ⟨q3, g3, a3, st3, v3, gg3, n3⟩ := zEb (g := g2) (r := l.getD i 0) (t := tg)
    have st3 : zx q3 2 (.pointer (some ⟨g2.next, 0, none⟩)) (.agg [.int .i64 (l.getD i 0), .string (zB tg)].toArray) = some (.tuple #[], g3) := st3
    have gB := (gg1.trans gg2).trans gg3
    have hin : inI (l.getD i 0) := zGI f9 _ (zJh hlt)
    have hinL : ∀ m, ∀ q ∈ zAU (zh n) (l.take m), inI q.1 := fun m => zK7 (zGI (f9.take m))
    have rc : RdTags g3 v (zAU (zh n) (l.take i)) := (oc.rdTags (hinL _)).grow gB
    have hlen : ∀ m, (zAU (zh n) (l.take m)).length ≤ 1000000 := fun m => by rw [zFa, List.length_take]; omega
    obtain ⟨v4, g4, e4, o4, gg4⟩ := zId T.b.law.add rc (zK8 (f9.take _).1) (hlen _) (t := tg) hin
    rw [add_up f9 hlt htg.symm] at o4
    have e4 : cfi pr 48 [.agg [v].toArray, .agg [.int .i64 (l.getD i 0), .string (zB tg)].toArray] g3 = some (.agg [v4].toArray, g4) := e4
    have l3 : ∀ sp, g3.loadN ⟨g2.next, 0, sp⟩ 2 = some [.int .i64 (l.getD i 0), .string (zB tg)] := fun sp => v3.loadAll rfl
    have c3 : ∀ sp, g3.loadN ⟨hA.next, 0, sp⟩ 1 = some [v] := fun sp => (vc.grow gB).loadAll rfl
    have gC := gB.trans gg4
    have vcN := vc.grow gC
    have st4 : zx g4 1 (.pointer (some ⟨hA.next, 0, none⟩)) (.agg [v4].toArray) = some (.tuple #[], g4.wr hA.next [v4]) := vcN.storeAll rfl rfl (by decide) (by simp [o4.one])
    have gW : Grows hA (g4.wr hA.next [v4]) := (gg.trans gC).wr (Nat.le_refl _)
    have gn3 := gB.next
    have gn4 := gC.next
    have o4w : Own (g4.wr hA.next [v4]) (fun A => hA.next + 1 ≤ A) 2 v4 (i + 1) (zi (zAU (zh n) (l.take (i + 1)))) := by
      rw [zFa, List.length_take, Nat.min_eq_left (by omega)] at o4
      exact (o4.keep Keeps.wr (fun A hA e => by omega)).mono (fun A hA => by omega)
    have vcW : Var (g4.wr hA.next [v4]) hA.next [v4] := vcN.wr
    have nW : (g4.wr hA.next [v4]).next = g4.next := rfl
    generalize g4.wr hA.next [v4] = g5 at *
    obtain ⟨mw, g6, eh6, x6, gg6⟩ := zDS T.b.law.cert g5 n hn
    have p5 := ld g5 gW
    have p6 := ld g6 (gW.trans gg6)
    rw [ek] at p5 p6
    have tt := zz T.b.law.tag (zYZ (i := k) (by omega) x6.now)
    have ck := zBK (k := .u64) (k' := .i64) zCF (n := k)
    have n1 : cfi pr 40 [uw .u64 k, .int .i64 1] g5 = some (.string (zB (numB k 1)), g5) := zf (h := g5) T.b.law.cert.num (zDC (n := k) (k := 1) (by omega) (by decide))
    have ht2 : tagC k (zh n) = tg := by rw [← htg, ek, Int.toNat_natCast]
    rw [ht2] at tt
    have cat1 := zAw (a := numB k 1) (b := tg) (by rw [zAB]; omega)
    have cat2 := zAw (a := numB l.length 1 ++ zy (zAU (zh n) (l.take i))) (b := numB k 1 ++ tg) (by
      simp only [List.length_append, zAB, zEv, zFa, List.length_take]
      omega)
    have es : zy (zAU (zh n) (l.take (i + 1))) = zy (zAU (zh n) (l.take i)) ++ (numB k 1 ++ tg) := by
      rw [zHG hlt, zK6, zEu, ek]
      show _ ++ zy [((k : Int), tagC (k : Int).toNat (zh n))] = _
      rw [Int.toNat_natCast, ht2, zWM hk htl]
    have ww : IntKind.i64.wrap ((i : Int) + 1) = ((i + 1 : Nat) : Int) := by rw [wrap_i64 (by omega) (by omega)]; omega
    (repeat (first | refine zS ?_ | refine zL ?_ | refine zR ?_ | refine zE ?_ | refine zC ?_ | refine zJ ?_ | refine zK ?_ | refine zP ?_ | refine zF ?_ | refine zH ?_ | refine zG ?_ | refine zI (by decide) ?_ | refine zQ ?_ | ((first | refine zD ?_ | refine zN ?_ | refine zO rfl ?_ | refine zM ?_); simp only [yq14.down, zA, lemS.down, lemC.down, Int.reduceBEq, Nat.reduceAdd, Nat.reduceLeDiff, reduceIte, Nat.reduceEqDiff, Int.reduceLT, Int.reduceLE, Int.reduceGT, Int.reduceGE, Int.reduceEq, Int.reduceAdd, Int.reduceSub, Int.reduceMul, reduceCtorEq, lemH.down, t1, t2, t7, t8, t9, t10, dlt, zAE, ia, e1, p0, p1, eh, s1, a3, st3])))
    refine ⟨?_, ?_, ?_⟩
    · (refine zAn rfl rfl rfl ?_ ?_ <;> simp only [yq14.down, zA, lemS.down, lemC.down, Int.reduceBEq, Nat.reduceAdd, Nat.reduceLeDiff, reduceIte, Nat.reduceEqDiff, Int.reduceLT, Int.reduceLE, Int.reduceGT, Int.reduceGE, Int.reduceEq, Int.reduceAdd, Int.reduceSub, Int.reduceMul, reduceCtorEq, p0, p1, zAO, zAM, zAP, zAN, zAJ, Option.isSome_some])
    · (refine zAn rfl rfl rfl ?_ ?_ <;> simp only [yq14.down, zA, lemS.down, lemC.down, Int.reduceBEq, Nat.reduceAdd, Nat.reduceLeDiff, reduceIte, Nat.reduceEqDiff, Int.reduceLT, Int.reduceLE, Int.reduceGT, Int.reduceGE, Int.reduceEq, Int.reduceAdd, Int.reduceSub, Int.reduceMul, reduceCtorEq, p1, p2, zAO, zAM, zAP, zAN, zAJ, Option.isSome_some])
    (repeat (first | refine zS ?_ | refine zL ?_ | refine zR ?_ | refine zE ?_ | refine zC ?_ | refine zJ ?_ | refine zK ?_ | refine zP ?_ | refine zF ?_ | refine zH ?_ | refine zG ?_ | refine zI (by decide) ?_ | refine zQ ?_ | ((first | refine zD ?_ | refine zN ?_ | refine zO rfl ?_ | refine zM ?_); simp only [yq14.down, zA, lemS.down, lemC.down, Int.reduceBEq, Nat.reduceAdd, Nat.reduceLeDiff, reduceIte, Nat.reduceEqDiff, Int.reduceLT, Int.reduceLE, Int.reduceGT, Int.reduceGE, Int.reduceEq, Int.reduceAdd, Int.reduceSub, Int.reduceMul, reduceCtorEq, lemH.down, t1, t2, t7, t8, t9, t10, c3, l3, e4, st4, zAE, ia, p5, zFG, ck, n1, eh6, tt, cat1, cat2])))
    refine ⟨?_, ?_, ?_⟩
    · (refine zAn rfl rfl rfl ?_ ?_ <;> simp only [yq14.down, zA, lemS.down, lemC.down, Int.reduceBEq, Nat.reduceAdd, Nat.reduceLeDiff, reduceIte, Nat.reduceEqDiff, Int.reduceLT, Int.reduceLE, Int.reduceGT, Int.reduceGE, Int.reduceEq, Int.reduceAdd, Int.reduceSub, Int.reduceMul, reduceCtorEq, p5, p6, zAO, zAM, zAP, zAN, zAJ, Option.isSome_some])
    · (refine zAn rfl rfl rfl ?_ ?_ <;> simp only [yq14.down, zA, lemS.down, lemC.down, Int.reduceBEq, Nat.reduceAdd, Nat.reduceLeDiff, reduceIte, Nat.reduceEqDiff, Int.reduceLT, Int.reduceLE, Int.reduceGT, Int.reduceGE, Int.reduceEq, Int.reduceAdd, Int.reduceSub, Int.reduceMul, reduceCtorEq, p5, p6, zAO, zAM, zAP, zAN, zAJ, Option.isSome_some])
    (repeat (first | refine zS ?_ | refine zL ?_ | refine zR ?_ | refine zE ?_ | refine zC ?_ | refine zJ ?_ | refine zK ?_ | refine zP ?_ | refine zF ?_ | refine zH ?_ | refine zG ?_ | refine zI (by decide) ?_ | refine zQ ?_ | ((first | refine zD ?_ | refine zN ?_ | refine zO rfl ?_ | refine zM ?_); simp only [yq14.down, zA, lemS.down, lemC.down, Int.reduceBEq, Nat.reduceAdd, Nat.reduceLeDiff, reduceIte, Nat.reduceEqDiff, Int.reduceLT, Int.reduceLE, Int.reduceGT, Int.reduceGE, Int.reduceEq, Int.reduceAdd, Int.reduceSub, Int.reduceMul, reduceCtorEq, lemH.down, t1, t2, t7, t8, t9, t10, ww])))
    refine hnext (l.length - (i + 1)) _ g6 (by omega) ⟨i + 1, v4, rfl, by omega, gW.trans gg6, by have := gg6.next; omega, vcW.grow gg6, o4w.grow gg6, by simp only [yq14.down, zA, lemS.down, lemC.down, Int.reduceBEq, Nat.reduceAdd, Nat.reduceLeDiff, reduceIte, Nat.reduceEqDiff, Int.reduceLT, Int.reduceLE, Int.reduceGT, Int.reduceGE, Int.reduceEq, Int.reduceAdd, Int.reduceSub, Int.reduceMul, reduceCtorEq, t1], by simp only [yq14.down, zA, lemS.down, lemC.down, Int.reduceBEq, Nat.reduceAdd, Nat.reduceLeDiff, reduceIte, Nat.reduceEqDiff, Int.reduceLT, Int.reduceLE, Int.reduceGT, Int.reduceGE, Int.reduceEq, Int.reduceAdd, Int.reduceSub, Int.reduceMul, reduceCtorEq, t2], by simp only [yq14.down, zA, lemS.down, lemC.down, Int.reduceBEq, Nat.reduceAdd, Nat.reduceLeDiff, reduceIte, Nat.reduceEqDiff, Int.reduceLT, Int.reduceLE, Int.reduceGT, Int.reduceGE, Int.reduceEq, Int.reduceAdd, Int.reduceSub, Int.reduceMul, reduceCtorEq, t7], by simp only [yq14.down, zA, lemS.down, lemC.down, Int.reduceBEq, Nat.reduceAdd, Nat.reduceLeDiff, reduceIte, Nat.reduceEqDiff, Int.reduceLT, Int.reduceLE, Int.reduceGT, Int.reduceGE, Int.reduceEq, Int.reduceAdd, Int.reduceSub, Int.reduceMul, reduceCtorEq, t8], ?_, by simp only [yq14.down, zA, lemS.down, lemC.down, Int.reduceBEq, Nat.reduceAdd, Nat.reduceLeDiff, reduceIte, Nat.reduceEqDiff, Int.reduceLT, Int.reduceLE, Int.reduceGT, Int.reduceGE, Int.reduceEq, Int.reduceAdd, Int.reduceSub, Int.reduceMul, reduceCtorEq]⟩
    rw [es, ← List.append_assoc (numB l.length 1)]
    simp only [yq14.down, zA, lemS.down, lemC.down, Int.reduceBEq, Nat.reduceAdd, Nat.reduceLeDiff, reduceIte, Nat.reduceEqDiff, Int.reduceLT, Int.reduceLE, Int.reduceGT, Int.reduceGE, Int.reduceEq, Int.reduceAdd, Int.reduceSub, Int.reduceMul, reduceCtorEq]
  · obtain rfl : i = l.length := by omega
    have dlt : decide ((l.length : Int) < (l.length : Int)) = false := decide_eq_false (by omega)
    obtain ⟨av, cv, rfl, _⟩ := oc.shape
    have hs := zK8 (x := zh n) f9.1
    have hf := zYe (x := zh n) f9
    have hin := zK7 (x := zh n) (zGI f9)
    have hLl := zFa (zh n) l
    rw [List.take_length] at oc t9
    generalize zAU (zh n) l = L at *
    have t9 : t.get 9 = .string (zB (zAK L)) := by rw [t9]; unfold zAK; rw [hLl]
    have hcl : (zAK L).length ≤ 1000 := by rw [zF6]; omega
    have rc : RdTags g (.slice av l.length cv) L := oc.rdTags hin
    obtain ⟨p1, ep1, w1, gp1⟩ := zEj T.put.wire g
    obtain ⟨p2, ep2, w2, kp2⟩ := zFm T.put gp1 (S := fun A => g.next ≤ A) (fun A hA q => by omega) w1 w1.next rc (by omega) (by show 0 + 40000000 ≤ zU; omega)
    rw [List.nil_append] at w2
    have gp2 : Grows g p2 := gp1.then kp2 (fun A hA q => by omega)
    have cat := zAw (a := zAK L) (b := [120]) (by show (zAK L).length + 1 ≤ zU; omega)
    obtain ⟨p3, ep3, rd3, gp3⟩ := zIf T.put.wire p2 (zAK L ++ [120]) (by rw [List.length_append]; show (zAK L).length + 1 ≤ _; omega)
    obtain ⟨v15, p4, ep4, rd4, o4, in4, kp4⟩ := zIl T.take rd3
    rw [zYh hs hf (by omega)] at rd4 o4 in4
    have rd4 : Rd p4 p2.next ⟨zAK L ++ [120], (zAK L).length, 0⟩ := rd4
    have o4 : Own p4 (fun A => p3.next ≤ A) 2 v15 L.length (zi L) := o4
    have gp4 : Grows p2 p4 := gp3.then kp4 (fun A hA q => by omega)
    obtain ⟨q5, p5, ap5, sp5, vp5, gp5, np5⟩ := zD4 (g := p4) (o4.rdTags in4)
    have r15 : RdTags p5 v15 L := (o4.rdTags in4).grow gp5
    obtain ⟨p6, ep6, w6, gp6⟩ := zEj T.put.wire p5
    obtain ⟨p7, ep7, w7, kp7⟩ := zFm T.put gp6 (S := fun A => p5.next ≤ A) (fun A hA q => by omega) w6 w6.next r15 (by omega) (by show 0 + 40000000 ≤ zU; omega)
    rw [List.nil_append] at w7
    have gp7 : Grows p5 p7 := gp6.then kp7 (fun A hA q => by omega)
    have w2b : WrS p2 g.next (fun A => g.next ≤ A ∧ A < p2.next) (zAK L) := w2.mono fun A hA q => ⟨q, hA⟩
    have w27 : WrS p7 g.next (fun A => g.next ≤ A ∧ A < p2.next) (zAK L) := (((w2b.grow gp3).keep kp4 (fun A hA q => by omega)).grow gp5).grow gp7
    have wall1 := zEk T.put.wire (N := g.next) (w27.mono fun A _ q => q.1)
    have wall2 := zEk T.put.wire (N := p5.next) w7
    have rd7 := (rd4.grow gp5).grow gp7
    have left := zVk T.put.wire rd7
    have el : (((zAK L ++ [120]).length : Int) - ((zAK L).length : Int)) = 1 := by rw [List.length_append, List.length_singleton]; omega
    have left : cfi pr 56 [.pointer (some ⟨p2.next, 0, none⟩)] p7 = some (.int .i64 1, p7) := by rw [← el]; exact left
    have er7 : cfi pr 57 [.pointer (some ⟨p2.next, 0, none⟩)] p7 = some (.int .i64 0, p7) := zDF T.put.wire rd7
    have l8 : ∀ sp, p1.loadN ⟨hA.next, 0, sp⟩ 1 = some [.slice av l.length cv] := fun sp => (vc.grow gp1).loadAll rfl
    have l15 : ∀ sp, p6.loadN ⟨p4.next, 0, sp⟩ 1 = some [v15] := fun sp => (vp5.grow gp6).loadAll rfl
    obtain ⟨p8, ep8, rd8, gp8⟩ := zIf T.put.wire p7 u hu
    obtain ⟨v18, p9, ep9, rd9, o9, in9, kp9⟩ := zIl T.take rd8
    have gp9 : Grows p7 p9 := gp8.then kp9 (fun A hA q => by omega)
    obtain ⟨q10, p10, ap10, sp10, vp10, gp10, np10⟩ := zD4 (g := p9) (o9.rdTags in9)
    have rd10 := rd9.grow gp10
    have er10 := zDF T.put.wire rd10
    have hbad := zYf (r := ⟨u, 0, 0⟩)
    have hfine := zYg (s := u)
    have hss := takeR_s ⟨u, 0, 0⟩
    have hok := rd9.1.1
    generalize zt ⟨u, 0, 0⟩ = rr at *
    have hss : rr.1.s = u := hss
    rw [hss] at hok
    have gF : Grows h p10 := ((((((g2.trans gg).trans gp2).trans gp4).trans gp5).trans gp7).trans gp9).trans gp10
    have z120 : (Value.string (zB [120]) : Value) = Value.string (zB [120]) := rfl
    by_cases ce : rr.1.err = 0
    · have b0 : ((rr.1.err : Int) == 0) = true := by rw [ce]; rfl
      obtain ⟨hf1, hf2⟩ := hfine ce
      have r18 : RdTags p10 v18 rr.2 := (o9.rdTags in9).grow gp10
      obtain ⟨p11, ep11, w11, gp11⟩ := zEj T.put.wire p10
      obtain ⟨p12, ep12, w12, kp12⟩ := zFm T.put gp11 (S := fun A => p10.next ≤ A) (fun A hA q => by omega) w11 w11.next r18 (by omega) (by show 0 + 40000000 ≤ zU; omega)
      rw [List.nil_append] at w12
      have gp12 : Grows p10 p12 := gp11.then kp12 (fun A hA q => by omega)
      have wall3 := zEk T.put.wire (N := p10.next) w12
      rw [← hf1] at wall3
      have at12 := RAt_run T.put.wire (rd10.grow gp12)
      have l18 : ∀ sp, p11.loadN ⟨p9.next, 0, sp⟩ 1 = some [v18] := fun sp => (vp10.grow gp11).loadAll rfl
      have cut := cut_to (s := u) (n := rr.1.pos) (k := .i64) hok
      (repeat (first | refine zS ?_ | refine zL ?_ | refine zR ?_ | refine zE ?_ | refine zC ?_ | refine zJ ?_ | refine zK ?_ | refine zP ?_ | refine zF ?_ | refine zH ?_ | refine zG ?_ | refine zI (by decide) ?_ | refine zQ ?_ | ((first | refine zD ?_ | refine zN ?_ | refine zO rfl ?_ | refine zM ?_); simp only [yq14.down, zA, lemS.down, lemC.down, Int.reduceBEq, Nat.reduceAdd, Nat.reduceLeDiff, reduceIte, Nat.reduceEqDiff, Int.reduceLT, Int.reduceLE, Int.reduceGT, Int.reduceGE, Int.reduceEq, Int.reduceAdd, Int.reduceSub, Int.reduceMul, reduceCtorEq, lemH.down, t1, t2, t7, t8, t9, t10, dlt, ep1, l8, ep2, cat, ep3, ep4, ap5, sp5, ep6, l15, ep7, aw, wall1, wall2, left, er7, beq_self_eq_true, bne_self_eq_false, Bool.not_true, Bool.not_false, zAI, ep8, ep9, ap10, sp10, er10, b0, ep11, l18, ep12, wall3, at12, cut])))
      exact ⟨.inr rfl, by simp only [yq14.down, zA, lemS.down, lemC.down, Int.reduceBEq, Nat.reduceAdd, Nat.reduceLeDiff, reduceIte, Nat.reduceEqDiff, Int.reduceLT, Int.reduceLE, Int.reduceGT, Int.reduceGE, Int.reduceEq, Int.reduceAdd, Int.reduceSub, Int.reduceMul, reduceCtorEq], gF.trans gp12⟩
    · have b0 : ((rr.1.err : Int) == 0) = false := by rw [beq_eq_false_iff_ne]; omega
      obtain ⟨a18, c18, rfl, _⟩ := o9.shape
      rw [hbad ce] at o9 vp10 sp10 ep9
      have l18 : ∀ sp, p10.load ⟨p9.next, 0, sp⟩ = some (.slice a18 0 c18) := fun sp => vp10.load
      have ep9 : cfi pr 55 [.pointer (some ⟨p7.next, 0, none⟩)] p8 = some (.agg [.slice a18 0 c18].toArray, p9) := ep9
      have sp10 : zx q10 1 (.pointer (some ⟨p9.next, 0, none⟩)) (.agg [.slice a18 0 c18].toArray) = some (.tuple #[], p10) := sp10
      (repeat (first | refine zS ?_ | refine zL ?_ | refine zR ?_ | refine zE ?_ | refine zC ?_ | refine zJ ?_ | refine zK ?_ | refine zP ?_ | refine zF ?_ | refine zH ?_ | refine zG ?_ | refine zI (by decide) ?_ | refine zQ ?_ | ((first | refine zD ?_ | refine zN ?_ | refine zO rfl ?_ | refine zM ?_); simp only [yq14.down, zA, lemS.down, lemC.down, Int.reduceBEq, Nat.reduceAdd, Nat.reduceLeDiff, reduceIte, Nat.reduceEqDiff, Int.reduceLT, Int.reduceLE, Int.reduceGT, Int.reduceGE, Int.reduceEq, Int.reduceAdd, Int.reduceSub, Int.reduceMul, reduceCtorEq, lemH.down, t1, t2, t7, t8, t9, t10, dlt, ep1, l8, ep2, cat, ep3, ep4, ap5, sp5, ep6, l15, ep7, aw, wall1, wall2, left, er7, beq_self_eq_true, bne_self_eq_false, Bool.not_true, Bool.not_false, zAI, ep8, ep9, ap10, sp10, er10, b0, l18, Nat.add_zero, Int.natCast_zero])))
      exact ⟨.inr rfl, by simp only [yq14.down, zA, lemS.down, lemC.down, Int.reduceBEq, Nat.reduceAdd, Nat.reduceLeDiff, reduceIte, Nat.reduceEqDiff, Int.reduceLT, Int.reduceLE, Int.reduceGT, Int.reduceGE, Int.reduceEq, Int.reduceAdd, Int.reduceSub, Int.reduceMul, reduceCtorEq], gF⟩
end Go.X
end
section
open Go Go.X Go.Proofs Go.RowKit
namespace Go.X
set_option linter.unusedVariables false
theorem lawcU21 : Law17c (Tab Try.prog U21) := ⟨lawbU21, ⟨headU21.wire, rfl, zW Try.func52 cq52⟩, ⟨headU21.wire, rfl, zW Try.func55 cq55⟩⟩
theorem walkCertBytes (a n : Int) (hn : (Lit.int .u64 n).wf = true) (s : ByteArray) (hs : s.size ≤ maxLen) (w : World) : Calls Try.prog 14 #[.int .i64 a, .int .u64 n, .string s] w fun e w' => e = .returned (.bool true) ∧ Below w.heap.size w w' := by
  have h1 := wf_u64 hn
  have hl : s.data.toList.length ≤ 9223372036854775807 := by
    have : s.data.toList.length = s.size := rfl
    unfold maxLen at hs
    omega
  have := zVf _ lawcU21 a n.toNat (by omega) s.data.toList hl Heap.empty
  rw [show ((n.toNat : Nat) : Int) = n by omega, zCE] at this
  exact zWA uk21 rfl (zW Try.func14 cq14) rfl rfl rfl this w
end Go.X
end
