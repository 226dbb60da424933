/- Certificates in whatever order; an argument that is a slice of numbers. -/
import Derived.Test.YtmhkcnibbodjnaaXT
set_option linter.unusedSimpArgs false
set_option linter.unusedVariables false
set_option maxHeartbeats 2000000
section
open Go Go.X
namespace Go.X
set_option linter.unusedVariables false
def insP (r : Int) : List Int → List Int
  | [] => [r]
  | y :: m => if y < r then y :: insP r m else if y = r then y :: m else r :: y :: m
theorem insP_mem {r z : Int} : ∀ {m : List Int}, z ∈ insP r m ↔ z ∈ m ∨ z = r
  | [] => by simp [insP]
  | y :: m => by
    unfold insP
    split
    · simp only [List.mem_cons, insP_mem (m := m)]
      constructor
      · rintro (h | h | h) <;> simp [h]
      · rintro ((h | h) | h) <;> simp [h]
    · split
      · rename_i h
        subst h
        simp only [List.mem_cons]
        constructor
        · rintro (h | h) <;> simp [h]
        · rintro ((h | h) | h) <;> simp [h]
      · simp only [List.mem_cons]
        constructor
        · rintro (h | h | h) <;> simp [h]
        · rintro ((h | h) | h) <;> simp [h]
theorem zJa {r : Int} : ∀ {m : List Int}, m.Pairwise (· < ·) → (insP r m).Pairwise (· < ·)
  | [], _ => List.pairwise_singleton _ _
  | y :: m, h => by
    obtain ⟨h1, h2⟩ := List.pairwise_cons.1 h
    unfold insP
    split
    · rename_i hy
      refine List.pairwise_cons.2 ⟨fun z hz => ?_, zJa h2⟩
      rcases insP_mem.1 hz with hz | rfl
      · exact h1 z hz
      · exact hy
    · split
      · exact h
      · rename_i hy hn
        refine List.pairwise_cons.2 ⟨fun z hz => ?_, h⟩
        rcases List.mem_cons.1 hz with rfl | hz
        · omega
        · have := h1 z hz; omega
theorem zJ5 {q : Int × List UInt8} {L : TagL} {r : Int} : zAM (q :: L) r = if q.1 < r then zAM L r + 1 else 0 := by
  unfold zAM
  by_cases h : q.1 < r
  · rw [if_pos h, List.takeWhile_cons_of_pos (by simpa using h)]
    rfl
  · rw [if_neg h, List.takeWhile_cons_of_neg (by simpa using h)]
    rfl
theorem isT_cons {q : Int × List UInt8} {L : TagL} {r : Int} : isT (q :: L) r = if q.1 < r then isT L r else q.1 == r := by
  unfold isT
  rw [zJ5]
  by_cases h : q.1 < r
  · rw [if_pos h, if_pos h]
    simp
  · rw [if_neg h, if_neg h]
    simp
theorem zUW {q : Int × List UInt8} {L : TagL} {r : Int} {t : List UInt8} : addT (q :: L) (r, t) = if q.1 < r then q :: addT L (r, t) else if q.1 = r then q :: L else (r, t) :: q :: L := by
  unfold addT
  show (if isT (q :: L) r = true then _ else _) = _
  rw [isT_cons]
  show (if _ then q :: L else (q :: L).take (zAM (q :: L) r) ++ [(r, t)] ++ (q :: L).drop (zAM (q :: L) r)) = _
  rw [zJ5]
  by_cases h : q.1 < r
  · rw [if_pos h, if_pos h, if_pos h]
    by_cases h2 : isT L r = true
    · rw [if_pos h2, if_pos h2]
    · rw [if_neg h2, if_neg h2]
      rfl
  · rw [if_neg h, if_neg h, if_neg h]
    by_cases h2 : q.1 = r
    · rw [if_pos (by simpa using h2), if_pos h2]
    · rw [if_neg (by simpa using h2), if_neg h2]
      rfl
theorem zFj {x : Hdr} {r : Int} {t : List UInt8} (ht : t = tagC r.toNat x) : ∀ m : List Int, addT (zz x m) (r, t) = zz x (insP r m)
  | [] => by rw [ht]; rfl
  | y :: m => by
    have e : ∀ z M, zz x (z :: M) = (z, tagC z.toNat x) :: zz x M := fun _ _ => rfl
    rw [e, zUW]
    unfold insP
    show (if y < r then _ else if y = r then _ else _) = _
    by_cases h : y < r
    · rw [if_pos h, if_pos h, zFj ht m, e]
    · rw [if_neg h, if_neg h]
      by_cases h2 : y = r
      · rw [if_pos h2, if_pos h2, e]
      · rw [if_neg h2, if_neg h2, e, e, ht]
theorem zKU : ∀ {l m : List Int}, l.Pairwise (· < ·) → m.Pairwise (· < ·) → (∀ x, x ∈ l ↔ x ∈ m) → l = m
  | [], [], _, _, _ => rfl
  | [], y :: m, _, _, h => by have := (h y).2 (by simp); simp at this
  | x :: l, [], _, _, h => by have := (h x).1 (by simp); simp at this
  | x :: l, y :: m, h1, h2, h => by
    obtain ⟨a1, a2⟩ := List.pairwise_cons.1 h1
    obtain ⟨b1, b2⟩ := List.pairwise_cons.1 h2
    have e : x = y := by
      have p := (h x).1 (by simp)
      have q := (h y).2 (by simp)
      rcases List.mem_cons.1 p with p | p
      · exact p
      · rcases List.mem_cons.1 q with q | q
        · exact q.symm
        · have := a1 y q
          have := b1 x p
          omega
    subst e
    congr 1
    refine zKU a2 b2 fun z => ?_
    have hz := h z
    simp only [List.mem_cons] at hz
    constructor
    · intro q
      have := a1 z q
      rcases hz.1 (.inr q) with p | p
      · omega
      · exact p
    · intro q
      have := b1 z q
      rcases hz.2 (.inr q) with p | p
      · omega
      · exact p
theorem round_in {P L k : Nat} (hk : k < L) : ∃ j, P ≤ j ∧ j < P + L ∧ j % L = k := by
  have hP : L * (P / L) + P % L = P := Nat.div_add_mod P L
  have hc : P % L < L := Nat.mod_lt _ (by omega)
  generalize P / L = q at *
  generalize P % L = c at *
  by_cases h : c ≤ k
  · exact ⟨L * q + k, by omega, by omega, by rw [Nat.mul_add_mod, Nat.mod_eq_of_lt hk]⟩
  · exact ⟨L * q + L + k, by omega, by omega, by rw [← Nat.mul_succ, Nat.mul_add_mod, Nat.mod_eq_of_lt hk]⟩
def Added (l mb : List Int) (P i : Nat) : Prop := mb.Pairwise (· < ·) ∧ (∀ y ∈ mb, y ∈ l) ∧ ∀ j, P ≤ j → j < i → l.getD (j % l.length) 0 ∈ mb
theorem Added.none {l : List Int} {P : Nat} : Added l [] P 0 := ⟨List.Pairwise.nil, by simp, fun j _ h => by omega⟩
theorem Added.step {l mb : List Int} {P i k : Nat} (h : Added l mb P i) (hk : k < l.length) (hp : P ≤ i → k = i % l.length) : Added l (insP (l.getD k 0) mb) P (i + 1) := by
  refine ⟨zJa h.1, fun y hy => ?_, fun j h1 h2 => ?_⟩
  · rcases insP_mem.1 hy with hy | rfl
    · exact h.2.1 y hy
    · exact zEE hk
  · rw [insP_mem]
    by_cases e : j = i
    · subst e
      right
      rw [hp h1]
    · exact .inl (h.2.2 j h1 (by omega))
theorem Added.all {l mb : List Int} {P : Nat} (hl : l.Pairwise (· < ·)) (h : Added l mb P (P + l.length)) : mb = l := by
  refine zKU h.1 hl fun x => ⟨h.2.1 x, fun hx => ?_⟩
  obtain ⟨k, hk, rfl⟩ := List.getElem_of_mem hx
  obtain ⟨j, j1, j2, j3⟩ := round_in (P := P) hk
  have := h.2.2 j j1 j2
  rw [j3, List.getD_eq_getElem?_getD, List.getElem?_eq_getElem hk] at this
  exact this
end Go.X
end
section
open Go Go.X
namespace Go.X
set_option linter.unusedVariables false
theorem sub_len {l mb : List Int} (hm : mb.Pairwise (· < ·)) (hf : Few l) (hs : ∀ y ∈ mb, y ∈ l) : mb.length ≤ 16 := by
  have key : ∀ (b : Nat) (m : List Int), m.Pairwise (· < ·) → (∀ y ∈ m, (16 - b : Int) ≤ y ∧ y < 16) → m.length ≤ b := by
    intro b
    induction b with
    | zero =>
      intro m _ h
      cases m with
      | nil => simp
      | cons y m => have := h y (by simp); omega
    | succ b ih =>
      intro m hp h
      cases m with
      | nil => simp
      | cons y m =>
        obtain ⟨h1, h2⟩ := List.pairwise_cons.1 hp
        have := ih m h2 (fun z hz => by have := h1 z hz; have := h y (by simp); have := h z (by simp [hz]); omega)
        rw [List.length_cons]
        omega
  exact key 16 mb hm fun y hy => by have := hf.2 y (hs y hy); omega
theorem pick_mod {p : Int} {n : Nat} (h0 : 0 < n) (hn : n ≤ 16) : ∃ (q : Int) (k : Nat), k < n ∧ binX .rem (.int .i64 p) (.int .i64 (n : Int)) = some (.int .i64 q) ∧ IntKind.i64.wrap (q + (n : Int)) = q + (n : Int) ∧ binX .rem (.int .i64 (q + (n : Int))) (.int .i64 (n : Int)) = some (.int .i64 (k : Int)) := by
  have a1 : p.tmod (n : Int) < n := Int.tmod_lt_of_pos _ (by omega)
  have a2 : -(n : Int) < p.tmod (n : Int) := by
    have := Int.lt_tmod_of_pos p (b := (n : Int)) (by omega)
    exact this
  have e1 := zFo (k := .i64) (a := p) (b := (n : Int)) (by omega)
  refine ⟨p.tmod n, (p.tmod n + n).toNat % n, Nat.mod_lt _ h0, e1, wrap_i64 (by omega) (by omega), ?_⟩
  have e2 := zEQ (k := .i64) (a := (p.tmod n + n).toNat) (b := n) (by omega)
  rw [show (((p.tmod n + n).toNat : Nat) : Int) = p.tmod n + n by omega] at e2
  exact e2
set_option maxRecDepth 100000 in
set_option maxHeartbeats 4000000 in
theorem zFc (pr : Prog) (T : Law17c pr) (s : Int) (n : Nat) (hn : n < 18446744073709551616) (h : Heap) (pv : Value) (ps : List Int) (hp : RdInts h pv ps) : Comes pr xq13 [.int .i64 s, .int .u64 (n : Int), pv] h (.bool true) := by
  apply Comes.of
  unfold xq13
  dsimp only [zc]
  have hr64 : zU = 140737488355328 := rfl
  have aw := fun g : Heap => zf (h := g) T.b.aw (s := trueS) (args := []) rfl
  have an2 := zUa (a := s)
  obtain ⟨hpb, pa, pc, rfl, elp⟩ := hp.elim
  by_cases hP : 40 < ps.length
  · have d1 : decide ((ps.length : Int) > 40) = true := decide_eq_true (by omega)
    (repeat (first | refine zS ?_ | refine zL ?_ | refine zR ?_ | refine zE ?_ | refine zC ?_ | refine zJ ?_ | refine zK ?_ | refine zP ?_ | refine zF ?_ | refine zH ?_ | refine zG ?_ | refine zI (by decide) ?_ | refine zQ ?_ | ((first | refine zD ?_ | refine zN ?_ | refine zO rfl ?_ | refine zM ?_); simp only [yq13.down, zA, lemS.down, lemC.down, Int.reduceBEq, Nat.reduceAdd, Nat.reduceLeDiff, reduceIte, Nat.reduceEqDiff, Int.reduceLT, Int.reduceLE, Int.reduceGT, Int.reduceGE, Int.reduceEq, Int.reduceAdd, Int.reduceSub, Int.reduceMul, reduceCtorEq, lemH.down, aw, d1, Bool.not_true, zAS])))
    exact ⟨.inr rfl, by simp only [yq13.down, zA, lemS.down, lemC.down, Int.reduceBEq, Nat.reduceAdd, Nat.reduceLeDiff, reduceIte, Nat.reduceEqDiff, Int.reduceLT, Int.reduceLE, Int.reduceGT, Int.reduceGE, Int.reduceEq, Int.reduceAdd, Int.reduceSub, Int.reduceMul, reduceCtorEq], Grows.refl _⟩
  have d1 : decide ((ps.length : Int) > 40) = false := decide_eq_false (by omega)
  obtain ⟨v9, hA, e2, r9, g2'⟩ := list_run T.b.list T.b.listC (h := h) (a := s % 65536)
  rw [zUi (by omega)] at r9
  have f9 := few_bits s
  have hb9 := zFq s 16
  generalize zAd s 16 = l at *
  obtain ⟨b9, a9, c9, rfl, el9⟩ := r9.elim
  obtain ⟨hC, aC, vC, gC, nC⟩ := box1 (h := hA) (v := .slice none 0 0) rfl
  obtain ⟨hD, aD, vD, gD, nD⟩ := box1 (h := hC) (v := .slice none 0 0) rfl
  rw [nC] at vD
  have vC1 := vC.grow gD
  have stC : zu hD 1 (.pointer (some ⟨hA.next, 0, none⟩)) (.agg [.slice none 0 0].toArray) = some (.tuple #[], hD.wr hA.next [.slice none 0 0]) := vC1.storeAll rfl rfl (by decide) rfl
  have vD1 : Var (hD.wr hA.next [.slice none 0 0]) (hA.next + 1) [.slice none 0 0] := vD.wr_ne (by omega)
  have stD : zu (hD.wr hA.next [.slice none 0 0]) 1 (.pointer (some ⟨hA.next + 1, 0, none⟩)) (.agg [.slice none 0 0].toArray) = some (.tuple #[], (hD.wr hA.next [.slice none 0 0]).wr (hA.next + 1) [.slice none 0 0]) := vD1.storeAll rfl rfl (by decide) rfl
  (repeat (first | refine zS ?_ | refine zL ?_ | refine zR ?_ | refine zE ?_ | refine zC ?_ | refine zJ ?_ | refine zK ?_ | refine zP ?_ | refine zF ?_ | refine zH ?_ | refine zG ?_ | refine zI (by decide) ?_ | refine zQ ?_ | ((first | refine zD ?_ | refine zN ?_ | refine zO rfl ?_ | refine zM ?_); simp only [yq13.down, zA, lemS.down, lemC.down, Int.reduceBEq, Nat.reduceAdd, Nat.reduceLeDiff, reduceIte, Nat.reduceEqDiff, Int.reduceLT, Int.reduceLE, Int.reduceGT, Int.reduceGE, Int.reduceEq, Int.reduceAdd, Int.reduceSub, Int.reduceMul, reduceCtorEq, lemH.down, aw, d1, Bool.not_true, zAS, an2, e2, zGF, aC, nC, aD, stC, stD])))
  have gE : Grows hA ((hD.wr hA.next [.slice none 0 0]).wr (hA.next + 1) [.slice none 0 0]) := ((gC.trans gD).wr (Nat.le_refl _)).wr (by omega)
  have vCE : Var ((hD.wr hA.next [.slice none 0 0]).wr (hA.next + 1) [.slice none 0 0]) hA.next [.slice none 0 0] := vC1.wr.wr_ne (by omega)
  have vDE : Var ((hD.wr hA.next [.slice none 0 0]).wr (hA.next + 1) [.slice none 0 0]) (hA.next + 1) [.slice none 0 0] := vD1.wr
  have nE : hA.next + 2 ≤ ((hD.wr hA.next [.slice none 0 0]).wr (hA.next + 1) [.slice none 0 0]).next := by show hA.next + 2 ≤ hD.next; omega
  generalize (hD.wr hA.next [.slice none 0 0]).wr (hA.next + 1) [.slice none 0 0] = hE at *
  refine zo (fun m t g => ∃ i v, m = l.length - i ∧ i ≤ l.length ∧ Grows hA g ∧ hA.next + 2 ≤ g.next ∧ Var g hA.next [v] ∧ Var g (hA.next + 1) [.slice none 0 0] ∧ Own g (fun A => hA.next + 2 ≤ A) 2 v i (zk (zz (ze n) (l.take i))) ∧ t.get 1 = .int .u64 (n : Int) ∧ t.get 2 = .slice pa ps.length pc ∧ t.get 7 = .slice a9 l.length c9 ∧ t.get 8 = .pointer (some ⟨hA.next, 0, none⟩) ∧ t.get 9 = .pointer (some ⟨hA.next + 1, 0, none⟩) ∧ t.get 10 = .int .i64 (i : Int)) ?_ l.length _ _
    ⟨0, _, rfl, by omega, gE, nE, vCE, vDE, Own.nil, by simp only [yq13.down, zA, lemS.down, lemC.down, Int.reduceBEq, Nat.reduceAdd, Nat.reduceLeDiff, reduceIte, Nat.reduceEqDiff, Int.reduceLT, Int.reduceLE, Int.reduceGT, Int.reduceGE, Int.reduceEq, Int.reduceAdd, Int.reduceSub, Int.reduceMul, reduceCtorEq], by simp only [yq13.down, zA, lemS.down, lemC.down, Int.reduceBEq, Nat.reduceAdd, Nat.reduceLeDiff, reduceIte, Nat.reduceEqDiff, Int.reduceLT, Int.reduceLE, Int.reduceGT, Int.reduceGE, Int.reduceEq, Int.reduceAdd, Int.reduceSub, Int.reduceMul, reduceCtorEq], by simp only [yq13.down, zA, lemS.down, lemC.down, Int.reduceBEq, Nat.reduceAdd, Nat.reduceLeDiff, reduceIte, Nat.reduceEqDiff, Int.reduceLT, Int.reduceLE, Int.reduceGT, Int.reduceGE, Int.reduceEq, Int.reduceAdd, Int.reduceSub, Int.reduceMul, reduceCtorEq], by simp only [yq13.down, zA, lemS.down, lemC.down, Int.reduceBEq, Nat.reduceAdd, Nat.reduceLeDiff, reduceIte, Nat.reduceEqDiff, Int.reduceLT, Int.reduceLE, Int.reduceGT, Int.reduceGE, Int.reduceEq, Int.reduceAdd, Int.reduceSub, Int.reduceMul, reduceCtorEq], by simp only [yq13.down, zA, lemS.down, lemC.down, Int.reduceBEq, Nat.reduceAdd, Nat.reduceLeDiff, reduceIte, Nat.reduceEqDiff, Int.reduceLT, Int.reduceLE, Int.reduceGT, Int.reduceGE, Int.reduceEq, Int.reduceAdd, Int.reduceSub, Int.reduceMul, reduceCtorEq], by (simp only [yq13.down, zA, lemS.down, lemC.down, Int.reduceBEq, Nat.reduceAdd, Nat.reduceLeDiff, reduceIte, Nat.reduceEqDiff, Int.reduceLT, Int.reduceLE, Int.reduceGT, Int.reduceGE, Int.reduceEq, Int.reduceAdd, Int.reduceSub, Int.reduceMul, reduceCtorEq]) <;> rfl⟩
  rintro m t g ⟨i, v, rfl, hi, gg, gn, vc, vd, oc, t1, t2, t7, t8, t9, t10⟩ hnext
  refine xq13_12k ?_
  dsimp only [zHd]
  have hinL : ∀ m, ∀ q ∈ zz (ze n) (l.take m), inI q.1 := fun m => zKi (zD8 (f9.take m))
  by_cases hlt : i < l.length
  · have dlt : decide ((i : Int) < (l.length : Int)) = true := decide_eq_true (by omega)
    obtain ⟨k, hk, ek, sg⟩ := zG9 (n := n) f9 hlt
    obtain ⟨B, o, ia, ld⟩ := el9 i hlt
    obtain ⟨g1, e1, r1, gg1⟩ := zCy T.b.law.cert g
    obtain ⟨mv, g2, eh, x2, gg2⟩ := zCq T.b.law.cert g1 n hn
    have p0 := ld g gg
    have p1 := ld g1 (gg.trans gg1)
    have p2 := ld g2 ((gg.trans gg1).trans gg2)
    have s1 := zq T.b.law.cert.sign (zEX (i := l.getD i 0) (r1.grow gg2).now zCs x2.now)
    rw [sg] at s1
    have s1 : cfi pr 41 [.pointer (some ⟨g.next, 0, none⟩), .int .i64 (l.getD i 0), .agg (zd (ze n) mv).toArray] g2 = some (.tuple #[tagV (l.getD i 0) (tagC (l.getD i 0).toNat (ze n)), .int .i64 0], g2) := s1
    obtain ⟨tg, htg⟩ : ∃ tg, tagC (l.getD i 0).toNat (ze n) = tg := ⟨_, rfl⟩
    rw [htg] at s1
    obtain ⟨q3, g3, a3, st3, v3, gg3, n3⟩ := zDh (g := g2) (r := l.getD i 0) (t := tg)
    have st3 : zu q3 2 (.pointer (some ⟨g2.next, 0, none⟩)) (.agg [.int .i64 (l.getD i 0), .string (zB tg)].toArray) = some (.tuple #[], g3) := st3
    have gB := (gg1.trans gg2).trans gg3
    have hin : inI (l.getD i 0) := zD8 f9 _ (zEE hlt)
    have rc : RdTags g3 v (zz (ze n) (l.take i)) := (oc.rdTags (hinL _)).grow gB
    have hlen : ∀ m, (zz (ze n) (l.take m)).length ≤ 1000000 := fun m => by rw [zC2, List.length_take]; omega
    obtain ⟨v4, g4, e4, o4, gg4⟩ := zEh T.b.law.add rc (zHA (f9.take _).1) (hlen _) (t := tg) hin
    rw [add_up f9 hlt htg.symm] at o4
    have e4 : cfi pr 48 [.agg [v].toArray, .agg [.int .i64 (l.getD i 0), .string (zB tg)].toArray] g3 = some (.agg [v4].toArray, g4) := e4
    have l3 : ∀ sp, g3.loadN ⟨g2.next, 0, sp⟩ 2 = some [.int .i64 (l.getD i 0), .string (zB tg)] := fun sp => v3.loadAll rfl
    have c3 : ∀ sp, g3.loadN ⟨hA.next, 0, sp⟩ 1 = some [v] := fun sp => (vc.grow gB).loadAll rfl
    have gX := gB.trans gg4
    have vcN := vc.grow gX
    have st4 : zu g4 1 (.pointer (some ⟨hA.next, 0, none⟩)) (.agg [v4].toArray) = some (.tuple #[], g4.wr hA.next [v4]) := vcN.storeAll rfl rfl (by decide) (by simp [o4.one])
    have gW : Grows hA (g4.wr hA.next [v4]) := (gg.trans gX).wr (Nat.le_refl _)
    have gn3 := gB.next
    have gn4 := gX.next
    have o4w : Own (g4.wr hA.next [v4]) (fun A => hA.next + 2 ≤ A) 2 v4 (i + 1) (zk (zz (ze n) (l.take (i + 1)))) := by
      rw [zC2, List.length_take, Nat.min_eq_left (by omega)] at o4
      exact (o4.keep Keeps.wr (fun A hA e => by omega)).mono (fun A hA => by omega)
    have ww : IntKind.i64.wrap ((i : Int) + 1) = ((i + 1 : Nat) : Int) := by rw [wrap_i64 (by omega) (by omega)]; omega
    (repeat (first | refine zS ?_ | refine zL ?_ | refine zR ?_ | refine zE ?_ | refine zC ?_ | refine zJ ?_ | refine zK ?_ | refine zP ?_ | refine zF ?_ | refine zH ?_ | refine zG ?_ | refine zI (by decide) ?_ | refine zQ ?_ | ((first | refine zD ?_ | refine zN ?_ | refine zO rfl ?_ | refine zM ?_); simp only [yq13.down, zA, lemS.down, lemC.down, Int.reduceBEq, Nat.reduceAdd, Nat.reduceLeDiff, reduceIte, Nat.reduceEqDiff, Int.reduceLT, Int.reduceLE, Int.reduceGT, Int.reduceGE, Int.reduceEq, Int.reduceAdd, Int.reduceSub, Int.reduceMul, reduceCtorEq, lemH.down, t1, t2, t7, t8, t9, t10, dlt, zAG, ia, e1, p0, p1, eh, s1, a3, st3])))
    refine ⟨?_, ?_, ?_⟩
    · (refine zAa rfl rfl rfl ?_ ?_ <;> simp only [yq13.down, zA, lemS.down, lemC.down, Int.reduceBEq, Nat.reduceAdd, Nat.reduceLeDiff, reduceIte, Nat.reduceEqDiff, Int.reduceLT, Int.reduceLE, Int.reduceGT, Int.reduceGE, Int.reduceEq, Int.reduceAdd, Int.reduceSub, Int.reduceMul, reduceCtorEq, p0, p1, zAH, zAE, zAI, zAF, zAD, Option.isSome_some])
    · (refine zAa rfl rfl rfl ?_ ?_ <;> simp only [yq13.down, zA, lemS.down, lemC.down, Int.reduceBEq, Nat.reduceAdd, Nat.reduceLeDiff, reduceIte, Nat.reduceEqDiff, Int.reduceLT, Int.reduceLE, Int.reduceGT, Int.reduceGE, Int.reduceEq, Int.reduceAdd, Int.reduceSub, Int.reduceMul, reduceCtorEq, p1, p2, zAH, zAE, zAI, zAF, zAD, Option.isSome_some])
    (repeat (first | refine zS ?_ | refine zL ?_ | refine zR ?_ | refine zE ?_ | refine zC ?_ | refine zJ ?_ | refine zK ?_ | refine zP ?_ | refine zF ?_ | refine zH ?_ | refine zG ?_ | refine zI (by decide) ?_ | refine zQ ?_ | ((first | refine zD ?_ | refine zN ?_ | refine zO rfl ?_ | refine zM ?_); simp only [yq13.down, zA, lemS.down, lemC.down, Int.reduceBEq, Nat.reduceAdd, Nat.reduceLeDiff, reduceIte, Nat.reduceEqDiff, Int.reduceLT, Int.reduceLE, Int.reduceGT, Int.reduceGE, Int.reduceEq, Int.reduceAdd, Int.reduceSub, Int.reduceMul, reduceCtorEq, lemH.down, t1, t2, t7, t8, t9, t10, c3, l3, e4, st4, ww])))
    exact hnext (l.length - (i + 1)) _ _ (by omega) ⟨i + 1, v4, rfl, by omega, gW, by show hA.next + 2 ≤ g4.next; omega, vcN.wr, (vd.grow gX).wr_ne (by omega), o4w, by simp only [yq13.down, zA, lemS.down, lemC.down, Int.reduceBEq, Nat.reduceAdd, Nat.reduceLeDiff, reduceIte, Nat.reduceEqDiff, Int.reduceLT, Int.reduceLE, Int.reduceGT, Int.reduceGE, Int.reduceEq, Int.reduceAdd, Int.reduceSub, Int.reduceMul, reduceCtorEq, t1], by simp only [yq13.down, zA, lemS.down, lemC.down, Int.reduceBEq, Nat.reduceAdd, Nat.reduceLeDiff, reduceIte, Nat.reduceEqDiff, Int.reduceLT, Int.reduceLE, Int.reduceGT, Int.reduceGE, Int.reduceEq, Int.reduceAdd, Int.reduceSub, Int.reduceMul, reduceCtorEq, t2], by simp only [yq13.down, zA, lemS.down, lemC.down, Int.reduceBEq, Nat.reduceAdd, Nat.reduceLeDiff, reduceIte, Nat.reduceEqDiff, Int.reduceLT, Int.reduceLE, Int.reduceGT, Int.reduceGE, Int.reduceEq, Int.reduceAdd, Int.reduceSub, Int.reduceMul, reduceCtorEq, t7], by simp only [yq13.down, zA, lemS.down, lemC.down, Int.reduceBEq, Nat.reduceAdd, Nat.reduceLeDiff, reduceIte, Nat.reduceEqDiff, Int.reduceLT, Int.reduceLE, Int.reduceGT, Int.reduceGE, Int.reduceEq, Int.reduceAdd, Int.reduceSub, Int.reduceMul, reduceCtorEq, t8], by simp only [yq13.down, zA, lemS.down, lemC.down, Int.reduceBEq, Nat.reduceAdd, Nat.reduceLeDiff, reduceIte, Nat.reduceEqDiff, Int.reduceLT, Int.reduceLE, Int.reduceGT, Int.reduceGE, Int.reduceEq, Int.reduceAdd, Int.reduceSub, Int.reduceMul, reduceCtorEq, t9], by simp only [yq13.down, zA, lemS.down, lemC.down, Int.reduceBEq, Nat.reduceAdd, Nat.reduceLeDiff, reduceIte, Nat.reduceEqDiff, Int.reduceLT, Int.reduceLE, Int.reduceGT, Int.reduceGE, Int.reduceEq, Int.reduceAdd, Int.reduceSub, Int.reduceMul, reduceCtorEq]⟩
  obtain rfl : i = l.length := by omega
  have dlt : decide ((l.length : Int) < (l.length : Int)) = false := decide_eq_false (by omega)
  rw [List.take_length] at oc
  (repeat (first | refine zS ?_ | refine zL ?_ | refine zR ?_ | refine zE ?_ | refine zC ?_ | refine zJ ?_ | refine zK ?_ | refine zP ?_ | refine zF ?_ | refine zH ?_ | refine zG ?_ | refine zI (by decide) ?_ | refine zQ ?_ | ((first | refine zD ?_ | refine zN ?_ | refine zO rfl ?_ | refine zM ?_); simp only [yq13.down, zA, lemS.down, lemC.down, Int.reduceBEq, Nat.reduceAdd, Nat.reduceLeDiff, reduceIte, Nat.reduceEqDiff, Int.reduceLT, Int.reduceLE, Int.reduceGT, Int.reduceGE, Int.reduceEq, Int.reduceAdd, Int.reduceSub, Int.reduceMul, reduceCtorEq, lemH.down, t1, t2, t7, t8, t9, t10, dlt])))
  clear hnext
  have oa := oc.bound
  refine zo (fun m t g' => ∃ i v mb, m = ps.length + l.length - i ∧ i ≤ ps.length + l.length ∧ (l.length = 0 → i = 0) ∧ Added l mb ps.length i ∧ Keeps (fun A => A = hA.next + 1) g g' ∧ Var g' (hA.next + 1) [v] ∧ Own g' (fun A => g.next ≤ A) 2 v mb.length (zk (zz (ze n) mb)) ∧ t.get 1 = .int .u64 (n : Int) ∧ t.get 2 = .slice pa ps.length pc ∧ t.get 7 = .slice a9 l.length c9 ∧ t.get 8 = .pointer (some ⟨hA.next, 0, none⟩) ∧ t.get 9 = .pointer (some ⟨hA.next + 1, 0, none⟩) ∧ t.get 13 = .int .i64 (i : Int)) ?_ (ps.length + l.length) _ _
    ⟨0, _, [], rfl, by omega, fun _ => rfl, Added.none, Keeps.refl, vd, Own.nil, by simp only [yq13.down, zA, lemS.down, lemC.down, Int.reduceBEq, Nat.reduceAdd, Nat.reduceLeDiff, reduceIte, Nat.reduceEqDiff, Int.reduceLT, Int.reduceLE, Int.reduceGT, Int.reduceGE, Int.reduceEq, Int.reduceAdd, Int.reduceSub, Int.reduceMul, reduceCtorEq, t1], by simp only [yq13.down, zA, lemS.down, lemC.down, Int.reduceBEq, Nat.reduceAdd, Nat.reduceLeDiff, reduceIte, Nat.reduceEqDiff, Int.reduceLT, Int.reduceLE, Int.reduceGT, Int.reduceGE, Int.reduceEq, Int.reduceAdd, Int.reduceSub, Int.reduceMul, reduceCtorEq, t2], by simp only [yq13.down, zA, lemS.down, lemC.down, Int.reduceBEq, Nat.reduceAdd, Nat.reduceLeDiff, reduceIte, Nat.reduceEqDiff, Int.reduceLT, Int.reduceLE, Int.reduceGT, Int.reduceGE, Int.reduceEq, Int.reduceAdd, Int.reduceSub, Int.reduceMul, reduceCtorEq, t7], by simp only [yq13.down, zA, lemS.down, lemC.down, Int.reduceBEq, Nat.reduceAdd, Nat.reduceLeDiff, reduceIte, Nat.reduceEqDiff, Int.reduceLT, Int.reduceLE, Int.reduceGT, Int.reduceGE, Int.reduceEq, Int.reduceAdd, Int.reduceSub, Int.reduceMul, reduceCtorEq, t8], by simp only [yq13.down, zA, lemS.down, lemC.down, Int.reduceBEq, Nat.reduceAdd, Nat.reduceLeDiff, reduceIte, Nat.reduceEqDiff, Int.reduceLT, Int.reduceLE, Int.reduceGT, Int.reduceGE, Int.reduceEq, Int.reduceAdd, Int.reduceSub, Int.reduceMul, reduceCtorEq, t9], by (simp only [yq13.down, zA, lemS.down, lemC.down, Int.reduceBEq, Nat.reduceAdd, Nat.reduceLeDiff, reduceIte, Nat.reduceEqDiff, Int.reduceLT, Int.reduceLE, Int.reduceGT, Int.reduceGE, Int.reduceEq, Int.reduceAdd, Int.reduceSub, Int.reduceMul, reduceCtorEq]) <;> rfl⟩
  rintro m t g' ⟨i, v', mb, rfl, hi', hz, hadd, kk, vb, ob, t1, t2, t7, t8, t9, t13⟩ hnext
  refine xq13_21k ?_
  dsimp only [zHe]
  have kn := kk.next
  have gA' : Grows hA g' := gg.then kk (fun A hA q => by omega)
  have hml := sub_len hadd.1 f9 hadd.2.1
  have hinb : ∀ q ∈ zz (ze n) mb, inI q.1 := zKi (fun y hy => zD8 f9 y (hadd.2.1 y hy))
  have wpl : IntKind.i64.wrap ((ps.length : Int) + (l.length : Int)) = (ps.length : Int) + (l.length : Int) := wrap_i64 (by omega) (by omega)
  by_cases hgo : i < ps.length + l.length ∧ 0 < l.length
  · obtain ⟨hlt, hl0⟩ := hgo
    have d2 : decide ((i : Int) < (ps.length : Int) + (l.length : Int)) = true := decide_eq_true (by omega)
    have d3 : decide ((i : Int) < 60) = true := decide_eq_true (by omega)
    have d4 : decide ((l.length : Int) > 0) = true := decide_eq_true (by omega)
    have rm := zEQ (k := .i64) (a := i) (b := l.length) (by omega)
    by_cases hip : i < ps.length
    · have d5 : decide ((i : Int) < (ps.length : Int)) = true := decide_eq_true (by omega)
      obtain ⟨Bp, op, iap, ldp⟩ := elp i hip
      have lp := ldp g' (g2'.trans gA')
      obtain ⟨q, k, hk, m1, m2, m3⟩ := pick_mod (p := ps.getD i 0) hl0 hb9
      have hkp : ps.length ≤ i → k = i % l.length := fun q => by omega
      obtain ⟨k', hk', ek, sg⟩ := zG9 (n := n) f9 hk
      obtain ⟨B, o, ia, ld⟩ := el9 k hk
      obtain ⟨g1, e1, r1, gg1⟩ := zCy T.b.law.cert g'
      obtain ⟨mv, g2, eh, x2, gg2⟩ := zCq T.b.law.cert g1 n hn
      have p0 := ld g' gA'
      have p1 := ld g1 (gA'.trans gg1)
      have p2 := ld g2 ((gA'.trans gg1).trans gg2)
      have s1 := zq T.b.law.cert.sign (zEX (i := l.getD k 0) (r1.grow gg2).now zCs x2.now)
      rw [sg] at s1
      have s1 : cfi pr 41 [.pointer (some ⟨g'.next, 0, none⟩), .int .i64 (l.getD k 0), .agg (zd (ze n) mv).toArray] g2 = some (.tuple #[tagV (l.getD k 0) (tagC (l.getD k 0).toNat (ze n)), .int .i64 0], g2) := s1
      obtain ⟨tg, htg⟩ : ∃ tg, tagC (l.getD k 0).toNat (ze n) = tg := ⟨_, rfl⟩
      rw [htg] at s1
      obtain ⟨q3, g3, a3, st3, v3, gg3, n3⟩ := zDh (g := g2) (r := l.getD k 0) (t := tg)
      have st3 : zu q3 2 (.pointer (some ⟨g2.next, 0, none⟩)) (.agg [.int .i64 (l.getD k 0), .string (zB tg)].toArray) = some (.tuple #[], g3) := st3
      have gB := (gg1.trans gg2).trans gg3
      have hin : inI (l.getD k 0) := zD8 f9 _ (zEE hk)
      have rc : RdTags g3 v' (zz (ze n) mb) := (ob.rdTags hinb).grow gB
      obtain ⟨v4, g4, e4, o4, gg4⟩ := zEh T.b.law.add rc (zHA hadd.1) (by rw [zC2]; omega) (t := tg) hin
      rw [zFj htg.symm] at o4
      have e4 : cfi pr 48 [.agg [v'].toArray, .agg [.int .i64 (l.getD k 0), .string (zB tg)].toArray] g3 = some (.agg [v4].toArray, g4) := e4
      have l3 : ∀ sp, g3.loadN ⟨g2.next, 0, sp⟩ 2 = some [.int .i64 (l.getD k 0), .string (zB tg)] := fun sp => v3.loadAll rfl
      have c3 : ∀ sp, g3.loadN ⟨hA.next + 1, 0, sp⟩ 1 = some [v'] := fun sp => (vb.grow gB).loadAll rfl
      have gX := gB.trans gg4
      have vcN := vb.grow gX
      have st4 : zu g4 1 (.pointer (some ⟨hA.next + 1, 0, none⟩)) (.agg [v4].toArray) = some (.tuple #[], g4.wr (hA.next + 1) [v4]) := vcN.storeAll rfl rfl (by decide) (by simp [o4.one])
      have gn3 := gB.next
      have gn4 := gX.next
      have o4w : Own (g4.wr (hA.next + 1) [v4]) (fun A => g.next ≤ A) 2 v4 (insP (l.getD k 0) mb).length (zk (zz (ze n) (insP (l.getD k 0) mb))) := by
        rw [zC2] at o4
        exact (o4.keep Keeps.wr (fun A hA e => by omega)).mono (fun A hA => by omega)
      have ww : IntKind.i64.wrap ((i : Int) + 1) = ((i + 1 : Nat) : Int) := by rw [wrap_i64 (by omega) (by omega)]; omega
      (repeat (first | refine zS ?_ | refine zL ?_ | refine zR ?_ | refine zE ?_ | refine zC ?_ | refine zJ ?_ | refine zK ?_ | refine zP ?_ | refine zF ?_ | refine zH ?_ | refine zG ?_ | refine zI (by decide) ?_ | refine zQ ?_ | ((first | refine zD ?_ | refine zN ?_ | refine zO rfl ?_ | refine zM ?_); simp only [yq13.down, zA, lemS.down, lemC.down, Int.reduceBEq, Nat.reduceAdd, Nat.reduceLeDiff, reduceIte, Nat.reduceEqDiff, Int.reduceLT, Int.reduceLE, Int.reduceGT, Int.reduceGE, Int.reduceEq, Int.reduceAdd, Int.reduceSub, Int.reduceMul, reduceCtorEq, lemH.down, t1, t2, t7, t8, t9, t13, wpl, d2, d3, d4, zAS, rm, d5, zAG, iap, lp, m1, m2, m3, ia, e1, p0, p1, eh, s1, a3, st3])))
      refine ⟨?_, ?_, ?_⟩
      · (refine zAa rfl rfl rfl ?_ ?_ <;> simp only [yq13.down, zA, lemS.down, lemC.down, Int.reduceBEq, Nat.reduceAdd, Nat.reduceLeDiff, reduceIte, Nat.reduceEqDiff, Int.reduceLT, Int.reduceLE, Int.reduceGT, Int.reduceGE, Int.reduceEq, Int.reduceAdd, Int.reduceSub, Int.reduceMul, reduceCtorEq, p0, p1, zAH, zAE, zAI, zAF, zAD, Option.isSome_some])
      · (refine zAa rfl rfl rfl ?_ ?_ <;> simp only [yq13.down, zA, lemS.down, lemC.down, Int.reduceBEq, Nat.reduceAdd, Nat.reduceLeDiff, reduceIte, Nat.reduceEqDiff, Int.reduceLT, Int.reduceLE, Int.reduceGT, Int.reduceGE, Int.reduceEq, Int.reduceAdd, Int.reduceSub, Int.reduceMul, reduceCtorEq, p1, p2, zAH, zAE, zAI, zAF, zAD, Option.isSome_some])
      (repeat (first | refine zS ?_ | refine zL ?_ | refine zR ?_ | refine zE ?_ | refine zC ?_ | refine zJ ?_ | refine zK ?_ | refine zP ?_ | refine zF ?_ | refine zH ?_ | refine zG ?_ | refine zI (by decide) ?_ | refine zQ ?_ | ((first | refine zD ?_ | refine zN ?_ | refine zO rfl ?_ | refine zM ?_); simp only [yq13.down, zA, lemS.down, lemC.down, Int.reduceBEq, Nat.reduceAdd, Nat.reduceLeDiff, reduceIte, Nat.reduceEqDiff, Int.reduceLT, Int.reduceLE, Int.reduceGT, Int.reduceGE, Int.reduceEq, Int.reduceAdd, Int.reduceSub, Int.reduceMul, reduceCtorEq, lemH.down, t1, t2, t7, t8, t9, t13, c3, l3, e4, st4, ww])))
      exact hnext (ps.length + l.length - (i + 1)) _ _ (by omega) ⟨i + 1, v4, insP (l.getD k 0) mb, rfl, by omega, fun q => by omega, hadd.step hk hkp, (kk.trans gX.keeps (fun _ _ q => q)).trans Keeps.wr (fun _ _ q => q), vcN.wr, o4w, by simp only [yq13.down, zA, lemS.down, lemC.down, Int.reduceBEq, Nat.reduceAdd, Nat.reduceLeDiff, reduceIte, Nat.reduceEqDiff, Int.reduceLT, Int.reduceLE, Int.reduceGT, Int.reduceGE, Int.reduceEq, Int.reduceAdd, Int.reduceSub, Int.reduceMul, reduceCtorEq, t1], by simp only [yq13.down, zA, lemS.down, lemC.down, Int.reduceBEq, Nat.reduceAdd, Nat.reduceLeDiff, reduceIte, Nat.reduceEqDiff, Int.reduceLT, Int.reduceLE, Int.reduceGT, Int.reduceGE, Int.reduceEq, Int.reduceAdd, Int.reduceSub, Int.reduceMul, reduceCtorEq, t2], by simp only [yq13.down, zA, lemS.down, lemC.down, Int.reduceBEq, Nat.reduceAdd, Nat.reduceLeDiff, reduceIte, Nat.reduceEqDiff, Int.reduceLT, Int.reduceLE, Int.reduceGT, Int.reduceGE, Int.reduceEq, Int.reduceAdd, Int.reduceSub, Int.reduceMul, reduceCtorEq, t7], by simp only [yq13.down, zA, lemS.down, lemC.down, Int.reduceBEq, Nat.reduceAdd, Nat.reduceLeDiff, reduceIte, Nat.reduceEqDiff, Int.reduceLT, Int.reduceLE, Int.reduceGT, Int.reduceGE, Int.reduceEq, Int.reduceAdd, Int.reduceSub, Int.reduceMul, reduceCtorEq, t8], by simp only [yq13.down, zA, lemS.down, lemC.down, Int.reduceBEq, Nat.reduceAdd, Nat.reduceLeDiff, reduceIte, Nat.reduceEqDiff, Int.reduceLT, Int.reduceLE, Int.reduceGT, Int.reduceGE, Int.reduceEq, Int.reduceAdd, Int.reduceSub, Int.reduceMul, reduceCtorEq, t9], by simp only [yq13.down, zA, lemS.down, lemC.down, Int.reduceBEq, Nat.reduceAdd, Nat.reduceLeDiff, reduceIte, Nat.reduceEqDiff, Int.reduceLT, Int.reduceLE, Int.reduceGT, Int.reduceGE, Int.reduceEq, Int.reduceAdd, Int.reduceSub, Int.reduceMul, reduceCtorEq]⟩
    · have d5 : decide ((i : Int) < (ps.length : Int)) = false := decide_eq_false (by omega)
      have hk : i % l.length < l.length := Nat.mod_lt _ hl0
      have hkp : ps.length ≤ i → i % l.length = i % l.length := fun _ => rfl
      generalize hkk : i % l.length = k at *
      have hkp : ps.length ≤ i → k = i % l.length := fun _ => hkk.symm
      obtain ⟨k', hk', ek, sg⟩ := zG9 (n := n) f9 hk
      obtain ⟨B, o, ia, ld⟩ := el9 k hk
      obtain ⟨g1, e1, r1, gg1⟩ := zCy T.b.law.cert g'
      obtain ⟨mv, g2, eh, x2, gg2⟩ := zCq T.b.law.cert g1 n hn
      have p0 := ld g' gA'
      have p1 := ld g1 (gA'.trans gg1)
      have p2 := ld g2 ((gA'.trans gg1).trans gg2)
      have s1 := zq T.b.law.cert.sign (zEX (i := l.getD k 0) (r1.grow gg2).now zCs x2.now)
      rw [sg] at s1
      have s1 : cfi pr 41 [.pointer (some ⟨g'.next, 0, none⟩), .int .i64 (l.getD k 0), .agg (zd (ze n) mv).toArray] g2 = some (.tuple #[tagV (l.getD k 0) (tagC (l.getD k 0).toNat (ze n)), .int .i64 0], g2) := s1
      obtain ⟨tg, htg⟩ : ∃ tg, tagC (l.getD k 0).toNat (ze n) = tg := ⟨_, rfl⟩
      rw [htg] at s1
      obtain ⟨q3, g3, a3, st3, v3, gg3, n3⟩ := zDh (g := g2) (r := l.getD k 0) (t := tg)
      have st3 : zu q3 2 (.pointer (some ⟨g2.next, 0, none⟩)) (.agg [.int .i64 (l.getD k 0), .string (zB tg)].toArray) = some (.tuple #[], g3) := st3
      have gB := (gg1.trans gg2).trans gg3
      have hin : inI (l.getD k 0) := zD8 f9 _ (zEE hk)
      have rc : RdTags g3 v' (zz (ze n) mb) := (ob.rdTags hinb).grow gB
      obtain ⟨v4, g4, e4, o4, gg4⟩ := zEh T.b.law.add rc (zHA hadd.1) (by rw [zC2]; omega) (t := tg) hin
      rw [zFj htg.symm] at o4
      have e4 : cfi pr 48 [.agg [v'].toArray, .agg [.int .i64 (l.getD k 0), .string (zB tg)].toArray] g3 = some (.agg [v4].toArray, g4) := e4
      have l3 : ∀ sp, g3.loadN ⟨g2.next, 0, sp⟩ 2 = some [.int .i64 (l.getD k 0), .string (zB tg)] := fun sp => v3.loadAll rfl
      have c3 : ∀ sp, g3.loadN ⟨hA.next + 1, 0, sp⟩ 1 = some [v'] := fun sp => (vb.grow gB).loadAll rfl
      have gX := gB.trans gg4
      have vcN := vb.grow gX
      have st4 : zu g4 1 (.pointer (some ⟨hA.next + 1, 0, none⟩)) (.agg [v4].toArray) = some (.tuple #[], g4.wr (hA.next + 1) [v4]) := vcN.storeAll rfl rfl (by decide) (by simp [o4.one])
      have gn3 := gB.next
      have gn4 := gX.next
      have o4w : Own (g4.wr (hA.next + 1) [v4]) (fun A => g.next ≤ A) 2 v4 (insP (l.getD k 0) mb).length (zk (zz (ze n) (insP (l.getD k 0) mb))) := by
        rw [zC2] at o4
        exact (o4.keep Keeps.wr (fun A hA e => by omega)).mono (fun A hA => by omega)
      have ww : IntKind.i64.wrap ((i : Int) + 1) = ((i + 1 : Nat) : Int) := by rw [wrap_i64 (by omega) (by omega)]; omega
      (repeat (first | refine zS ?_ | refine zL ?_ | refine zR ?_ | refine zE ?_ | refine zC ?_ | refine zJ ?_ | refine zK ?_ | refine zP ?_ | refine zF ?_ | refine zH ?_ | refine zG ?_ | refine zI (by decide) ?_ | refine zQ ?_ | ((first | refine zD ?_ | refine zN ?_ | refine zO rfl ?_ | refine zM ?_); simp only [yq13.down, zA, lemS.down, lemC.down, Int.reduceBEq, Nat.reduceAdd, Nat.reduceLeDiff, reduceIte, Nat.reduceEqDiff, Int.reduceLT, Int.reduceLE, Int.reduceGT, Int.reduceGE, Int.reduceEq, Int.reduceAdd, Int.reduceSub, Int.reduceMul, reduceCtorEq, lemH.down, t1, t2, t7, t8, t9, t13, wpl, d2, d3, d4, zAS, rm, d5, zAG, ia, e1, p0, p1, eh, s1, a3, st3])))
      refine ⟨?_, ?_, ?_⟩
      · (refine zAa rfl rfl rfl ?_ ?_ <;> simp only [yq13.down, zA, lemS.down, lemC.down, Int.reduceBEq, Nat.reduceAdd, Nat.reduceLeDiff, reduceIte, Nat.reduceEqDiff, Int.reduceLT, Int.reduceLE, Int.reduceGT, Int.reduceGE, Int.reduceEq, Int.reduceAdd, Int.reduceSub, Int.reduceMul, reduceCtorEq, p0, p1, zAH, zAE, zAI, zAF, zAD, Option.isSome_some])
      · (refine zAa rfl rfl rfl ?_ ?_ <;> simp only [yq13.down, zA, lemS.down, lemC.down, Int.reduceBEq, Nat.reduceAdd, Nat.reduceLeDiff, reduceIte, Nat.reduceEqDiff, Int.reduceLT, Int.reduceLE, Int.reduceGT, Int.reduceGE, Int.reduceEq, Int.reduceAdd, Int.reduceSub, Int.reduceMul, reduceCtorEq, p1, p2, zAH, zAE, zAI, zAF, zAD, Option.isSome_some])
      (repeat (first | refine zS ?_ | refine zL ?_ | refine zR ?_ | refine zE ?_ | refine zC ?_ | refine zJ ?_ | refine zK ?_ | refine zP ?_ | refine zF ?_ | refine zH ?_ | refine zG ?_ | refine zI (by decide) ?_ | refine zQ ?_ | ((first | refine zD ?_ | refine zN ?_ | refine zO rfl ?_ | refine zM ?_); simp only [yq13.down, zA, lemS.down, lemC.down, Int.reduceBEq, Nat.reduceAdd, Nat.reduceLeDiff, reduceIte, Nat.reduceEqDiff, Int.reduceLT, Int.reduceLE, Int.reduceGT, Int.reduceGE, Int.reduceEq, Int.reduceAdd, Int.reduceSub, Int.reduceMul, reduceCtorEq, lemH.down, t1, t2, t7, t8, t9, t13, c3, l3, e4, st4, ww])))
      exact hnext (ps.length + l.length - (i + 1)) _ _ (by omega) ⟨i + 1, v4, insP (l.getD k 0) mb, rfl, by omega, fun q => by omega, hadd.step hk hkp, (kk.trans gX.keeps (fun _ _ q => q)).trans Keeps.wr (fun _ _ q => q), vcN.wr, o4w, by simp only [yq13.down, zA, lemS.down, lemC.down, Int.reduceBEq, Nat.reduceAdd, Nat.reduceLeDiff, reduceIte, Nat.reduceEqDiff, Int.reduceLT, Int.reduceLE, Int.reduceGT, Int.reduceGE, Int.reduceEq, Int.reduceAdd, Int.reduceSub, Int.reduceMul, reduceCtorEq, t1], by simp only [yq13.down, zA, lemS.down, lemC.down, Int.reduceBEq, Nat.reduceAdd, Nat.reduceLeDiff, reduceIte, Nat.reduceEqDiff, Int.reduceLT, Int.reduceLE, Int.reduceGT, Int.reduceGE, Int.reduceEq, Int.reduceAdd, Int.reduceSub, Int.reduceMul, reduceCtorEq, t2], by simp only [yq13.down, zA, lemS.down, lemC.down, Int.reduceBEq, Nat.reduceAdd, Nat.reduceLeDiff, reduceIte, Nat.reduceEqDiff, Int.reduceLT, Int.reduceLE, Int.reduceGT, Int.reduceGE, Int.reduceEq, Int.reduceAdd, Int.reduceSub, Int.reduceMul, reduceCtorEq, t7], by simp only [yq13.down, zA, lemS.down, lemC.down, Int.reduceBEq, Nat.reduceAdd, Nat.reduceLeDiff, reduceIte, Nat.reduceEqDiff, Int.reduceLT, Int.reduceLE, Int.reduceGT, Int.reduceGE, Int.reduceEq, Int.reduceAdd, Int.reduceSub, Int.reduceMul, reduceCtorEq, t8], by simp only [yq13.down, zA, lemS.down, lemC.down, Int.reduceBEq, Nat.reduceAdd, Nat.reduceLeDiff, reduceIte, Nat.reduceEqDiff, Int.reduceLT, Int.reduceLE, Int.reduceGT, Int.reduceGE, Int.reduceEq, Int.reduceAdd, Int.reduceSub, Int.reduceMul, reduceCtorEq, t9], by simp only [yq13.down, zA, lemS.down, lemC.down, Int.reduceBEq, Nat.reduceAdd, Nat.reduceLeDiff, reduceIte, Nat.reduceEqDiff, Int.reduceLT, Int.reduceLE, Int.reduceGT, Int.reduceGE, Int.reduceEq, Int.reduceAdd, Int.reduceSub, Int.reduceMul, reduceCtorEq]⟩
  · have hmb : mb = l := by
      by_cases hl0 : l.length = 0
      · have hi0 := hz hl0
        have h1 : l = [] := List.eq_nil_of_length_eq_zero hl0
        have h2 := hadd.2.1
        rw [h1] at h2 ⊢
        cases mb with
        | nil => rfl
        | cons y mb => have := h2 y (by simp); simp at this
      · have : i = ps.length + l.length := by omega
        rw [this] at hadd
        exact hadd.all f9.1
    rw [hmb] at ob hinb
    obtain ⟨av, cv, rfl, _⟩ := oc.shape
    obtain ⟨bv, dv, rfl, _⟩ := ob.shape
    have oa' := (oa.keep kk (fun A hA q => by omega))
    have ra : RdTags g' (.slice av l.length cv) (zz (ze n) l) := oa'.rdTags hinb
    have rb : RdTags g' (.slice bv l.length dv) (zz (ze n) l) := ob.rdTags hinb
    have va' := vc.keep kk (fun q => by omega)
    have hLl := zC2 (ze n) l
    have hcl : (zDG (zz (ze n) l)).length ≤ 1000 := by rw [zU4]; omega
    generalize zz (ze n) l = L at *
    obtain ⟨p1, ep1, w1, gp1⟩ := zFf T.put.wire g'
    obtain ⟨p2, ep2, w2, gp2⟩ := zFf T.put.wire p1
    have np1 := gp1.next
    have np2 := gp2.next
    have w1' : WrS p2 g'.next (fun A => (g'.next ≤ A ∧ A < p1.next) ∨ p2.next ≤ A) [] := ((WrS.mono w1 (S' := fun A => g'.next ≤ A ∧ A < p1.next) fun A hA q => ⟨q, hA⟩).grow gp2).mono fun A _ q => .inl q
    obtain ⟨p3, ep3, w3, kp3⟩ := zIT T.put (gp1.trans gp2) (S := fun A => (g'.next ≤ A ∧ A < p1.next) ∨ p2.next ≤ A) (fun A hA q => by omega) w1' (fun A hA => .inr hA) ra (by omega) (by show 0 + 40000000 ≤ zU; omega)
    have np3 := kp3.next
    have w2' : WrS p3 p1.next (fun A => (p1.next ≤ A ∧ A < p2.next) ∨ p3.next ≤ A) [] := ((WrS.mono w2 (S' := fun A => p1.next ≤ A ∧ A < p2.next) fun A hA q => ⟨q, hA⟩).keep kp3 (fun A hA q => by omega)).mono fun A _ q => .inl q
    have gp3 : Grows g' p3 := (gp1.trans gp2).then kp3 (fun A hA q => by omega)
    obtain ⟨p4, ep4, w4, kp4⟩ := zIT T.put gp3 (S := fun A => (p1.next ≤ A ∧ A < p2.next) ∨ p3.next ≤ A) (fun A hA q => by omega) w2' (fun A hA => .inr hA) rb (by omega) (by show 0 + 40000000 ≤ zU; omega)
    rw [List.nil_append] at w3 w4
    have gp4 : Grows g' p4 := gp3.then kp4 (fun A hA q => by omega)
    have w3' : WrS p4 g'.next (fun A => ((g'.next ≤ A ∧ A < p1.next) ∨ p2.next ≤ A) ∧ A < p3.next) (zDG L) := (w3.mono fun A hA q => ⟨q, hA⟩).keep kp4 (fun A hA q => by omega)
    have wall1 := zFg T.put.wire (N := g'.next) (w3'.mono fun A _ q => by omega)
    have wall2 := zFg T.put.wire (N := g'.next) (w4.mono fun A _ q => by omega)
    have la : ∀ sp, p2.loadN ⟨hA.next, 0, sp⟩ 1 = some [.slice av l.length cv] := fun sp => (va'.grow (gp1.trans gp2)).loadAll rfl
    have lb : ∀ sp, p3.loadN ⟨hA.next + 1, 0, sp⟩ 1 = some [.slice bv l.length dv] := fun sp => (vb.grow gp3).loadAll rfl
    have gF : Grows h p4 := (g2'.trans gA').trans gp4
    by_cases e1 : i < ps.length + l.length
    · have d2 : decide ((i : Int) < (ps.length : Int) + (l.length : Int)) = true := decide_eq_true (by omega)
      have d3 : decide ((i : Int) < 60) = true := decide_eq_true (by omega)
      have d4 : decide ((l.length : Int) > 0) = false := decide_eq_false (by omega)
      (repeat (first | refine zS ?_ | refine zL ?_ | refine zR ?_ | refine zE ?_ | refine zC ?_ | refine zJ ?_ | refine zK ?_ | refine zP ?_ | refine zF ?_ | refine zH ?_ | refine zG ?_ | refine zI (by decide) ?_ | refine zQ ?_ | ((first | refine zD ?_ | refine zN ?_ | refine zO rfl ?_ | refine zM ?_); simp only [yq13.down, zA, lemS.down, lemC.down, Int.reduceBEq, Nat.reduceAdd, Nat.reduceLeDiff, reduceIte, Nat.reduceEqDiff, Int.reduceLT, Int.reduceLE, Int.reduceGT, Int.reduceGE, Int.reduceEq, Int.reduceAdd, Int.reduceSub, Int.reduceMul, reduceCtorEq, lemH.down, t1, t2, t7, t8, t9, t13, wpl, d2, d3, d4, zAS, ep1, ep2, la, ep3, lb, ep4, wall1, wall2, beq_self_eq_true])))
      exact ⟨.inr rfl, by simp only [yq13.down, zA, lemS.down, lemC.down, Int.reduceBEq, Nat.reduceAdd, Nat.reduceLeDiff, reduceIte, Nat.reduceEqDiff, Int.reduceLT, Int.reduceLE, Int.reduceGT, Int.reduceGE, Int.reduceEq, Int.reduceAdd, Int.reduceSub, Int.reduceMul, reduceCtorEq], gF⟩
    · have d2 : decide ((i : Int) < (ps.length : Int) + (l.length : Int)) = false := decide_eq_false (by omega)
      (repeat (first | refine zS ?_ | refine zL ?_ | refine zR ?_ | refine zE ?_ | refine zC ?_ | refine zJ ?_ | refine zK ?_ | refine zP ?_ | refine zF ?_ | refine zH ?_ | refine zG ?_ | refine zI (by decide) ?_ | refine zQ ?_ | ((first | refine zD ?_ | refine zN ?_ | refine zO rfl ?_ | refine zM ?_); simp only [yq13.down, zA, lemS.down, lemC.down, Int.reduceBEq, Nat.reduceAdd, Nat.reduceLeDiff, reduceIte, Nat.reduceEqDiff, Int.reduceLT, Int.reduceLE, Int.reduceGT, Int.reduceGE, Int.reduceEq, Int.reduceAdd, Int.reduceSub, Int.reduceMul, reduceCtorEq, lemH.down, t1, t2, t7, t8, t9, t13, wpl, d2, zAS, ep1, ep2, la, ep3, lb, ep4, wall1, wall2, beq_self_eq_true])))
      exact ⟨.inr rfl, by simp only [yq13.down, zA, lemS.down, lemC.down, Int.reduceBEq, Nat.reduceAdd, Nat.reduceLeDiff, reduceIte, Nat.reduceEqDiff, Int.reduceLT, Int.reduceLE, Int.reduceGT, Int.reduceGE, Int.reduceEq, Int.reduceAdd, Int.reduceSub, Int.reduceMul, reduceCtorEq], gF⟩
end Go.X
end
section
open Go Go.X Go.Proofs Go.RowKit
namespace Go.X
set_option linter.unusedVariables false
def zAu (cs : List Value) : Heap := ⟨1, PT.set .leaf 0 (.cells ⟨cs, 0, 0, true⟩), PT.set .leaf 0 ⟨0, 0, cs.length⟩⟩
theorem zIh {cs : List Value} : (zAu cs).blks.get 0 = some (.cells ⟨cs, 0, 0, true⟩) := PT.get_set_eq _ _ _
theorem zFl {cs : List Value} : (zAu cs).fams.get 0 = some ⟨0, 0, cs.length⟩ := PT.get_set_eq _ _ _
theorem zIg {cs : List Value} {A : Nat} (h : A ≠ 0) : (zAu cs).blks.get A = none := by
  show (PT.set .leaf 0 _).get A = none
  rw [PT.get_set_ne _ _ h]
  exact PT.get_leaf A
theorem zUf {cs : List Value} {A : Nat} (h : A ≠ 0) : (zAu cs).fams.get A = none := by
  show (PT.set .leaf 0 _).get A = none
  rw [PT.get_set_ne _ _ h]
  exact PT.get_leaf A
theorem zDs {cs : List Value} {A : Nat} {b : Blk} (h : (zAu cs).blks.get A = some b) : A = 0 ∧ b = .cells ⟨cs, 0, 0, true⟩ := by
  by_cases h0 : A = 0
  · subst h0
    rw [zIh] at h
    exact ⟨rfl, (Option.some.inj h).symm⟩
  · rw [zIg h0] at h
    cases h
theorem zDt {cs : List Value} {A : Nat} {c : zBB} (h : (zAu cs).okCells A = some c) : A = 0 ∧ c = ⟨cs, 0, 0, true⟩ := by
  obtain ⟨h1, h2⟩ := zDs (okCells_iff.1 h).1
  cases h2
  exact ⟨h1, rfl⟩
def zDB (l : Loc) : Ren := fun A => if A = 0 then some l else none
theorem zIi {l m : Loc} {A : Nat} (h : zDB l A = some m) : A = 0 ∧ m = l := by
  unfold zDB at h
  split at h
  · exact ⟨by assumption, (Option.some.inj h).symm⟩
  · cases h
theorem zJW {w : World} {b o : Nat} {cs : List Value} {c : Array Value} {T : TypeId} {fz : Nat × Nat} (hb : w.heap[b]? = some (.cells c T fz)) (hl : o + cs.length ≤ c.size) (hv : (c.toList.drop o).take cs.length = cs) (hi : cs.all zr = true) :
    HRel w.heap.size (zDB ⟨b, o, c.size⟩) (zAu cs) w ∧ HWF (zAu cs) := by
  have hlt : b < w.heap.size := (Array.getElem?_eq_some_iff.1 hb).1
  refine ⟨⟨Nat.le_refl _, ?_, ?_, ?_, ?_, ?_, ?_, ⟨1, fun A hA => ?_⟩, ?_⟩, ⟨fun A hA => ?_, ?_, ?_⟩⟩
  · intro A l h
    obtain ⟨rfl, rfl⟩ := zIi h
    exact hlt
  · intro A d h _
    obtain ⟨rfl, e⟩ := zDs h
    cases e
    rfl
  · intro A d l h1 h2
    obtain ⟨rfl, rfl⟩ := zDt h1
    obtain ⟨_, rfl⟩ := zIi h2
    refine ⟨c, T, fz, hb, rfl, hl, ?_, fun e => by cases e⟩
    show LRel _ cs ((c.toList.drop o).take cs.length)
    rw [hv]
    exact All2.refl_of cs fun x hx => zCm (by rw [List.all_eq_true] at hi; exact hi x hx)
  · intro A B d e l m hne h1 h2
    exact absurd ((zDt h1).1.trans (zDt h2).1.symm) hne
  · intro A l es h
    obtain ⟨_, e⟩ := zDs h
    cases e
  · intro A B es fs l m _ h
    obtain ⟨_, e⟩ := zDs h
    cases e
  · unfold zDB
    rw [if_neg (by omega)]
  · intro A d f l h1 _ _ h4
    obtain ⟨_, rfl⟩ := zDt h1
    cases h4
  · have : A ≠ 0 := by
      have : (zAu cs).next = 1 := rfl
      omega
    exact ⟨zIg this, zUf this⟩
  · intro A d h
    obtain ⟨_, e⟩ := zDs h
    cases e
    exact ⟨Nat.zero_lt_one, _, zFl⟩
  · intro A d f h1 h2
    obtain ⟨_, rfl⟩ := zDt h1
    have h2 : (zAu cs).fams.get 0 = some f := h2
    rw [zFl] at h2
    cases h2
    show 0 + cs.length ≤ cs.length
    omega
theorem zFz {P : Program} {Pg : Prog} (ok : XOK P Pg) {f : Nat} {F : XF} {args args' : List Value} {v : Value} {h : Heap} {ρ : Ren} {w : World} (hr : HRel w.heap.size ρ h w) (wf : HWF h) (hρ : ∀ A, h.next ≤ A → ρ A = none) (hp : Pg.prim f = none) (hF : Pg.code f = some F) (hn : args.length = F.nargs) (ha : LRel ρ args args') (hv : zr v = true) (hc : Comes Pg F args h v) :
    Calls P f args'.toArray w fun e w' => e = .returned v ∧ Below w.heap.size w w' := by
  obtain ⟨e, t', h1, hr', he, hres, hg⟩ := hc
  have h2 : cfi Pg f args h = some (v, h1) := zD3 hp hF hn ⟨e, t', h1, hr', he, hres, rfl⟩
  obtain ⟨n, hn⟩ := zI7 h2
  have h3 : call Pg n f args h = some (v, h1) := hn
  obtain ⟨_, _, h4⟩ := zFv ok n f args h v h1 h3
  refine (h4 w.heap.size ρ w args' hr wf (fun A hA _ => hρ A hA) ha).mono fun e w' hq => ?_
  obtain ⟨v', ρ', rfl, q1, q2, q3, q4⟩ := hq
  exact ⟨by rw [zEs hv q4], q3.below⟩
theorem zWZ {l : List Int} {cap : Nat} (hb : ∀ x ∈ l, -9223372036854775808 ≤ x ∧ x < 9223372036854775808) : RdInts (zAu (z8 l)) (.slice (some ⟨0, 0, none⟩) l.length cap) l := by
  intro h' g
  unfold zw
  by_cases h0 : l.length = 0
  · rw [List.eq_nil_of_length_eq_zero h0]
    rfl
  · simp only
    rw [if_neg h0]
    have n0 : (0 : Nat) < (zAu (z8 l)).next := Nat.zero_lt_one
    have e1 : h'.blks.get 0 = some (.cells ⟨z8 l, 0, 0, true⟩) := (g.blks 0 n0).trans zIh
    have e2 : h'.fams.get 0 = some ⟨0, 0, (z8 l).length⟩ := (g.fams 0 n0).trans zFl
    have e3 : h'.okCells 0 = some ⟨z8 l, 0, 0, true⟩ := by
      simp only [Heap.okCells, e1, e2]
      rfl
    have e4 : h'.loadN ⟨0, 0, none⟩ l.length = some (z8 l) := by
      simp only [Heap.loadN, e3, zAo, zDz, Nat.zero_add]
      rw [Nat.ble_eq_true_of_le (Nat.le_refl _)]
      show some (((z8 l).drop 0).take l.length) = _
      rw [List.drop_zero, List.take_of_length_le (by rw [zDz]; exact Nat.le_refl _)]
    rw [e4]
    simp only [zGQ hb]
end Go.X
end
section
open Go Go.X Go.Proofs Go.RowKit
namespace Go.X
set_option linter.unusedVariables false
theorem zU1 {c : Array Value} {off : Nat} {l : List Int} (hc : ∀ i, i < l.length → c[off + i]? = some (.int .i64 (l.getD i 0))) : (c.toList.drop off).take l.length = z8 l := by
  apply List.ext_getElem?
  intro i
  unfold z8
  rw [List.getElem?_take, List.getElem?_map]
  by_cases hi : i < l.length
  · have := hc i hi
    rw [if_pos hi, List.getElem?_drop, Array.getElem?_toList, this, List.getElem?_eq_getElem hi, List.getD_eq_getElem?_getD, List.getElem?_eq_getElem hi]
    rfl
  · rw [if_neg hi, List.getElem?_eq_none (by omega)]
    rfl
theorem wf_int64 {n : Int} (h : (Lit.int .i64 n).wf = true) : -9223372036854775808 ≤ n ∧ n < 9223372036854775808 := by
  simp only [Lit.wf, Bool.and_eq_true, decide_eq_true_eq] at h
  have e1 : IntKind.i64.min = -9223372036854775808 := by decide
  have e2 : IntKind.i64.max = 9223372036854775807 := by decide
  omega
theorem walkOrdersNil (a n : Int) (hn : (Lit.int .u64 n).wf = true) (w : World) : Calls Try.prog 13 #[.int .i64 a, .int .u64 n, .slice none 0 0] w fun e w' => e = .returned (.bool true) ∧ Below w.heap.size w w' := by
  have h1 := wf_u64 hn
  have := zFc _ zGS a n.toNat (by omega) Heap.empty (.slice none 0 0) [] (fun _ _ => rfl)
  rw [show ((n.toNat : Nat) : Int) = n by omega] at this
  obtain ⟨q1, q2⟩ := zJX w
  exact zFz uk21 q1 q2 (fun _ _ => rfl) rfl (zW Try.func13 cq13) rfl (.cons (.int _ _) (.cons (.int _ _) (.cons .nilslice .nil))) rfl this
theorem walkOrders (a n : Int) (hn : (Lit.int .u64 n).wf = true) (w : World) {b off len cap : Nat} {c : Array Value} {T : TypeId} {fz : Nat × Nat} (hb : w.heap[b]? = some (.cells c T fz)) {l : List Int} (hlen : l.length = len) (hlc : len ≤ cap) (hbd : ∀ x ∈ l, -9223372036854775808 ≤ x ∧ x < 9223372036854775808) (hc : ∀ i, i < len → c[off + i]? = some (.int .i64 (l.getD i 0))) :
    Calls Try.prog 13 #[.int .i64 a, .int .u64 n, .slice (some ⟨b, off, none⟩) len cap] w fun e w' => e = .returned (.bool true) ∧ Below w.heap.size w w' := by
  have h1 := wf_u64 hn
  subst hlen
  by_cases h0 : l.length = 0
  · have := zFc _ zGS a n.toNat (by omega) (zAu []) (.slice (some ⟨0, off, none⟩) 0 cap) [] (fun _ _ => rfl)
    rw [show ((n.toNat : Nat) : Int) = n by omega] at this
    obtain ⟨q1, q2⟩ := zJW (cs := []) (o := 0) hb (by simp) rfl rfl
    rw [h0]
    refine zFz uk21 q1 q2 (fun A hA => ?_) rfl (zW Try.func13 cq13) rfl (.cons (.int _ _) (.cons (.int _ _) (.cons ?_ .nil))) rfl this
    · have : A ≠ 0 := by
        have : (zAu []).next = 1 := rfl
        omega
      unfold zDB
      rw [if_neg this]
    · exact .slice (l := ⟨b, 0, c.size⟩) rfl (Nat.zero_le _) (Nat.le_refl _) (fun _ => by rw [Nat.zero_add]) (fun _ => rfl) (fun q h => by cases h)
  · have := zFc _ zGS a n.toNat (by omega) (zAu (z8 l)) (.slice (some ⟨0, 0, none⟩) l.length cap) l (zWZ hbd)
    rw [show ((n.toNat : Nat) : Int) = n by omega] at this
    have hsz : off + (l.length - 1) < c.size := by
      have := hc (l.length - 1) (by omega)
      exact (Array.getElem?_eq_some_iff.1 this).1
    obtain ⟨q1, q2⟩ := zJW (cs := z8 l) (o := off) hb (by rw [zDz]; omega) (by rw [zDz]; exact zU1 hc) (by
      rw [List.all_eq_true]
      intro x hx
      unfold z8 at hx
      rw [List.mem_map] at hx
      obtain ⟨i, _, rfl⟩ := hx
      rfl)
    refine zFz uk21 q1 q2 (fun A hA => ?_) rfl (zW Try.func13 cq13) rfl (.cons (.int _ _) (.cons (.int _ _) (.cons ?_ .nil))) rfl this
    · have : A ≠ 0 := by
        have : (zAu (z8 l)).next = 1 := rfl
        omega
      unfold zDB
      rw [if_neg this]
    · exact .slice (l := ⟨b, off, c.size⟩) rfl hlc (Nat.le_refl _) (fun _ => by rw [Nat.add_zero]) (fun _ => rfl) (fun q h => by cases h)
end Go.X
end
