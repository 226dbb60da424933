/- The statements of certificates. -/
import Derived.Test.YtmhkcnibbodjnaaXQ
set_option linter.unusedSimpArgs false
set_option linter.unusedVariables false
set_option maxHeartbeats 2000000
section
open Go Go.X
namespace Go.X
set_option linter.unusedVariables false
theorem zDH {l : List XO} {tr : List (Fr × Heap)} {j k : Nat} {d : Option Nat} {gd : Option (Nat × Bool)} {op : ROp} {t t' : Fr} {h h' : Heap}
    (h1 : l[j]? = some ⟨d, .r op, gd⟩) (h2 : tr[j]? = some (t, h)) (h3 : tr[k]? = some (t', h')) (h4 : (zn t h op).isSome = true) (h5 : zn t h' op = zn t h op) : zAZ l tr j k [] = true := by
  obtain ⟨v, hv⟩ := Option.isSome_iff_exists.1 h4
  unfold zAZ
  rw [h1, h2, h3]
  simp only [zAt, h5, hv, zDc, Bool.or_true]
theorem zCs : zAW zB4 = true := zWn _ _
theorem zEv (n : Nat) : zAP (ze n) = 0 := by
  unfold zAP
  rw [if_neg]
  have hl : (sha (numB n 8)).length = 32 := zBf _
  have hm : zA0 (ze n).m = true := by show zA0 [0, 1, 2] = true; decide
  rw [hm]
  show ¬ (n % 1000 + 1 < 1 ∨ (sha (numB n 8)).length ≠ 32 ∨ (sha (numB n 8)).length ≠ 32 ∨ (sha (numB n 8)).length ≠ 32 ∨ true = false)
  simp [hl]
theorem zG4 {n i : Nat} (hi : i < 16) : zBJ zB4 (i : Int) (ze n) = (((i : Int), tagC i (ze n)), 0) := by
  unfold zBJ
  rw [if_neg (by rw [zEv]; decide), zJf hi]
  rfl
theorem good17 {n i : Nat} {t : List UInt8} (hi : i < 16) : zA7 zB4 (ze n) (i : Int) t = (tagC i (ze n) == t) := by
  unfold zA7 zCg
  rw [zEv, zJf hi]
  rfl
theorem zDh {g : Heap} {r : Int} {t : List UInt8} : ∃ g1 g2, g.new [.int .i64 0, .string (zB [])] = g1 ∧ zu g1 2 (.pointer (some ⟨g.next, 0, none⟩)) (tagV r t) = some (.tuple #[], g2) ∧ Var g2 g.next [.int .i64 r, .string (zB t)] ∧ Grows g g2 ∧ g2.next = g.next + 1 := by
  have v0 : Var (g.new [.int .i64 0, .string (zB [])]) g.next [.int .i64 0, .string (zB [])] := Var.new_self
  exact ⟨_, _, rfl, v0.storeAll rfl rfl (by decide) rfl, v0.wr, Grows.new.wr (Nat.le_refl _), rfl⟩
theorem zI6 {g : Heap} {v : Value} {l : TagL} (hs : RdTags g v l) : ∃ g1 g2, g.new [.slice none 0 0] = g1 ∧ zu g1 1 (.pointer (some ⟨g.next, 0, none⟩)) (.agg [v].toArray) = some (.tuple #[], g2) ∧ Var g2 g.next [v] ∧ Grows g g2 ∧ g2.next = g.next + 1 := by
  have v0 : Var (g.new [.slice none 0 0]) g.next [.slice none 0 0] := Var.new_self
  exact ⟨_, _, rfl, v0.storeAll rfl rfl (by decide) (by simp [(zEa hs.now).2]), v0.wr, Grows.new.wr (Nat.le_refl _), rfl⟩
theorem zWa {h : Heap} : RdTags h (.slice none 0 0) [] := fun _ _ => rfl
theorem zJd {h : Heap} : ∃ g, h.new [.int .i64 0, .int .i64 1, .int .i64 2] = g ∧ Grows h g ∧ zw g (.slice (some ⟨h.next, 0, none⟩) 3 3) = some [0, 1, 2] := ⟨_, rfl, Grows.new, zKk⟩
structure Law17 (pr : Prog) : Prop where
  cert : zCA pr
  add : zCb pr
  check : pr.prim 49 = some zD2
  tag : pr.prim 45 = some zG6
theorem zJp {keys : List (List UInt8)} {x : Hdr} {q : Int × List UInt8} {l : TagL} (g : zA7 keys x q.1 q.2 = true) : zAR keys x (q :: l) 0 = true := by
  simp only [zAR, Nat.lt_irrefl, decide_false, Bool.false_and, Bool.not_false, Bool.true_and]
  exact g
theorem cert_one {keys : List (List UInt8)} {x : Hdr} {t : List UInt8} (h0 : zAP x = 0) (g : zA7 keys x 2 t = true) : zBj keys x [(2, t)] [0, 1, 2] = 170 := by
  have hm : zA0 [0, 1, 2] = true := by decide
  have ha : (List.range 1).all (zAR keys x [(2, t)]) = true := by
    rw [List.all_eq_true]
    intro j hj
    obtain rfl : j = 0 := by simpa using hj
    exact zJp g
  have hp : zBO [0, 1, 2] [2] = false := by decide
  have hl : ([(2, t)] : TagL).length = 1 := rfl
  have hk : ([(2, t)] : TagL).map (·.1) = [2] := rfl
  unfold zBj
  rw [hm, hl, ha, hk, hp, h0]
  rfl
theorem cert_two {keys : List (List UInt8)} {x : Hdr} {t u : List UInt8} (h0 : zAP x = 0) (g0 : zA7 keys x 0 u = true) (g : zA7 keys x 2 t = true) : zBj keys x [(0, u), (2, t)] [0, 1, 2] = 0 := by
  have hm : zA0 [0, 1, 2] = true := by decide
  have ha : (List.range 2).all (zAR keys x [(0, u), (2, t)]) = true := by
    rw [List.all_eq_true]
    intro j hj
    have hj : j < 2 := by simpa using hj
    match j, hj with
    | 0, _ => exact zJp g0
    | 1, _ =>
      have e : zAR keys x [(0, u), (2, t)] 1 = (!(decide (0 < 1) && decide ((0 : Int) ≥ 2)) && zA7 keys x 2 t) := rfl
      rw [e, g]
      decide
  have hp : zBO [0, 1, 2] [0, 2] = true := by decide
  have hl : ([(0, u), (2, t)] : TagL).length = 2 := rfl
  have hk : ([(0, u), (2, t)] : TagL).map (·.1) = [0, 2] := rfl
  unfold zBj
  rw [hm, hl, ha, hk, hp, h0]
  rfl
theorem zGJ {n i : Nat} (hi : i < 16) : zA7 zB4 (ze n) (i : Int) (tagC i (ze n)) = true := by rw [good17 hi, beq_self_eq_true]
theorem zU2 (n : Nat) : zBj zB4 (ze n) [(2, tagC 2 (ze n))] [0, 1, 2] = 170 := cert_one (zEv n) (zGJ (i := 2) (by decide))
theorem zU3 (n : Nat) : zBj zB4 (ze n) [(0, tagC 0 (ze n)), (2, tagC 2 (ze n))] [0, 1, 2] = 0 := cert_two (zEv n) (zGJ (i := 0) (by decide)) (zGJ (i := 2) (by decide))
theorem zUT (t : List UInt8) : addT [] (2, t) = [(2, t)] := rfl
theorem zUU (t u : List UInt8) : addT [(2, t)] (0, u) = [(0, u), (2, t)] := rfl
theorem sorted1 (q : Int × List UInt8) : zBL [q] := List.pairwise_singleton _ _
end Go.X
end
section
open Go Go.X
namespace Go.X
set_option linter.unusedVariables false
set_option maxRecDepth 100000 in
set_option maxHeartbeats 4000000 in
theorem zUg (pr : Prog) (T : Law17 pr) (h : Heap) : Comes pr xq44 [] h (.bool true) := by
  apply Comes.of
  unfold xq44
  dsimp only [zc]
  have hr64 : zU = 140737488355328 := rfl
  obtain ⟨h1, e1, r1, g1⟩ := zCy T.cert h
  obtain ⟨m1, h2, e2, x2, g2⟩ := zCq T.cert h1 1 (by decide)
  have e2 : cfi pr 43 [.int .u64 1] h1 = _ := e2
  have s1 := zq T.cert.sign (zEX (i := 0) (r1.grow g2).now zCs x2.now)
  rw [show (0 : Int) = ((0 : Nat) : Int) from rfl, zG4 (by decide)] at s1
  have s1 : cfi pr 41 [.pointer (some ⟨h.next, 0, none⟩), .int .i64 0, .agg (zd (ze 1) m1).toArray] h2 = some (.tuple #[tagV 0 (tagC 0 (ze 1)), .int .i64 0], h2) := s1
  obtain ⟨q3, h3, a3, st3, v3, g3, n3⟩ := zDh (g := h2) (r := 0) (t := tagC 0 (ze 1))
  obtain ⟨h4, e4, r4, g4⟩ := zCy T.cert h3
  obtain ⟨m5, h5, e5, x5, g5⟩ := zCq T.cert h4 1 (by decide)
  have e5 : cfi pr 43 [.int .u64 1] h4 = _ := e5
  have s5 := zq T.cert.sign (zEX (i := 2) (r4.grow g5).now zCs x5.now)
  rw [show (2 : Int) = ((2 : Nat) : Int) from rfl, zG4 (by decide)] at s5
  have s5 : cfi pr 41 [.pointer (some ⟨h3.next, 0, none⟩), .int .i64 2, .agg (zd (ze 1) m5).toArray] h5 = some (.tuple #[tagV 2 (tagC 2 (ze 1)), .int .i64 0], h5) := s5
  obtain ⟨q6, h6, a6, st6, v6, g6, n6⟩ := zDh (g := h5) (r := 2) (t := tagC 2 (ze 1))
  have l6 : ∀ sp, h6.loadN ⟨h5.next, 0, sp⟩ 2 = some [.int .i64 2, .string (zB (tagC 2 (ze 1)))] := fun sp => v6.loadAll rfl
  obtain ⟨w7, h7, e7, t7, g7⟩ := zIR T.add (h := h6) (r := 2) (t := tagC 2 (ze 1)) zWa List.Pairwise.nil (by decide) ⟨by decide, by decide⟩
  have e7 : cfi pr 48 [.agg [.slice none 0 0].toArray, .agg [.int .i64 2, .string (zB (tagC 2 (ze 1)))].toArray] h6 = _ := e7
  rw [zUT] at t7
  obtain ⟨q8, h8, a8, st8, v8, g8, n8⟩ := zI6 t7
  have l8 : ∀ sp, h8.loadN ⟨h7.next, 0, sp⟩ 1 = some [w7] := fun sp => v8.loadAll rfl
  have l3 : ∀ sp, h8.loadN ⟨h2.next, 0, sp⟩ 2 = some [.int .i64 0, .string (zB (tagC 0 (ze 1)))] := fun sp => (v3.grow ((((g4.trans g5).trans g6).trans g7).trans g8)).loadAll rfl
  obtain ⟨w9, h9, e9, t9, g9⟩ := zIR T.add (r := 0) (t := tagC 0 (ze 1)) (t7.grow g8) (sorted1 _) (by decide) ⟨by decide, by decide⟩
  have e9 : cfi pr 48 [.agg [w7].toArray, .agg [.int .i64 0, .string (zB (tagC 0 (ze 1)))].toArray] h8 = _ := e9
  rw [zUU] at t9
  obtain ⟨q10, h10, a10, st10, v10, g10, n10⟩ := zI6 t9
  obtain ⟨h11, e11, r11, g11⟩ := zCy T.cert h10
  obtain ⟨m12, h12, e12, x12, g12⟩ := zCq T.cert h11 1 (by decide)
  have e12 : cfi pr 43 [.int .u64 1] h11 = _ := e12
  obtain ⟨h13, a13, g13, i13⟩ := zJd (h := h12)
  have gA : Grows h8 h13 := ((((g9.trans g10).trans g11).trans g12).trans g13)
  have k13 := zq T.check (zI5 ((r11.grow g12).grow g13).now zCs (x12.grow g13).now ((t7.grow g8).grow gA).now (by decide) i13 (by decide))
  rw [zU2] at k13
  have k13 : cfi pr 49 [.pointer (some ⟨h10.next, 0, none⟩), .agg (zd (ze 1) m12).toArray, .agg [w7].toArray, .slice (some ⟨h12.next, 0, none⟩) 3 3] h13 = some (.int .i64 170, h13) := k13
  have l12 : ∀ sp, h12.loadN ⟨h7.next, 0, sp⟩ 1 = some [w7] := fun sp => (v8.grow (((g9.trans g10).trans g11).trans g12)).loadAll rfl
  obtain ⟨h14, e14, r14, g14⟩ := zCy T.cert h13
  obtain ⟨m15, h15, e15, x15, g15⟩ := zCq T.cert h14 1 (by decide)
  have e15 : cfi pr 43 [.int .u64 1] h14 = _ := e15
  obtain ⟨h16, a16, g16, i16⟩ := zJd (h := h15)
  have gB : Grows h10 h16 := (((((g11.trans g12).trans g13).trans g14).trans g15).trans g16)
  have k16 := zq T.check (zI5 ((r14.grow g15).grow g16).now zCs (x15.grow g16).now ((t9.grow g10).grow gB).now (by decide) i16 (by decide))
  rw [zU3] at k16
  have k16 : cfi pr 49 [.pointer (some ⟨h13.next, 0, none⟩), .agg (zd (ze 1) m15).toArray, .agg [w9].toArray, .slice (some ⟨h15.next, 0, none⟩) 3 3] h16 = some (.int .i64 0, h16) := k16
  have l15 : ∀ sp, h15.loadN ⟨h9.next, 0, sp⟩ 1 = some [w9] := fun sp => (v10.grow ((((g11.trans g12).trans g13).trans g14).trans g15)).loadAll rfl
  have gF : Grows h h16 := (((((((((g1.trans g2).trans g3).trans g4).trans g5).trans g6).trans g7).trans g8).trans g9).trans g10).trans gB
  (repeat (first | refine zS ?_ | refine zL ?_ | refine zR ?_ | refine zE ?_ | refine zC ?_ | refine zJ ?_ | refine zK ?_ | refine zP ?_ | refine zF ?_ | refine zH ?_ | refine zG ?_ | refine zI (by decide) ?_ | refine zQ ?_ | ((first | refine zD ?_ | refine zN ?_ | refine zT rfl rfl ?_ | refine zO rfl ?_ | refine zEg rfl ?_ | refine zM ?_); simp only [yq44.down, zA, lemS.down, lemC.down, Int.reduceBEq, Nat.reduceAdd, Nat.reduceLeDiff, reduceIte, Nat.reduceEqDiff, Int.reduceLT, Int.reduceLE, Int.reduceGT, Int.reduceGE, Int.reduceEq, Int.reduceAdd, Int.reduceSub, Int.reduceMul, reduceCtorEq, lemH.down, e1, e2, s1, a3, st3, e4, e5, s5, a6, st6, zGF, l6, e7, a8, st8, l8, l3, e9, a10, st10, e11, e12, l12, fill3i, a13, k13, e14, e15, l15, a16, k16])))
  have c10 : ∀ sp, h10.loadN ⟨h7.next, 0, sp⟩ 1 = some [w7] := fun sp => (v8.grow (g9.trans g10)).loadAll rfl
  have c11 : ∀ sp, h11.loadN ⟨h7.next, 0, sp⟩ 1 = some [w7] := fun sp => (v8.grow ((g9.trans g10).trans g11)).loadAll rfl
  have c13 : ∀ sp, h13.loadN ⟨h7.next, 0, sp⟩ 1 = some [w7] := fun sp => (v8.grow gA).loadAll rfl
  have d13 : ∀ sp, h13.loadN ⟨h9.next, 0, sp⟩ 1 = some [w9] := fun sp => (v10.grow ((g11.trans g12).trans g13)).loadAll rfl
  have d14 : ∀ sp, h14.loadN ⟨h9.next, 0, sp⟩ 1 = some [w9] := fun sp => (v10.grow (((g11.trans g12).trans g13).trans g14)).loadAll rfl
  have d16 : ∀ sp, h16.loadN ⟨h9.next, 0, sp⟩ 1 = some [w9] := fun sp => (v10.grow gB).loadAll rfl
  refine ⟨⟨?_, ?_⟩, ?_, ⟨?_, ?_⟩, ?_, ?_⟩
  · (refine zDH rfl rfl rfl ?_ ?_ <;> simp only [yq44.down, zA, lemS.down, lemC.down, Int.reduceBEq, Nat.reduceAdd, Nat.reduceLeDiff, reduceIte, Nat.reduceEqDiff, Int.reduceLT, Int.reduceLE, Int.reduceGT, Int.reduceGE, Int.reduceEq, Int.reduceAdd, Int.reduceSub, Int.reduceMul, reduceCtorEq, c10, l12, zAH, zAE, zAI, zAF, zAD, Option.isSome_some])
  · (refine zDH rfl rfl rfl ?_ ?_ <;> simp only [yq44.down, zA, lemS.down, lemC.down, Int.reduceBEq, Nat.reduceAdd, Nat.reduceLeDiff, reduceIte, Nat.reduceEqDiff, Int.reduceLT, Int.reduceLE, Int.reduceGT, Int.reduceGE, Int.reduceEq, Int.reduceAdd, Int.reduceSub, Int.reduceMul, reduceCtorEq, c11, l12, zAH, zAE, zAI, zAF, zAD, Option.isSome_some])
  · (refine zDH rfl rfl rfl ?_ ?_ <;> simp only [yq44.down, zA, lemS.down, lemC.down, Int.reduceBEq, Nat.reduceAdd, Nat.reduceLeDiff, reduceIte, Nat.reduceEqDiff, Int.reduceLT, Int.reduceLE, Int.reduceGT, Int.reduceGE, Int.reduceEq, Int.reduceAdd, Int.reduceSub, Int.reduceMul, reduceCtorEq, c13, l12, zAH, zAE, zAI, zAF, zAD, Option.isSome_some])
  · (refine zDH rfl rfl rfl ?_ ?_ <;> simp only [yq44.down, zA, lemS.down, lemC.down, Int.reduceBEq, Nat.reduceAdd, Nat.reduceLeDiff, reduceIte, Nat.reduceEqDiff, Int.reduceLT, Int.reduceLE, Int.reduceGT, Int.reduceGE, Int.reduceEq, Int.reduceAdd, Int.reduceSub, Int.reduceMul, reduceCtorEq, d13, l15, zAH, zAE, zAI, zAF, zAD, Option.isSome_some])
  · (refine zDH rfl rfl rfl ?_ ?_ <;> simp only [yq44.down, zA, lemS.down, lemC.down, Int.reduceBEq, Nat.reduceAdd, Nat.reduceLeDiff, reduceIte, Nat.reduceEqDiff, Int.reduceLT, Int.reduceLE, Int.reduceGT, Int.reduceGE, Int.reduceEq, Int.reduceAdd, Int.reduceSub, Int.reduceMul, reduceCtorEq, d14, l15, zAH, zAE, zAI, zAF, zAD, Option.isSome_some])
  · (refine zDH rfl rfl rfl ?_ ?_ <;> simp only [yq44.down, zA, lemS.down, lemC.down, Int.reduceBEq, Nat.reduceAdd, Nat.reduceLeDiff, reduceIte, Nat.reduceEqDiff, Int.reduceLT, Int.reduceLE, Int.reduceGT, Int.reduceGE, Int.reduceEq, Int.reduceAdd, Int.reduceSub, Int.reduceMul, reduceCtorEq, d16, l15, zAH, zAE, zAI, zAF, zAD, Option.isSome_some])
  (repeat (first | refine zS ?_ | refine zL ?_ | refine zR ?_ | refine zE ?_ | refine zC ?_ | refine zJ ?_ | refine zK ?_ | refine zP ?_ | refine zF ?_ | refine zH ?_ | refine zG ?_ | refine zI (by decide) ?_ | refine zQ ?_ | ((first | refine zD ?_ | refine zN ?_ | refine zT rfl rfl ?_ | refine zO rfl ?_ | refine zM ?_); simp only [yq44.down, zA, lemS.down, lemC.down, Int.reduceBEq, Nat.reduceAdd, Nat.reduceLeDiff, reduceIte, Nat.reduceEqDiff, Int.reduceLT, Int.reduceLE, Int.reduceGT, Int.reduceGE, Int.reduceEq, Int.reduceAdd, Int.reduceSub, Int.reduceMul, reduceCtorEq, lemH.down])))
  exact ⟨.inr rfl, by simp only [yq44.down, zA, lemS.down, lemC.down, Int.reduceBEq, Nat.reduceAdd, Nat.reduceLeDiff, reduceIte, Nat.reduceEqDiff, Int.reduceLT, Int.reduceLE, Int.reduceGT, Int.reduceGE, Int.reduceEq, Int.reduceAdd, Int.reduceSub, Int.reduceMul, reduceCtorEq], gF⟩
end Go.X
end
section
open Go Go.X
namespace Go.X
set_option linter.unusedVariables false
end Go.X
end
section
open Go Go.X Go.Proofs Go.RowKit
namespace Go.X
set_option linter.unusedVariables false
theorem headU20 : zCc (Tab Try.prog U20) := ⟨⟨rfl, rfl, zW Try.func51 cq51, rfl, zW Try.func91 cq91, rfl, zW Try.func66 cq66, rfl, zW Try.func92 cq92, rfl, zW Try.func67 cq67, rfl, zW Try.func68 cq68, rfl, zW Try.func53 cq53, rfl, zW Try.func54 cq54, rfl, zW Try.func69 cq69, rfl, zW Try.func93 cq93, rfl, zW Try.func94 cq94, rfl, zW Try.func70 cq70, rfl, zW Try.func71 cq71, rfl, zW Try.func72 cq72, rfl, zW Try.func84 cq84, rfl, zW Try.func56 cq56, rfl, zW Try.func57 cq57, rfl, zW Try.func58 cq58⟩, rfl, rfl, rfl, zW Try.func124 cq124, rfl, zW Try.func111 cq111⟩
theorem certU20 : zCA (Tab Try.prog U20) := ⟨headU20, rfl, rfl, rfl, rfl, rfl, rfl, rfl, zW Try.func27 cq27, rfl, rfl, rfl, zW Try.func42 cq42, rfl, zW Try.func43 cq43, rfl, zW Try.func78 cq78⟩
theorem addU20 : zCb (Tab Try.prog U20) := ⟨rfl, rfl, zW Try.func81 cq81, rfl, zW Try.func50 cq50, rfl, rfl, zW Try.func48 cq48⟩
theorem lawU20 : Law17 (Tab Try.prog U20) := ⟨certU20, addU20, rfl, rfl⟩
def U21 : List (Nat × Prim) := (44, za trueS) :: U20
theorem uk21 : XOK Try.prog (Tab Try.prog U21) := Tab.pure uk20 Try.func44 cq44 fun args v h => by
  obtain ⟨rfl, rfl⟩ := zE5 (s := trueS) (fun _ _ => rfl) rfl h
  exact ⟨rfl, rfl, fun g => zUg _ lawU20 g⟩
theorem headU21 : zCc (Tab Try.prog U21) := ⟨⟨rfl, rfl, zW Try.func51 cq51, rfl, zW Try.func91 cq91, rfl, zW Try.func66 cq66, rfl, zW Try.func92 cq92, rfl, zW Try.func67 cq67, rfl, zW Try.func68 cq68, rfl, zW Try.func53 cq53, rfl, zW Try.func54 cq54, rfl, zW Try.func69 cq69, rfl, zW Try.func93 cq93, rfl, zW Try.func94 cq94, rfl, zW Try.func70 cq70, rfl, zW Try.func71 cq71, rfl, zW Try.func72 cq72, rfl, zW Try.func84 cq84, rfl, zW Try.func56 cq56, rfl, zW Try.func57 cq57, rfl, zW Try.func58 cq58⟩, rfl, rfl, rfl, zW Try.func124 cq124, rfl, zW Try.func111 cq111⟩
theorem certU21 : zCA (Tab Try.prog U21) := ⟨headU21, rfl, rfl, rfl, rfl, rfl, rfl, rfl, zW Try.func27 cq27, rfl, rfl, rfl, zW Try.func42 cq42, rfl, zW Try.func43 cq43, rfl, zW Try.func78 cq78⟩
theorem addU21 : zCb (Tab Try.prog U21) := ⟨rfl, rfl, zW Try.func81 cq81, rfl, zW Try.func50 cq50, rfl, rfl, zW Try.func48 cq48⟩
theorem lawU21 : Law17 (Tab Try.prog U21) := ⟨certU21, addU21, rfl, rfl⟩
theorem wf_u64 {n : Int} (h : (Lit.int .u64 n).wf = true) : 0 ≤ n ∧ n < 18446744073709551616 := by
  simp only [Lit.wf, Bool.and_eq_true, decide_eq_true_eq] at h
  have e1 : IntKind.u64.min = 0 := by decide
  have e2 : IntKind.u64.max = 18446744073709551615 := by decide
  omega
end Go.X
end
