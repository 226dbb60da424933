/- The statements of certificates. -/
import Derived.Test.YtmhkcnibbodjnaaXQ
set_option linter.unusedSimpArgs false
set_option linter.unusedVariables false
set_option maxHeartbeats 2000000
section
open Go Go.X
namespace Go.X
set_option linter.unusedVariables false
theorem checkAt_eqG {l : List XO} {tr : List (Fr × Heap)} {j k : Nat} {d : Option Nat} {gd : Option (Nat × Bool)} {op : ROp} {t t' : Fr} {h h' : Heap}
    (h1 : l[j]? = some ⟨d, .r op, gd⟩) (h2 : tr[j]? = some (t, h)) (h3 : tr[k]? = some (t', h')) (h4 : (readX t h op).isSome = true) (h5 : readX t h' op = readX t h op) : checkAt l tr j k [] = true := by
  obtain ⟨v, hv⟩ := Option.isSome_iff_exists.1 h4
  unfold checkAt
  rw [h1, h2, h3]
  simp only [withPend, h5, hv, sameV_refl, Bool.or_true]
theorem keys17_ok : keysOk keys17 = true := ringKeys_ok _ _
theorem headE17 (n : Nat) : headE (hdr17 n) = 0 := by
  unfold headE
  rw [if_neg]
  have hl : (sha (numB n 8)).length = 32 := sha_len _
  have hm : membersP (hdr17 n).m = true := by show membersP [0, 1, 2] = true; decide
  rw [hm]
  show ¬ (n % 1000 + 1 < 1 ∨ (sha (numB n 8)).length ≠ 32 ∨ (sha (numB n 8)).length ≠ 32 ∨ (sha (numB n 8)).length ≠ 32 ∨ true = false)
  simp [hl]
theorem sign17 {n i : Nat} (hi : i < 16) : signP keys17 (i : Int) (hdr17 n) = (((i : Int), tagC i (hdr17 n)), 0) := by
  unfold signP
  rw [if_neg (by rw [headE17]; decide), keyP_in hi]
  rfl
theorem sign17_out {n : Nat} {i : Int} (hi : i < 0 ∨ 15 < i) : signP keys17 i (hdr17 n) = ((0, []), 2) := by
  unfold signP
  rw [if_neg (by rw [headE17]; decide)]
  have : keyP keys17 i = ([], false) := by
    unfold keyP
    rw [ringKeys_len, if_neg (by omega)]
  rw [this]
  rfl
theorem good17 {n i : Nat} {t : List UInt8} (hi : i < 16) : goodP keys17 (hdr17 n) (i : Int) t = (tagC i (hdr17 n) == t) := by
  unfold goodP checkP
  rw [headE17, keyP_in hi]
  rfl
/-- a tag is laid into a variable -/
theorem tag_var {g : Heap} {r : Int} {t : List UInt8} : ∃ g1 g2, g.new [.int .i64 0, .string (strOf [])] = g1 ∧ storeV g1 2 (.pointer (some ⟨g.next, 0, none⟩)) (tagV r t) = some (.tuple #[], g2) ∧ Var g2 g.next [.int .i64 r, .string (strOf t)] ∧ Grows g g2 ∧ g2.next = g.next + 1 := by
  have v0 : Var (g.new [.int .i64 0, .string (strOf [])]) g.next [.int .i64 0, .string (strOf [])] := Var.new_self
  exact ⟨_, _, rfl, v0.storeAll rfl rfl (by decide) rfl, v0.wr, Grows.new.wr (Nat.le_refl _), rfl⟩
/-- a certificate is laid into a variable -/
theorem cert_var {g : Heap} {v : Value} {l : TagL} (hs : RdTags g v l) : ∃ g1 g2, g.new [.slice none 0 0] = g1 ∧ storeV g1 1 (.pointer (some ⟨g.next, 0, none⟩)) (.agg [v].toArray) = some (.tuple #[], g2) ∧ Var g2 g.next [v] ∧ Grows g g2 ∧ g2.next = g.next + 1 := by
  have v0 : Var (g.new [.slice none 0 0]) g.next [.slice none 0 0] := Var.new_self
  exact ⟨_, _, rfl, v0.storeAll rfl rfl (by decide) (by simp [(tagsAt_one hs.now).2]), v0.wr, Grows.new.wr (Nat.le_refl _), rfl⟩
theorem rdTags_nil {h : Heap} : RdTags h (.slice none 0 0) [] := fun _ _ => rfl
theorem ints_new {h : Heap} : ∃ g, h.new [.int .i64 0, .int .i64 1, .int .i64 2] = g ∧ Grows h g ∧ intsAt g (.slice (some ⟨h.next, 0, none⟩) 3 3) = some [0, 1, 2] := ⟨_, rfl, Grows.new, three_ints⟩
structure Law17 (pr : Prog) : Prop where
  cert : CertTab pr
  add : AddTab pr
  check : pr.prim 49 = some certCheckG
  tag : pr.prim 45 = some tag17G
theorem okTag_first {keys : List (List UInt8)} {x : Hdr} {q : Int × List UInt8} {l : TagL} (g : goodP keys x q.1 q.2 = true) : okTag keys x (q :: l) 0 = true := by
  simp only [okTag, Nat.lt_irrefl, decide_false, Bool.false_and, Bool.not_false, Bool.true_and]
  exact g
theorem cert_one {keys : List (List UInt8)} {x : Hdr} {t : List UInt8} (h0 : headE x = 0) (g : goodP keys x 2 t = true) : checkE keys x [(2, t)] [0, 1, 2] = 170 := by
  have hm : membersP [0, 1, 2] = true := by decide
  have ha : (List.range 1).all (okTag keys x [(2, t)]) = true := by
    rw [List.all_eq_true]
    intro j hj
    obtain rfl : j = 0 := by simpa using hj
    exact okTag_first g
  have hp : mostP [0, 1, 2] [2] = false := by decide
  have hl : ([(2, t)] : TagL).length = 1 := rfl
  have hk : ([(2, t)] : TagL).map (·.1) = [2] := rfl
  unfold checkE
  rw [hm, hl, ha, hk, hp, h0]
  rfl
theorem cert_two {keys : List (List UInt8)} {x : Hdr} {t u : List UInt8} (h0 : headE x = 0) (g0 : goodP keys x 0 u = true) (g : goodP keys x 2 t = true) : checkE keys x [(0, u), (2, t)] [0, 1, 2] = 0 := by
  have hm : membersP [0, 1, 2] = true := by decide
  have ha : (List.range 2).all (okTag keys x [(0, u), (2, t)]) = true := by
    rw [List.all_eq_true]
    intro j hj
    have hj : j < 2 := by simpa using hj
    match j, hj with
    | 0, _ => exact okTag_first g0
    | 1, _ =>
      have e : okTag keys x [(0, u), (2, t)] 1 = (!(decide (0 < 1) && decide ((0 : Int) ≥ 2)) && goodP keys x 2 t) := rfl
      rw [e, g]
      decide
  have hp : mostP [0, 1, 2] [0, 2] = true := by decide
  have hl : ([(0, u), (2, t)] : TagL).length = 2 := rfl
  have hk : ([(0, u), (2, t)] : TagL).map (·.1) = [0, 2] := rfl
  unfold checkE
  rw [hm, hl, ha, hk, hp, h0]
  rfl
theorem good17_self {n i : Nat} (hi : i < 16) : goodP keys17 (hdr17 n) (i : Int) (tagC i (hdr17 n)) = true := by rw [good17 hi, beq_self_eq_true]
theorem cert17_one (n : Nat) : checkE keys17 (hdr17 n) [(2, tagC 2 (hdr17 n))] [0, 1, 2] = 170 := cert_one (headE17 n) (good17_self (i := 2) (by decide))
theorem cert17_two (n : Nat) : checkE keys17 (hdr17 n) [(0, tagC 0 (hdr17 n)), (2, tagC 2 (hdr17 n))] [0, 1, 2] = 0 := cert_two (headE17 n) (good17_self (i := 0) (by decide)) (good17_self (i := 2) (by decide))
theorem add17_one (t : List UInt8) : addT [] (2, t) = [(2, t)] := rfl
theorem add17_two (t u : List UInt8) : addT [(2, t)] (0, u) = [(0, u), (2, t)] := rfl
theorem sorted1 (q : Int × List UInt8) : SortedT [q] := List.pairwise_singleton _ _
end Go.X
end

section
open Go Go.X
namespace Go.X
set_option linter.unusedVariables false
set_option maxRecDepth 100000 in
set_option maxHeartbeats 4000000 in
theorem awake17_ok (pr : Prog) (T : Law17 pr) (h : Heap) : Comes pr xq44 [] h (.bool true) := by
  apply Comes.of
  unfold xq44
  dsimp only [initFr]
  have hr64 : roomX = 140737488355328 := rfl
  obtain ⟨h1, e1, r1, g1⟩ := ring17 T.cert h
  obtain ⟨m1, h2, e2, x2, g2⟩ := header17 T.cert h1 1 (by decide)
  have e2 : cfi pr 43 [.int .u64 1] h1 = _ := e2
  have s1 := cfi_at T.cert.sign (signG_at (i := 0) (r1.grow g2).now keys17_ok x2.now)
  rw [show (0 : Int) = ((0 : Nat) : Int) from rfl, sign17 (by decide)] at s1
  have s1 : cfi pr 41 [.pointer (some ⟨h.next, 0, none⟩), .int .i64 0, .agg (hcells (hdr17 1) m1).toArray] h2 = some (.tuple #[tagV 0 (tagC 0 (hdr17 1)), .int .i64 0], h2) := s1
  obtain ⟨q3, h3, a3, st3, v3, g3, n3⟩ := tag_var (g := h2) (r := 0) (t := tagC 0 (hdr17 1))
  obtain ⟨h4, e4, r4, g4⟩ := ring17 T.cert h3
  obtain ⟨m5, h5, e5, x5, g5⟩ := header17 T.cert h4 1 (by decide)
  have e5 : cfi pr 43 [.int .u64 1] h4 = _ := e5
  have s5 := cfi_at T.cert.sign (signG_at (i := 2) (r4.grow g5).now keys17_ok x5.now)
  rw [show (2 : Int) = ((2 : Nat) : Int) from rfl, sign17 (by decide)] at s5
  have s5 : cfi pr 41 [.pointer (some ⟨h3.next, 0, none⟩), .int .i64 2, .agg (hcells (hdr17 1) m5).toArray] h5 = some (.tuple #[tagV 2 (tagC 2 (hdr17 1)), .int .i64 0], h5) := s5
  obtain ⟨q6, h6, a6, st6, v6, g6, n6⟩ := tag_var (g := h5) (r := 2) (t := tagC 2 (hdr17 1))
  have l6 : ∀ sp, h6.loadN ⟨h5.next, 0, sp⟩ 2 = some [.int .i64 2, .string (strOf (tagC 2 (hdr17 1)))] := fun sp => v6.loadAll rfl
  obtain ⟨w7, h7, e7, t7, g7⟩ := Add_run T.add (h := h6) (r := 2) (t := tagC 2 (hdr17 1)) rdTags_nil List.Pairwise.nil (by decide) ⟨by decide, by decide⟩
  have e7 : cfi pr 48 [.agg [.slice none 0 0].toArray, .agg [.int .i64 2, .string (strOf (tagC 2 (hdr17 1)))].toArray] h6 = _ := e7
  rw [add17_one] at t7
  obtain ⟨q8, h8, a8, st8, v8, g8, n8⟩ := cert_var t7
  have l8 : ∀ sp, h8.loadN ⟨h7.next, 0, sp⟩ 1 = some [w7] := fun sp => v8.loadAll rfl
  have l3 : ∀ sp, h8.loadN ⟨h2.next, 0, sp⟩ 2 = some [.int .i64 0, .string (strOf (tagC 0 (hdr17 1)))] := fun sp => (v3.grow ((((g4.trans g5).trans g6).trans g7).trans g8)).loadAll rfl
  obtain ⟨w9, h9, e9, t9, g9⟩ := Add_run T.add (r := 0) (t := tagC 0 (hdr17 1)) (t7.grow g8) (sorted1 _) (by decide) ⟨by decide, by decide⟩
  have e9 : cfi pr 48 [.agg [w7].toArray, .agg [.int .i64 0, .string (strOf (tagC 0 (hdr17 1)))].toArray] h8 = _ := e9
  rw [add17_two] at t9
  obtain ⟨q10, h10, a10, st10, v10, g10, n10⟩ := cert_var t9
  obtain ⟨h11, e11, r11, g11⟩ := ring17 T.cert h10
  obtain ⟨m12, h12, e12, x12, g12⟩ := header17 T.cert h11 1 (by decide)
  have e12 : cfi pr 43 [.int .u64 1] h11 = _ := e12
  obtain ⟨h13, a13, g13, i13⟩ := ints_new (h := h12)
  have gA : Grows h8 h13 := ((((g9.trans g10).trans g11).trans g12).trans g13)
  have k13 := cfi_at T.check (certCheckG_at ((r11.grow g12).grow g13).now keys17_ok (x12.grow g13).now ((t7.grow g8).grow gA).now (by decide) i13 (by decide))
  rw [cert17_one] at k13
  have k13 : cfi pr 49 [.pointer (some ⟨h10.next, 0, none⟩), .agg (hcells (hdr17 1) m12).toArray, .agg [w7].toArray, .slice (some ⟨h12.next, 0, none⟩) 3 3] h13 = some (.int .i64 170, h13) := k13
  have l12 : ∀ sp, h12.loadN ⟨h7.next, 0, sp⟩ 1 = some [w7] := fun sp => (v8.grow (((g9.trans g10).trans g11).trans g12)).loadAll rfl
  obtain ⟨h14, e14, r14, g14⟩ := ring17 T.cert h13
  obtain ⟨m15, h15, e15, x15, g15⟩ := header17 T.cert h14 1 (by decide)
  have e15 : cfi pr 43 [.int .u64 1] h14 = _ := e15
  obtain ⟨h16, a16, g16, i16⟩ := ints_new (h := h15)
  have gB : Grows h10 h16 := (((((g11.trans g12).trans g13).trans g14).trans g15).trans g16)
  have k16 := cfi_at T.check (certCheckG_at ((r14.grow g15).grow g16).now keys17_ok (x15.grow g16).now ((t9.grow g10).grow gB).now (by decide) i16 (by decide))
  rw [cert17_two] at k16
  have k16 : cfi pr 49 [.pointer (some ⟨h13.next, 0, none⟩), .agg (hcells (hdr17 1) m15).toArray, .agg [w9].toArray, .slice (some ⟨h15.next, 0, none⟩) 3 3] h16 = some (.int .i64 0, h16) := k16
  have l15 : ∀ sp, h15.loadN ⟨h9.next, 0, sp⟩ 1 = some [w9] := fun sp => (v10.grow ((((g11.trans g12).trans g13).trans g14).trans g15)).loadAll rfl
  have gF : Grows h h16 := (((((((((g1.trans g2).trans g3).trans g4).trans g5).trans g6).trans g7).trans g8).trans g9).trans g10).trans gB
  (repeat (first | refine wpk_seq ?_ | refine wpk_block ?_ | refine wpk_scope ?_ | refine wpk_skip ?_ | refine kont_code ?_ | refine kont_blk ?_ | refine kont_nil ?_ | refine wpk_exit ?_ | refine exit_code ?_ | refine exit_lp ?_ | refine exit_here ?_ | refine exit_there (by decide) ?_ | refine wpk_ret ?_ | ((first | refine wpk_ops ?_ | refine wpk_draw0 ?_ | refine wpk_drawS rfl rfl ?_ | refine wpk_drawC rfl ?_ | refine wpk_drawP rfl ?_ | refine wpk_condE ?_); simp only [yq44.down, cintV_i, lemS.down, lemC.down, Int.reduceBEq, Nat.reduceAdd, Nat.reduceLeDiff, reduceIte, Nat.reduceEqDiff, Int.reduceLT, Int.reduceLE, Int.reduceGT, Int.reduceGE, Int.reduceEq, Int.reduceAdd, Int.reduceSub, Int.reduceMul, reduceCtorEq, lemH.down, e1, e2, s1, a3, st3, e4, e5, s5, a6, st6, fill_none, l6, e7, a8, st8, l8, l3, e9, a10, st10, e11, e12, l12, fill3i, a13, k13, e14, e15, l15, a16, k16])))
  have c10 : ∀ sp, h10.loadN ⟨h7.next, 0, sp⟩ 1 = some [w7] := fun sp => (v8.grow (g9.trans g10)).loadAll rfl
  have c11 : ∀ sp, h11.loadN ⟨h7.next, 0, sp⟩ 1 = some [w7] := fun sp => (v8.grow ((g9.trans g10).trans g11)).loadAll rfl
  have c13 : ∀ sp, h13.loadN ⟨h7.next, 0, sp⟩ 1 = some [w7] := fun sp => (v8.grow gA).loadAll rfl
  have d13 : ∀ sp, h13.loadN ⟨h9.next, 0, sp⟩ 1 = some [w9] := fun sp => (v10.grow ((g11.trans g12).trans g13)).loadAll rfl
  have d14 : ∀ sp, h14.loadN ⟨h9.next, 0, sp⟩ 1 = some [w9] := fun sp => (v10.grow (((g11.trans g12).trans g13).trans g14)).loadAll rfl
  have d16 : ∀ sp, h16.loadN ⟨h9.next, 0, sp⟩ 1 = some [w9] := fun sp => (v10.grow gB).loadAll rfl
  refine ⟨⟨?_, ?_⟩, ?_, ⟨?_, ?_⟩, ?_, ?_⟩
  · (refine checkAt_eqG rfl rfl rfl ?_ ?_ <;> simp only [yq44.down, cintV_i, lemS.down, lemC.down, Int.reduceBEq, Nat.reduceAdd, Nat.reduceLeDiff, reduceIte, Nat.reduceEqDiff, Int.reduceLT, Int.reduceLE, Int.reduceGT, Int.reduceGE, Int.reduceEq, Int.reduceAdd, Int.reduceSub, Int.reduceMul, reduceCtorEq, c10, l12, r_load1V, load1V_p, r_loadNV, loadNV_p, aggV_some, Option.isSome_some])
  · (refine checkAt_eqG rfl rfl rfl ?_ ?_ <;> simp only [yq44.down, cintV_i, lemS.down, lemC.down, Int.reduceBEq, Nat.reduceAdd, Nat.reduceLeDiff, reduceIte, Nat.reduceEqDiff, Int.reduceLT, Int.reduceLE, Int.reduceGT, Int.reduceGE, Int.reduceEq, Int.reduceAdd, Int.reduceSub, Int.reduceMul, reduceCtorEq, c11, l12, r_load1V, load1V_p, r_loadNV, loadNV_p, aggV_some, Option.isSome_some])
  · (refine checkAt_eqG rfl rfl rfl ?_ ?_ <;> simp only [yq44.down, cintV_i, lemS.down, lemC.down, Int.reduceBEq, Nat.reduceAdd, Nat.reduceLeDiff, reduceIte, Nat.reduceEqDiff, Int.reduceLT, Int.reduceLE, Int.reduceGT, Int.reduceGE, Int.reduceEq, Int.reduceAdd, Int.reduceSub, Int.reduceMul, reduceCtorEq, c13, l12, r_load1V, load1V_p, r_loadNV, loadNV_p, aggV_some, Option.isSome_some])
  · (refine checkAt_eqG rfl rfl rfl ?_ ?_ <;> simp only [yq44.down, cintV_i, lemS.down, lemC.down, Int.reduceBEq, Nat.reduceAdd, Nat.reduceLeDiff, reduceIte, Nat.reduceEqDiff, Int.reduceLT, Int.reduceLE, Int.reduceGT, Int.reduceGE, Int.reduceEq, Int.reduceAdd, Int.reduceSub, Int.reduceMul, reduceCtorEq, d13, l15, r_load1V, load1V_p, r_loadNV, loadNV_p, aggV_some, Option.isSome_some])
  · (refine checkAt_eqG rfl rfl rfl ?_ ?_ <;> simp only [yq44.down, cintV_i, lemS.down, lemC.down, Int.reduceBEq, Nat.reduceAdd, Nat.reduceLeDiff, reduceIte, Nat.reduceEqDiff, Int.reduceLT, Int.reduceLE, Int.reduceGT, Int.reduceGE, Int.reduceEq, Int.reduceAdd, Int.reduceSub, Int.reduceMul, reduceCtorEq, d14, l15, r_load1V, load1V_p, r_loadNV, loadNV_p, aggV_some, Option.isSome_some])
  · (refine checkAt_eqG rfl rfl rfl ?_ ?_ <;> simp only [yq44.down, cintV_i, lemS.down, lemC.down, Int.reduceBEq, Nat.reduceAdd, Nat.reduceLeDiff, reduceIte, Nat.reduceEqDiff, Int.reduceLT, Int.reduceLE, Int.reduceGT, Int.reduceGE, Int.reduceEq, Int.reduceAdd, Int.reduceSub, Int.reduceMul, reduceCtorEq, d16, l15, r_load1V, load1V_p, r_loadNV, loadNV_p, aggV_some, Option.isSome_some])
  (repeat (first | refine wpk_seq ?_ | refine wpk_block ?_ | refine wpk_scope ?_ | refine wpk_skip ?_ | refine kont_code ?_ | refine kont_blk ?_ | refine kont_nil ?_ | refine wpk_exit ?_ | refine exit_code ?_ | refine exit_lp ?_ | refine exit_here ?_ | refine exit_there (by decide) ?_ | refine wpk_ret ?_ | ((first | refine wpk_ops ?_ | refine wpk_draw0 ?_ | refine wpk_drawS rfl rfl ?_ | refine wpk_drawC rfl ?_ | refine wpk_condE ?_); simp only [yq44.down, cintV_i, lemS.down, lemC.down, Int.reduceBEq, Nat.reduceAdd, Nat.reduceLeDiff, reduceIte, Nat.reduceEqDiff, Int.reduceLT, Int.reduceLE, Int.reduceGT, Int.reduceGE, Int.reduceEq, Int.reduceAdd, Int.reduceSub, Int.reduceMul, reduceCtorEq, lemH.down])))
  exact ⟨.inr rfl, by simp only [yq44.down, cintV_i, lemS.down, lemC.down, Int.reduceBEq, Nat.reduceAdd, Nat.reduceLeDiff, reduceIte, Nat.reduceEqDiff, Int.reduceLT, Int.reduceLE, Int.reduceGT, Int.reduceGE, Int.reduceEq, Int.reduceAdd, Int.reduceSub, Int.reduceMul, reduceCtorEq], gF⟩
end Go.X
end

section
open Go Go.X
namespace Go.X
set_option linter.unusedVariables false
theorem xor_one {i : Nat} (hi : i < 16) : i ^^^ 1 < 16 ∧ binX .xor (.int .i64 (i : Int)) (.int .i64 1) = some (.int .i64 ((i ^^^ 1 : Nat) : Int)) := by
  have h1 : ∀ i : Fin 16, (i.val ^^^ 1) < 16 ∧ IntKind.i64.wrap ((BitVec.ofInt 64 (i.val : Int) ^^^ BitVec.ofInt 64 1).toNat : Int) = ((i.val ^^^ 1 : Nat) : Int) := by decide
  obtain ⟨a, b⟩ := h1 ⟨i, hi⟩
  refine ⟨a, ?_⟩
  rw [bin_xor]
  congr 2
set_option maxRecDepth 100000 in
set_option maxHeartbeats 4000000 in
theorem CertSigns_ok (pr : Prog) (T : Law17 pr) (hw : pr.prim 44 = some (pureG trueS)) (i : Int) (n m : Nat) (hn : n < 18446744073709551616) (hm : m < 18446744073709551616) (h : Heap) : Comes pr xq11 [.int .i64 i, .int .u64 (n : Int), .int .u64 (m : Int)] h (.bool true) := by
  apply Comes.of
  unfold xq11
  dsimp only [initFr]
  have hr64 : roomX = 140737488355328 := rfl
  obtain ⟨h1, e1, r1, g1⟩ := ring17 T.cert h
  obtain ⟨m1, h2, e2, x2, g2⟩ := header17 T.cert h1 n hn
  have s1 := cfi_at T.cert.sign (signG_at (i := i) (r1.grow g2).now keys17_ok x2.now)
  by_cases hb : i < 0 ∨ 15 < i
  · rw [sign17_out hb] at s1
    have s1 : cfi pr 41 [.pointer (some ⟨h.next, 0, none⟩), .int .i64 i, .agg (hcells (hdr17 n) m1).toArray] h2 = some (.tuple #[tagV 0 [], .int .i64 2], h2) := s1
    obtain ⟨q3, h3, a3, st3, v3, g3, n3⟩ := tag_var (g := h2) (r := 0) (t := [])
    have aw := cfi_pure (h := h3) hw (s := trueS) (args := []) rfl
    have l1 : ∀ sp, h3.load ⟨h2.next, 1, sp⟩ = some (.string (strOf [])) := fun sp => v3.load
    by_cases c1 : i < 0
    · have d1 : decide (i < 0) = true := decide_eq_true c1
      (repeat (first | refine wpk_seq ?_ | refine wpk_block ?_ | refine wpk_scope ?_ | refine wpk_skip ?_ | refine kont_code ?_ | refine kont_blk ?_ | refine kont_nil ?_ | refine wpk_exit ?_ | refine exit_code ?_ | refine exit_lp ?_ | refine exit_here ?_ | refine exit_there (by decide) ?_ | refine wpk_ret ?_ | ((first | refine wpk_ops ?_ | refine wpk_draw0 ?_ | refine wpk_drawS rfl rfl ?_ | refine wpk_drawC rfl ?_ | refine wpk_condE ?_); simp only [yq11.down, cintV_i, lemS.down, lemC.down, Int.reduceBEq, Nat.reduceAdd, Nat.reduceLeDiff, reduceIte, Nat.reduceEqDiff, Int.reduceLT, Int.reduceLE, Int.reduceGT, Int.reduceGE, Int.reduceEq, Int.reduceAdd, Int.reduceSub, Int.reduceMul, reduceCtorEq, lemH.down, e1, e2, s1, a3, st3, aw, d1, l1, wantV_none])))
      exact ⟨.inr rfl, by simp only [yq11.down, cintV_i, lemS.down, lemC.down, Int.reduceBEq, Nat.reduceAdd, Nat.reduceLeDiff, reduceIte, Nat.reduceEqDiff, Int.reduceLT, Int.reduceLE, Int.reduceGT, Int.reduceGE, Int.reduceEq, Int.reduceAdd, Int.reduceSub, Int.reduceMul, reduceCtorEq], (g1.trans g2).trans g3⟩
    · have d1 : decide (i < 0) = false := decide_eq_false c1
      have d2 : decide (i > 15) = true := decide_eq_true (by omega)
      (repeat (first | refine wpk_seq ?_ | refine wpk_block ?_ | refine wpk_scope ?_ | refine wpk_skip ?_ | refine kont_code ?_ | refine kont_blk ?_ | refine kont_nil ?_ | refine wpk_exit ?_ | refine exit_code ?_ | refine exit_lp ?_ | refine exit_here ?_ | refine exit_there (by decide) ?_ | refine wpk_ret ?_ | ((first | refine wpk_ops ?_ | refine wpk_draw0 ?_ | refine wpk_drawS rfl rfl ?_ | refine wpk_drawC rfl ?_ | refine wpk_condE ?_); simp only [yq11.down, cintV_i, lemS.down, lemC.down, Int.reduceBEq, Nat.reduceAdd, Nat.reduceLeDiff, reduceIte, Nat.reduceEqDiff, Int.reduceLT, Int.reduceLE, Int.reduceGT, Int.reduceGE, Int.reduceEq, Int.reduceAdd, Int.reduceSub, Int.reduceMul, reduceCtorEq, lemH.down, e1, e2, s1, a3, st3, aw, d1, d2, l1, wantV_none])))
      exact ⟨.inr rfl, by simp only [yq11.down, cintV_i, lemS.down, lemC.down, Int.reduceBEq, Nat.reduceAdd, Nat.reduceLeDiff, reduceIte, Nat.reduceEqDiff, Int.reduceLT, Int.reduceLE, Int.reduceGT, Int.reduceGE, Int.reduceEq, Int.reduceAdd, Int.reduceSub, Int.reduceMul, reduceCtorEq], (g1.trans g2).trans g3⟩
  · obtain ⟨k, rfl⟩ : ∃ k : Nat, i = (k : Int) := ⟨i.toNat, by omega⟩
    have hk : k < 16 := by omega
    obtain ⟨hx, xo⟩ := xor_one hk
    rw [sign17 hk] at s1
    have s1 : cfi pr 41 [.pointer (some ⟨h.next, 0, none⟩), .int .i64 (k : Int), .agg (hcells (hdr17 n) m1).toArray] h2 = some (.tuple #[tagV (k : Int) (tagC k (hdr17 n)), .int .i64 0], h2) := s1
    obtain ⟨q3, h3, a3, st3, v3, g3, n3⟩ := tag_var (g := h2) (r := (k : Int)) (t := tagC k (hdr17 n))
    have aw := cfi_pure (h := h3) hw (s := trueS) (args := []) rfl
    have d1 : decide ((k : Int) < 0) = false := decide_eq_false (by omega)
    have d2 : decide ((k : Int) > 15) = false := decide_eq_false (by omega)
    have l3 : ∀ sp, h3.loadN ⟨h2.next, 0, sp⟩ 2 = some [.int .i64 (k : Int), .string (strOf (tagC k (hdr17 n)))] := fun sp => v3.loadAll rfl
    obtain ⟨q4, h4, a4, st4, v4, g4, n4⟩ := tag_var (g := h3) (r := (k : Int)) (t := tagC k (hdr17 n))
    have st4 : storeV q4 2 (.pointer (some ⟨h3.next, 0, none⟩)) (.agg [.int .i64 (k : Int), .string (strOf (tagC k (hdr17 n)))].toArray) = some (.tuple #[], h4) := st4
    obtain ⟨h5, st5, v5, g5⟩ : ∃ h5, storeV h4 1 (.pointer (some ⟨h3.next, 0, none⟩)) (.int .i64 ((k ^^^ 1 : Nat) : Int)) = some (.tuple #[], h5) ∧ Var h5 h3.next [.int .i64 ((k ^^^ 1 : Nat) : Int), .string (strOf (tagC k (hdr17 n)))] ∧ Grows h3 h5 := by
      refine ⟨h4.wr h3.next [.int .i64 ((k ^^^ 1 : Nat) : Int), .string (strOf (tagC k (hdr17 n)))], ?_, v4.wr, g4.wr (Nat.le_refl _)⟩
      rw [storeV_one rfl, v4.store1 (i := 0) (by simp) rfl]
      rfl
    obtain ⟨m6, h6, e6, x6, g6⟩ := header17 T.cert h5 m hm
    have t6 := cfi_at T.tag (tag17G_at (i := k) (by omega) x6.now)
    obtain ⟨m7, h7, e7, x7, g7⟩ := header17 T.cert h6 n hn
    have t7 := cfi_at T.tag (tag17G_at (i := k) (by omega) x7.now)
    have gA : Grows h h7 := (((((g1.trans g2).trans g3).trans g5).trans g6).trans g7)
    have w3 := v3.grow ((g5.trans g6).trans g7)
    have w5 := v5.grow (g6.trans g7)
    have la : ∀ sp, h7.load ⟨h2.next, 0, sp⟩ = some (.int .i64 (k : Int)) := fun sp => w3.load
    have lb : ∀ sp, h7.load ⟨h2.next, 1, sp⟩ = some (.string (strOf (tagC k (hdr17 n)))) := fun sp => w3.load
    -- the region
    obtain ⟨m8, h8, e8, x8, g8⟩ := header17 T.cert h7 n hn
    have t8 := cfi_at T.tag (tag17G_at (i := k) (by omega) x8.now)
    obtain ⟨h9, e9, r9, g9⟩ := ring17 T.cert h8
    obtain ⟨m10, h10, e10, x10, g10⟩ := header17 T.cert h9 n hn
    have w10 := w3.grow ((g8.trans g9).trans g10)
    have lN10 : ∀ sp, h10.loadN ⟨h2.next, 0, sp⟩ 2 = some [.int .i64 (k : Int), .string (strOf (tagC k (hdr17 n)))] := fun sp => w10.loadAll rfl
    have gd10 := cfi_at T.cert.good (goodG_at (r := (k : Int)) (t := tagC k (hdr17 n)) (r9.grow g10).now keys17_ok x10.now)
    rw [good17 hk, beq_self_eq_true] at gd10
    have gd10 : cfi pr 46 [.pointer (some ⟨h8.next, 0, none⟩), .agg (hcells (hdr17 n) m10).toArray, .agg [.int .i64 (k : Int), .string (strOf (tagC k (hdr17 n)))].toArray] h10 = some (.bool true, h10) := gd10
    obtain ⟨h11, e11, r11, g11⟩ := ring17 T.cert h10
    obtain ⟨m12, h12, e12, x12, g12⟩ := header17 T.cert h11 m hm
    have w12 := w10.grow (g11.trans g12)
    have lN12 : ∀ sp, h12.loadN ⟨h2.next, 0, sp⟩ 2 = some [.int .i64 (k : Int), .string (strOf (tagC k (hdr17 n)))] := fun sp => w12.loadAll rfl
    have gd12 := cfi_at T.cert.good (goodG_at (r := (k : Int)) (t := tagC k (hdr17 n)) (r11.grow g12).now keys17_ok x12.now)
    rw [good17 hk] at gd12
    have gd12 : cfi pr 46 [.pointer (some ⟨h10.next, 0, none⟩), .agg (hcells (hdr17 m) m12).toArray, .agg [.int .i64 (k : Int), .string (strOf (tagC k (hdr17 n)))].toArray] h12 = some (.bool (tagC k (hdr17 m) == tagC k (hdr17 n)), h12) := gd12
    obtain ⟨h13, e13, r13, g13⟩ := ring17 T.cert h12
    obtain ⟨m14, h14, e14, x14, g14⟩ := header17 T.cert h13 n hn
    have w14 := w5.grow ((((((g8.trans g9).trans g10).trans g11).trans g12).trans g13).trans g14)
    have lN14 : ∀ sp, h14.loadN ⟨h3.next, 0, sp⟩ 2 = some [.int .i64 ((k ^^^ 1 : Nat) : Int), .string (strOf (tagC k (hdr17 n)))] := fun sp => w14.loadAll rfl
    have gd14 := cfi_at T.cert.good (goodG_at (r := ((k ^^^ 1 : Nat) : Int)) (t := tagC k (hdr17 n)) (r13.grow g14).now keys17_ok x14.now)
    rw [good17 hx] at gd14
    have gd14 : cfi pr 46 [.pointer (some ⟨h12.next, 0, none⟩), .agg (hcells (hdr17 n) m14).toArray, .agg [.int .i64 ((k ^^^ 1 : Nat) : Int), .string (strOf (tagC k (hdr17 n)))].toArray] h14 = some (.bool (tagC (k ^^^ 1) (hdr17 n) == tagC k (hdr17 n)), h14) := gd14
    obtain ⟨m15, h15, e15, x15, g15⟩ := header17 T.cert h14 n hn
    have t15 := cfi_at T.tag (tag17G_at (i := k ^^^ 1) (by omega) x15.now)
    have gB := ((((((g8.trans g9).trans g10).trans g11).trans g12).trans g13).trans g14).trans g15
    have w15 := w3.grow gB
    have l15 : ∀ sp, h15.load ⟨h2.next, 1, sp⟩ = some (.string (strOf (tagC k (hdr17 n)))) := fun sp => w15.load
    generalize tagC k (hdr17 n) = tg at *
    generalize tagC k (hdr17 m) = tm at *
    generalize tagC (k ^^^ 1) (hdr17 n) = tx at *
    (repeat (first | refine wpk_seq ?_ | refine wpk_block ?_ | refine wpk_scope ?_ | refine wpk_skip ?_ | refine kont_code ?_ | refine kont_blk ?_ | refine kont_nil ?_ | refine wpk_exit ?_ | refine exit_code ?_ | refine exit_lp ?_ | refine exit_here ?_ | refine exit_there (by decide) ?_ | refine wpk_ret ?_ | ((first | refine wpk_ops ?_ | refine wpk_draw0 ?_ | refine wpk_drawS rfl rfl ?_ | refine wpk_drawC rfl ?_ | refine wpk_condE ?_); simp only [yq11.down, cintV_i, lemS.down, lemC.down, Int.reduceBEq, Nat.reduceAdd, Nat.reduceLeDiff, reduceIte, Nat.reduceEqDiff, Int.reduceLT, Int.reduceLE, Int.reduceGT, Int.reduceGE, Int.reduceEq, Int.reduceAdd, Int.reduceSub, Int.reduceMul, reduceCtorEq, lemH.down, e1, e2, s1, a3, st3, aw, d1, d2, l3, a4, st4, xo, st5, e6, t6, e7, t7, la, lb, Nat.add_zero, e8, t8, e9, e10, lN10, gd10, e11, e12, lN12, gd12, e13, e14, lN14, gd14, e15, t15, l15])))
    (repeat (first | refine wpk_seq ?_ | refine wpk_block ?_ | refine wpk_scope ?_ | refine wpk_skip ?_ | refine kont_code ?_ | refine kont_blk ?_ | refine kont_nil ?_ | refine wpk_exit ?_ | refine exit_code ?_ | refine exit_lp ?_ | refine exit_here ?_ | refine exit_there (by decide) ?_ | refine wpk_ret ?_ | ((first | refine wpk_ops ?_ | refine wpk_draw0 ?_ | refine wpk_drawC rfl ?_ | refine wpk_condE ?_); simp (maxSteps := 5000000) only [yq11.down, cintV_i, lemS.down, lemC.down, Int.reduceBEq, Nat.reduceAdd, Nat.reduceLeDiff, reduceIte, Nat.reduceEqDiff, Int.reduceLT, Int.reduceLE, Int.reduceGT, Int.reduceGE, Int.reduceEq, Int.reduceAdd, Int.reduceSub, Int.reduceMul, reduceCtorEq, lemH.down, la, lb, Nat.add_zero, e8, t8, e9, e10, lN10, gd10, e11, e12, lN12, gd12, e13, e14, lN14, gd14, xo, e15, t15, l15])))
    have ld : ∀ {g : Heap}, Grows h7 g → (∀ sp, g.load ⟨h2.next, 1, sp⟩ = some (.string (strOf tg))) ∧ (∀ sp, g.loadN ⟨h2.next, 0, sp⟩ 2 = some [.int .i64 (k : Int), .string (strOf tg)]) ∧ (∀ sp, g.loadN ⟨h3.next, 0, sp⟩ 2 = some [.int .i64 ((k ^^^ 1 : Nat) : Int), .string (strOf tg)]) := fun gg => ⟨fun sp => (w3.grow gg).load, fun sp => (w3.grow gg).loadAll rfl, fun sp => (w5.grow gg).loadAll rfl⟩
    obtain ⟨p8, q8, u8⟩ := ld g8
    have G9 := g8.trans g9
    obtain ⟨p9, q9, u9⟩ := ld G9
    have G10 := G9.trans g10
    obtain ⟨p10, q10, u10⟩ := ld G10
    have G11 := G10.trans g11
    obtain ⟨p11, q11, u11⟩ := ld G11
    have G12 := G11.trans g12
    obtain ⟨p12, q12, u12⟩ := ld G12
    have G13 := G12.trans g13
    obtain ⟨p13, q13, u13⟩ := ld G13
    have G14 := G13.trans g14
    obtain ⟨p14, q14, u14⟩ := ld G14
    refine ⟨?_, ?_, ⟨?_, ?_⟩, ⟨?_, ?_⟩, ⟨?_, ?_⟩, ⟨?_, ?_, ?_, ?_, ?_⟩, ?_⟩
    · (refine checkAt_eqG rfl rfl rfl ?_ ?_ <;> simp only [yq11.down, cintV_i, lemS.down, lemC.down, Int.reduceBEq, Nat.reduceAdd, Nat.reduceLeDiff, reduceIte, Nat.reduceEqDiff, Int.reduceLT, Int.reduceLE, Int.reduceGT, Int.reduceGE, Int.reduceEq, Int.reduceAdd, Int.reduceSub, Int.reduceMul, reduceCtorEq, lb, p8, Nat.add_zero, r_load1V, load1V_p, r_loadNV, loadNV_p, aggV_some, Option.isSome_some])
    · (refine checkAt_eqG rfl rfl rfl ?_ ?_ <;> simp only [yq11.down, cintV_i, lemS.down, lemC.down, Int.reduceBEq, Nat.reduceAdd, Nat.reduceLeDiff, reduceIte, Nat.reduceEqDiff, Int.reduceLT, Int.reduceLE, Int.reduceGT, Int.reduceGE, Int.reduceEq, Int.reduceAdd, Int.reduceSub, Int.reduceMul, reduceCtorEq, lb, p8, Nat.add_zero, r_load1V, load1V_p, r_loadNV, loadNV_p, aggV_some, Option.isSome_some])
    · (refine checkAt_eqG rfl rfl rfl ?_ ?_ <;> simp only [yq11.down, cintV_i, lemS.down, lemC.down, Int.reduceBEq, Nat.reduceAdd, Nat.reduceLeDiff, reduceIte, Nat.reduceEqDiff, Int.reduceLT, Int.reduceLE, Int.reduceGT, Int.reduceGE, Int.reduceEq, Int.reduceAdd, Int.reduceSub, Int.reduceMul, reduceCtorEq, lN10, q8, r_load1V, load1V_p, r_loadNV, loadNV_p, aggV_some, Option.isSome_some])
    · (refine checkAt_eqG rfl rfl rfl ?_ ?_ <;> simp only [yq11.down, cintV_i, lemS.down, lemC.down, Int.reduceBEq, Nat.reduceAdd, Nat.reduceLeDiff, reduceIte, Nat.reduceEqDiff, Int.reduceLT, Int.reduceLE, Int.reduceGT, Int.reduceGE, Int.reduceEq, Int.reduceAdd, Int.reduceSub, Int.reduceMul, reduceCtorEq, lN10, q9, r_load1V, load1V_p, r_loadNV, loadNV_p, aggV_some, Option.isSome_some])
    · (refine checkAt_eqG rfl rfl rfl ?_ ?_ <;> simp only [yq11.down, cintV_i, lemS.down, lemC.down, Int.reduceBEq, Nat.reduceAdd, Nat.reduceLeDiff, reduceIte, Nat.reduceEqDiff, Int.reduceLT, Int.reduceLE, Int.reduceGT, Int.reduceGE, Int.reduceEq, Int.reduceAdd, Int.reduceSub, Int.reduceMul, reduceCtorEq, lN12, q10, r_load1V, load1V_p, r_loadNV, loadNV_p, aggV_some, Option.isSome_some])
    · (refine checkAt_eqG rfl rfl rfl ?_ ?_ <;> simp only [yq11.down, cintV_i, lemS.down, lemC.down, Int.reduceBEq, Nat.reduceAdd, Nat.reduceLeDiff, reduceIte, Nat.reduceEqDiff, Int.reduceLT, Int.reduceLE, Int.reduceGT, Int.reduceGE, Int.reduceEq, Int.reduceAdd, Int.reduceSub, Int.reduceMul, reduceCtorEq, lN12, q11, r_load1V, load1V_p, r_loadNV, loadNV_p, aggV_some, Option.isSome_some])
    · (refine checkAt_eqG rfl rfl rfl ?_ ?_ <;> simp only [yq11.down, cintV_i, lemS.down, lemC.down, Int.reduceBEq, Nat.reduceAdd, Nat.reduceLeDiff, reduceIte, Nat.reduceEqDiff, Int.reduceLT, Int.reduceLE, Int.reduceGT, Int.reduceGE, Int.reduceEq, Int.reduceAdd, Int.reduceSub, Int.reduceMul, reduceCtorEq, lN14, u12, r_load1V, load1V_p, r_loadNV, loadNV_p, aggV_some, Option.isSome_some])
    · (refine checkAt_eqG rfl rfl rfl ?_ ?_ <;> simp only [yq11.down, cintV_i, lemS.down, lemC.down, Int.reduceBEq, Nat.reduceAdd, Nat.reduceLeDiff, reduceIte, Nat.reduceEqDiff, Int.reduceLT, Int.reduceLE, Int.reduceGT, Int.reduceGE, Int.reduceEq, Int.reduceAdd, Int.reduceSub, Int.reduceMul, reduceCtorEq, lN14, u13, r_load1V, load1V_p, r_loadNV, loadNV_p, aggV_some, Option.isSome_some])
    · (refine checkAt_eqG rfl rfl rfl ?_ ?_ <;> simp only [yq11.down, cintV_i, lemS.down, lemC.down, Int.reduceBEq, Nat.reduceAdd, Nat.reduceLeDiff, reduceIte, Nat.reduceEqDiff, Int.reduceLT, Int.reduceLE, Int.reduceGT, Int.reduceGE, Int.reduceEq, Int.reduceAdd, Int.reduceSub, Int.reduceMul, reduceCtorEq, l15, p12, Nat.add_zero, r_load1V, load1V_p, r_loadNV, loadNV_p, aggV_some, Option.isSome_some])
    · (refine checkAt_eqG rfl rfl rfl ?_ ?_ <;> simp only [yq11.down, cintV_i, lemS.down, lemC.down, Int.reduceBEq, Nat.reduceAdd, Nat.reduceLeDiff, reduceIte, Nat.reduceEqDiff, Int.reduceLT, Int.reduceLE, Int.reduceGT, Int.reduceGE, Int.reduceEq, Int.reduceAdd, Int.reduceSub, Int.reduceMul, reduceCtorEq, l15, p13, Nat.add_zero, r_load1V, load1V_p, r_loadNV, loadNV_p, aggV_some, Option.isSome_some])
    · (refine checkAt_eqG rfl rfl rfl ?_ ?_ <;> simp only [yq11.down, cintV_i, lemS.down, lemC.down, Int.reduceBEq, Nat.reduceAdd, Nat.reduceLeDiff, reduceIte, Nat.reduceEqDiff, Int.reduceLT, Int.reduceLE, Int.reduceGT, Int.reduceGE, Int.reduceEq, Int.reduceAdd, Int.reduceSub, Int.reduceMul, reduceCtorEq, l15, p14, Nat.add_zero, r_load1V, load1V_p, r_loadNV, loadNV_p, aggV_some, Option.isSome_some])
    · (refine checkAt_eqG rfl rfl rfl ?_ ?_ <;> simp only [yq11.down, cintV_i, lemS.down, lemC.down, Int.reduceBEq, Nat.reduceAdd, Nat.reduceLeDiff, reduceIte, Nat.reduceEqDiff, Int.reduceLT, Int.reduceLE, Int.reduceGT, Int.reduceGE, Int.reduceEq, Int.reduceAdd, Int.reduceSub, Int.reduceMul, reduceCtorEq, l15, p14, Nat.add_zero, r_load1V, load1V_p, r_loadNV, loadNV_p, aggV_some, Option.isSome_some])
    · (refine checkAt_eqG rfl rfl rfl ?_ ?_ <;> simp only [yq11.down, cintV_i, lemS.down, lemC.down, Int.reduceBEq, Nat.reduceAdd, Nat.reduceLeDiff, reduceIte, Nat.reduceEqDiff, Int.reduceLT, Int.reduceLE, Int.reduceGT, Int.reduceGE, Int.reduceEq, Int.reduceAdd, Int.reduceSub, Int.reduceMul, reduceCtorEq, l15, Nat.add_zero, r_load1V, load1V_p, r_loadNV, loadNV_p, aggV_some, Option.isSome_some])
    (repeat (first | refine wpk_seq ?_ | refine wpk_block ?_ | refine wpk_scope ?_ | refine wpk_skip ?_ | refine kont_code ?_ | refine kont_blk ?_ | refine kont_nil ?_ | refine wpk_exit ?_ | refine exit_code ?_ | refine exit_lp ?_ | refine exit_here ?_ | refine exit_there (by decide) ?_ | refine wpk_ret ?_ | ((first | refine wpk_ops ?_ | refine wpk_draw0 ?_ | refine wpk_drawS rfl rfl ?_ | refine wpk_drawC rfl ?_ | refine wpk_condE ?_); simp only [yq11.down, cintV_i, lemS.down, lemC.down, Int.reduceBEq, Nat.reduceAdd, Nat.reduceLeDiff, reduceIte, Nat.reduceEqDiff, Int.reduceLT, Int.reduceLE, Int.reduceGT, Int.reduceGE, Int.reduceEq, Int.reduceAdd, Int.reduceSub, Int.reduceMul, reduceCtorEq, lemH.down])))
    exact ⟨.inr rfl, by simp only [yq11.down, cintV_i, lemS.down, lemC.down, Int.reduceBEq, Nat.reduceAdd, Nat.reduceLeDiff, reduceIte, Nat.reduceEqDiff, Int.reduceLT, Int.reduceLE, Int.reduceGT, Int.reduceGE, Int.reduceEq, Int.reduceAdd, Int.reduceSub, Int.reduceMul, reduceCtorEq], gA.trans gB⟩
end Go.X
end

section
open Go Go.X Go.Proofs Go.RowKit
namespace Go.X
set_option linter.unusedVariables false
theorem headU20 : HeadTab (Tab Try.prog U20) := ⟨⟨rfl, rfl, codeAt Try.func51 cq51, rfl, codeAt Try.func91 cq91, rfl, codeAt Try.func66 cq66, rfl, codeAt Try.func92 cq92, rfl, codeAt Try.func67 cq67, rfl, codeAt Try.func68 cq68, rfl, codeAt Try.func53 cq53, rfl, codeAt Try.func54 cq54, rfl, codeAt Try.func69 cq69, rfl, codeAt Try.func93 cq93, rfl, codeAt Try.func94 cq94, rfl, codeAt Try.func70 cq70, rfl, codeAt Try.func71 cq71, rfl, codeAt Try.func72 cq72, rfl, codeAt Try.func84 cq84, rfl, codeAt Try.func56 cq56, rfl, codeAt Try.func57 cq57, rfl, codeAt Try.func58 cq58⟩, rfl, rfl, rfl, codeAt Try.func124 cq124, rfl, codeAt Try.func111 cq111⟩
theorem certU20 : CertTab (Tab Try.prog U20) := ⟨headU20, rfl, rfl, rfl, rfl, rfl, rfl, rfl, codeAt Try.func27 cq27, rfl, rfl, rfl, codeAt Try.func42 cq42, rfl, codeAt Try.func43 cq43, rfl, codeAt Try.func78 cq78⟩
theorem addU20 : AddTab (Tab Try.prog U20) := ⟨rfl, rfl, codeAt Try.func81 cq81, rfl, codeAt Try.func50 cq50, rfl, rfl, codeAt Try.func48 cq48⟩
theorem lawU20 : Law17 (Tab Try.prog U20) := ⟨certU20, addU20, rfl, rfl⟩
def U21 : List (Nat × Prim) := (44, pureG trueS) :: U20
theorem uk21 : XOK Try.prog (Tab Try.prog U21) := Tab.pure uk20 Try.func44 cq44 fun args v h => by
  obtain ⟨rfl, rfl⟩ := nilary (s := trueS) (fun _ _ => rfl) rfl h
  exact ⟨rfl, rfl, fun g => awake17_ok _ lawU20 g⟩
theorem headU21 : HeadTab (Tab Try.prog U21) := ⟨⟨rfl, rfl, codeAt Try.func51 cq51, rfl, codeAt Try.func91 cq91, rfl, codeAt Try.func66 cq66, rfl, codeAt Try.func92 cq92, rfl, codeAt Try.func67 cq67, rfl, codeAt Try.func68 cq68, rfl, codeAt Try.func53 cq53, rfl, codeAt Try.func54 cq54, rfl, codeAt Try.func69 cq69, rfl, codeAt Try.func93 cq93, rfl, codeAt Try.func94 cq94, rfl, codeAt Try.func70 cq70, rfl, codeAt Try.func71 cq71, rfl, codeAt Try.func72 cq72, rfl, codeAt Try.func84 cq84, rfl, codeAt Try.func56 cq56, rfl, codeAt Try.func57 cq57, rfl, codeAt Try.func58 cq58⟩, rfl, rfl, rfl, codeAt Try.func124 cq124, rfl, codeAt Try.func111 cq111⟩
theorem certU21 : CertTab (Tab Try.prog U21) := ⟨headU21, rfl, rfl, rfl, rfl, rfl, rfl, rfl, codeAt Try.func27 cq27, rfl, rfl, rfl, codeAt Try.func42 cq42, rfl, codeAt Try.func43 cq43, rfl, codeAt Try.func78 cq78⟩
theorem addU21 : AddTab (Tab Try.prog U21) := ⟨rfl, rfl, codeAt Try.func81 cq81, rfl, codeAt Try.func50 cq50, rfl, rfl, codeAt Try.func48 cq48⟩
theorem lawU21 : Law17 (Tab Try.prog U21) := ⟨certU21, addU21, rfl, rfl⟩
theorem wf_u64 {n : Int} (h : (Lit.int .u64 n).wf = true) : 0 ≤ n ∧ n < 18446744073709551616 := by
  simp only [Lit.wf, Bool.and_eq_true, decide_eq_true_eq] at h
  have e1 : IntKind.u64.min = 0 := by decide
  have e2 : IntKind.u64.max = 18446744073709551615 := by decide
  omega
theorem walkCertSigns (i n m : Int) (hn : (Lit.int .u64 n).wf = true) (hm : (Lit.int .u64 m).wf = true) (w : World) : Calls Try.prog 11 #[.int .i64 i, .int .u64 n, .int .u64 m] w fun e w' => e = .returned (.bool true) ∧ Below w.heap.size w w' := by
  have h1 := wf_u64 hn
  have h2 := wf_u64 hm
  have := CertSigns_ok _ lawU21 rfl i n.toNat m.toNat (by omega) (by omega) Heap.empty
  rw [show ((n.toNat : Nat) : Int) = n by omega, show ((m.toNat : Nat) : Int) = m by omega] at this
  exact calls_of_comes uk21 rfl (codeAt Try.func11 cq11) rfl rfl rfl this w
end Go.X
end
