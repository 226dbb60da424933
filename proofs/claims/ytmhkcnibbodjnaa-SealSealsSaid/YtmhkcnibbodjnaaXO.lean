/- The statements of sealing. -/
import Derived.Test.YtmhkcnibbodjnaaXN
set_option linter.unusedSimpArgs false
set_option linter.unusedVariables false
set_option maxHeartbeats 2000000
section
open Go Go.X
namespace Go.X
set_option linter.unusedVariables false
structure SealTab (pr : Prog) : Prop where
  rtagged : pr.prim 28 = some taggedG
  rtag : pr.prim 19 = some (pureG tagS)
  tagged : pr.prim 64 = some taggedG
  new : pr.prim 27 = none
  newC : pr.code 27 = some x_mac_NewRing
  ring : pr.prim 31 = none
  ringC : pr.code 31 = some x_law16_ring
  sl : pr.prim 30 = some sealG
  op : pr.prim 33 = some openG
  num : pr.prim 40 = some (pureG wnumS)
  rb : pr.prim 37 = some (pureG rbytesS)
  rn : pr.prim 35 = some (pureG rnumberS)
  rt : pr.prim 36 = some (pureG rtextS)
  re : pr.prim 38 = some (pureG rendS)
  few : pr.prim 29 = some (pureG fewS)
  key : pr.prim 39 = some (pureG key16S)
  sd : pr.prim 34 = some (pureG sealed16S)
/-- a ring of so many keys is made -/
theorem ring16 {pr : Prog} (T : SealTab pr) (h : Heap) (n : Nat) (hb : n ≤ 16) : ∃ h', cfi pr 31 [.int .i64 (n : Int)] h = some (.pointer (some ⟨h.next, 0, none⟩), h') ∧ ringAt h' ⟨h.next, 0, none⟩ = some (ringKeys seedB n) ∧ Grows h h' := by
  obtain ⟨h', e, r, g⟩ := ring16_run T.tagged T.new T.newC T.ring T.ringC h n hb
  exact ⟨h', e, r.at, g⟩
/-- to seal, with a ring of so many keys -/
theorem seal16 {pr : Prog} (T : SealTab pr) {h : Heap} {a : Addr} {n : Nat} (hr : ringAt h a = some (ringKeys seedB n)) (x y : Int) (s : List UInt8) : cfi pr 30 [.pointer (some a), .int .i64 x, .int .i64 y, .string (strOf s)] h = some (.tuple #[.string (strOf (sealP (ringKeys seedB n) x y s).1), .int .i64 ((sealP (ringKeys seedB n) x y s).2 : Int)], h) := cfi_at T.sl (sealG_at hr (ringKeys_ok _ _))
theorem open16 {pr : Prog} (T : SealTab pr) {h : Heap} {a : Addr} {n : Nat} (hr : ringAt h a = some (ringKeys seedB n)) (y : Int) (s : List UInt8) (hs : s.length + 4000 ≤ roomX) : cfi pr 33 [.pointer (some a), .int .i64 y, .string (strOf s)] h = some (.tuple #[.int .i64 ((openP (ringKeys seedB n) y s).1 : Int), .string (strOf (openP (ringKeys seedB n) y s).2.1), .int .i64 ((openP (ringKeys seedB n) y s).2.2 : Int)], h) := cfi_at T.op (openG_at hr (ringKeys_ok _ _) hs)
theorem msgB_len (a b : Nat) (s t : List UInt8) : (msgB a b s t).length = 6 + s.length + t.length := by
  simp [msgB, numB_len]; omega
theorem awake16_ok (pr : Prog) (T : SealTab pr) (h : Heap) : Comes pr x_law16_awake [] h (.bool true) := by
  apply Comes.of
  unfold x_law16_awake
  dsimp only [initFr]
  have hr64 : roomX = 140737488355328 := rfl
  obtain ⟨h1, e1, r1, g1⟩ := ring16 T h 3 (by decide)
  have e1 : cfi pr 31 [.int .i64 3] h = _ := e1
  have s1 := seal16 T r1 0 2 [120]
  have p1 : sealP (ringKeys seedB 3) 0 2 [120] = (msgB 0 2 [120] (tagB 0 2 [120]), 0) := seal_good (n := 3) (a := 0) (b := 2) (s := [120]) (by decide) (by decide) (by decide) (by decide)
  rw [p1] at s1
  have hl := msgB_len 0 2 [120] (tagB 0 2 [120])
  have ht := tagB_len 0 2 [120]
  obtain ⟨h2, e2, r2, g2⟩ := ring16 T h1 3 (by decide)
  have e2 : cfi pr 31 [.int .i64 3] h1 = _ := e2
  have o2 := open16 T r2 2 (msgB 0 2 [120] (tagB 0 2 [120])) (by rw [hl, ht]; simp; omega)
  have p2 : openP (ringKeys seedB 3) 2 (msgB 0 2 [120] (tagB 0 2 [120])) = (0, [120], 0) := (open_good (n := 3) (a := 0) (b := 2) (s := [120]) (by decide) (by decide) (by decide) ht).trans (if_pos ⟨by decide, rfl⟩)
  rw [p2] at o2
  generalize msgB 0 2 [120] (tagB 0 2 [120]) = m at *
  (repeat (first | refine wpk_seq ?_ | refine wpk_block ?_ | refine wpk_scope ?_ | refine wpk_skip ?_ | refine kont_code ?_ | refine kont_blk ?_ | refine kont_nil ?_ | refine wpk_exit ?_ | refine exit_code ?_ | refine exit_lp ?_ | refine exit_here ?_ | refine exit_there (by decide) ?_ | refine wpk_ret ?_ | ((first | refine wpk_ops ?_ | refine wpk_draw0 ?_ | refine wpk_drawS rfl rfl ?_ | refine wpk_drawC rfl ?_ | refine wpk_condE ?_); simp only [y_law16_awake.down, cintV_i, lemS.down, lemC.down, Int.reduceBEq, Nat.reduceAdd, Nat.reduceLeDiff, reduceIte, Nat.reduceEqDiff, Int.reduceLT, Int.reduceLE, Int.reduceGT, Int.reduceGE, Int.reduceEq, Int.reduceAdd, Int.reduceSub, Int.reduceMul, reduceCtorEq, e1, s1, e2, o2])))
  exact ⟨.inr rfl, by simp only [y_law16_awake.down, cintV_i, lemS.down, lemC.down, Int.reduceBEq, Nat.reduceAdd, Nat.reduceLeDiff, reduceIte, Nat.reduceEqDiff, Int.reduceLT, Int.reduceLE, Int.reduceGT, Int.reduceGE, Int.reduceEq, Int.reduceAdd, Int.reduceSub, Int.reduceMul, reduceCtorEq], (g1.trans g2)⟩
set_option maxRecDepth 100000 in
set_option maxHeartbeats 2000000 in
theorem seals_tail {pr : Prog} {a b : Nat} {s m w : List UInt8} {z e : Int} {t : Fr} {g h : Heap} (sd : cfi pr 34 [.int .i64 (a : Int), .int .i64 (b : Int), .string (strOf s)] g = some (.string (strOf m), g)) (hzw : z = (b : Int) ∨ (w = [] ∧ e = 6)) (gg : Grows h g)
    (t0 : t.get 0 = .int .i64 (a : Int)) (t1 : t.get 1 = .int .i64 (b : Int)) (t7 : t.get 7 = .int .i64 z) (t8 : t.get 8 = .string (strOf s)) (t9 : t.get 9 = .string (strOf m)) (t10 : t.get 10 = .int .i64 0) (t11 : t.get 11 = .int .i64 (a : Int)) (t12 : t.get 12 = .string (strOf s)) (t13 : t.get 13 = .int .i64 0) (t15 : t.get 15 = .string (strOf w)) (t16 : t.get 16 = .int .i64 e) (t18 : t.get 18 = .string (strOf [])) (t19 : t.get 19 = .int .i64 20) :
    wpk pr (XC.ops x_law16_SealSeals_13) [KI.code XC.ret] (fun e t h' => (e = XE.normal ∨ e = XE.ret) ∧ t.get 6 = Value.bool true ∧ Grows h h') t g := by
  by_cases hzb : z = (b : Int)
  · subst hzb
    (repeat (first | refine wpk_seq ?_ | refine wpk_block ?_ | refine wpk_scope ?_ | refine wpk_skip ?_ | refine kont_code ?_ | refine kont_blk ?_ | refine kont_nil ?_ | refine wpk_exit ?_ | refine exit_code ?_ | refine exit_lp ?_ | refine exit_here ?_ | refine exit_there (by decide) ?_ | refine wpk_ret ?_ | ((first | refine wpk_ops ?_ | refine wpk_draw0 ?_ | refine wpk_drawC rfl ?_ | refine wpk_condE ?_); simp (maxSteps := 5000000) only [y_law16_SealSeals.down, cintV_i, lemS.down, lemC.down, Int.reduceBEq, Nat.reduceAdd, Nat.reduceLeDiff, reduceIte, Nat.reduceEqDiff, Int.reduceLT, Int.reduceLE, Int.reduceGT, Int.reduceGE, Int.reduceEq, Int.reduceAdd, Int.reduceSub, Int.reduceMul, reduceCtorEq, t0, t1, t7, t8, t9, t10, t11, t12, t13, t15, t16, t18, t19, sd, wantV_none])))
    exact ⟨.inr rfl, by simp only [y_law16_SealSeals.down, cintV_i, lemS.down, lemC.down, Int.reduceBEq, Nat.reduceAdd, Nat.reduceLeDiff, reduceIte, Nat.reduceEqDiff, Int.reduceLT, Int.reduceLE, Int.reduceGT, Int.reduceGE, Int.reduceEq, Int.reduceAdd, Int.reduceSub, Int.reduceMul, reduceCtorEq], gg⟩
  · have dz : (z == (b : Int)) = false := by rw [beq_eq_false_iff_ne]; exact hzb
    obtain ⟨rfl, rfl⟩ : w = [] ∧ e = 6 := by
      rcases hzw with h | h
      · exact absurd h hzb
      · exact h
    (repeat (first | refine wpk_seq ?_ | refine wpk_block ?_ | refine wpk_scope ?_ | refine wpk_skip ?_ | refine kont_code ?_ | refine kont_blk ?_ | refine kont_nil ?_ | refine wpk_exit ?_ | refine exit_code ?_ | refine exit_lp ?_ | refine exit_here ?_ | refine exit_there (by decide) ?_ | refine wpk_ret ?_ | ((first | refine wpk_ops ?_ | refine wpk_draw0 ?_ | refine wpk_drawC rfl ?_ | refine wpk_condE ?_); simp (maxSteps := 5000000) only [y_law16_SealSeals.down, cintV_i, lemS.down, lemC.down, Int.reduceBEq, Nat.reduceAdd, Nat.reduceLeDiff, reduceIte, Nat.reduceEqDiff, Int.reduceLT, Int.reduceLE, Int.reduceGT, Int.reduceGE, Int.reduceEq, Int.reduceAdd, Int.reduceSub, Int.reduceMul, reduceCtorEq, t0, t1, t7, t8, t9, t10, t11, t12, t13, t15, t16, t18, t19, sd, dz, wantV_none])))
    exact ⟨.inr rfl, by simp only [y_law16_SealSeals.down, cintV_i, lemS.down, lemC.down, Int.reduceBEq, Nat.reduceAdd, Nat.reduceLeDiff, reduceIte, Nat.reduceEqDiff, Int.reduceLT, Int.reduceLE, Int.reduceGT, Int.reduceGE, Int.reduceEq, Int.reduceAdd, Int.reduceSub, Int.reduceMul, reduceCtorEq], gg⟩
set_option maxRecDepth 100000 in
set_option maxHeartbeats 2000000 in
theorem SealSeals_ok (pr : Prog) (T : SealTab pr) (hw : pr.prim 32 = some (pureG trueS)) (x y : Int) (s : List UInt8) (h : Heap) : Comes pr x_law16_SealSeals [.int .i64 x, .int .i64 y, .string (strOf s)] h (.bool true) := by
  apply Comes.of
  unfold x_law16_SealSeals
  dsimp only [initFr]
  have hr64 : roomX = 140737488355328 := rfl
  have hf := few_len s
  have fw := cfi_pure (h := h) T.few (fewS_at (s := s))
  obtain ⟨h1, e1, r1, g1⟩ := ring16 T h 5 (by decide)
  have e1 : cfi pr 31 [.int .i64 5] h = _ := e1
  have s1 := seal16 T r1 x y (few s)
  have aw := cfi_pure (h := h1) hw (s := trueS) (args := []) rfl
  obtain ⟨z, hz⟩ : ∃ z, binX .xor (.int .i64 y) (.int .i64 1) = some (.int .i64 z) := ⟨_, rfl⟩
  by_cases hb : x < 0 ∨ 15 < x ∨ y < 0 ∨ 15 < y
  · rw [seal_bad (l := ringKeys seedB 5) (a := x) (b := y) (s := few s) (by unfold sealBad; omega)] at s1
    have d : (decide (x < 0) || (decide (x > 15) || (decide (y < 0) || decide (y > 15)))) = true := by simp; omega
    by_cases c1 : x < 0
    · have d1 : decide (x < 0) = true := by simpa using c1
      (repeat (first | refine wpk_seq ?_ | refine wpk_block ?_ | refine wpk_scope ?_ | refine wpk_skip ?_ | refine kont_code ?_ | refine kont_blk ?_ | refine kont_nil ?_ | refine wpk_exit ?_ | refine exit_code ?_ | refine exit_lp ?_ | refine exit_here ?_ | refine exit_there (by decide) ?_ | refine wpk_ret ?_ | ((first | refine wpk_ops ?_ | refine wpk_draw0 ?_ | refine wpk_drawS rfl rfl ?_ | refine wpk_drawC rfl ?_ | refine wpk_condE ?_); simp only [y_law16_SealSeals.down, cintV_i, lemS.down, lemC.down, Int.reduceBEq, Nat.reduceAdd, Nat.reduceLeDiff, reduceIte, Nat.reduceEqDiff, Int.reduceLT, Int.reduceLE, Int.reduceGT, Int.reduceGE, Int.reduceEq, Int.reduceAdd, Int.reduceSub, Int.reduceMul, reduceCtorEq, hz, fw, e1, s1, aw, d1, wantV_none])))
      exact ⟨.inr rfl, by simp only [y_law16_SealSeals.down, cintV_i, lemS.down, lemC.down, Int.reduceBEq, Nat.reduceAdd, Nat.reduceLeDiff, reduceIte, Nat.reduceEqDiff, Int.reduceLT, Int.reduceLE, Int.reduceGT, Int.reduceGE, Int.reduceEq, Int.reduceAdd, Int.reduceSub, Int.reduceMul, reduceCtorEq], g1⟩
    have d1 : decide (x < 0) = false := by simpa using c1
    by_cases c2 : x > 15
    · have d2 : decide (x > 15) = true := by simpa using c2
      (repeat (first | refine wpk_seq ?_ | refine wpk_block ?_ | refine wpk_scope ?_ | refine wpk_skip ?_ | refine kont_code ?_ | refine kont_blk ?_ | refine kont_nil ?_ | refine wpk_exit ?_ | refine exit_code ?_ | refine exit_lp ?_ | refine exit_here ?_ | refine exit_there (by decide) ?_ | refine wpk_ret ?_ | ((first | refine wpk_ops ?_ | refine wpk_draw0 ?_ | refine wpk_drawS rfl rfl ?_ | refine wpk_drawC rfl ?_ | refine wpk_condE ?_); simp only [y_law16_SealSeals.down, cintV_i, lemS.down, lemC.down, Int.reduceBEq, Nat.reduceAdd, Nat.reduceLeDiff, reduceIte, Nat.reduceEqDiff, Int.reduceLT, Int.reduceLE, Int.reduceGT, Int.reduceGE, Int.reduceEq, Int.reduceAdd, Int.reduceSub, Int.reduceMul, reduceCtorEq, hz, fw, e1, s1, aw, d1, d2, wantV_none])))
      exact ⟨.inr rfl, by simp only [y_law16_SealSeals.down, cintV_i, lemS.down, lemC.down, Int.reduceBEq, Nat.reduceAdd, Nat.reduceLeDiff, reduceIte, Nat.reduceEqDiff, Int.reduceLT, Int.reduceLE, Int.reduceGT, Int.reduceGE, Int.reduceEq, Int.reduceAdd, Int.reduceSub, Int.reduceMul, reduceCtorEq], g1⟩
    have d2 : decide (x > 15) = false := by simpa using c2
    by_cases c3 : y < 0
    · have d3 : decide (y < 0) = true := by simpa using c3
      (repeat (first | refine wpk_seq ?_ | refine wpk_block ?_ | refine wpk_scope ?_ | refine wpk_skip ?_ | refine kont_code ?_ | refine kont_blk ?_ | refine kont_nil ?_ | refine wpk_exit ?_ | refine exit_code ?_ | refine exit_lp ?_ | refine exit_here ?_ | refine exit_there (by decide) ?_ | refine wpk_ret ?_ | ((first | refine wpk_ops ?_ | refine wpk_draw0 ?_ | refine wpk_drawS rfl rfl ?_ | refine wpk_drawC rfl ?_ | refine wpk_condE ?_); simp only [y_law16_SealSeals.down, cintV_i, lemS.down, lemC.down, Int.reduceBEq, Nat.reduceAdd, Nat.reduceLeDiff, reduceIte, Nat.reduceEqDiff, Int.reduceLT, Int.reduceLE, Int.reduceGT, Int.reduceGE, Int.reduceEq, Int.reduceAdd, Int.reduceSub, Int.reduceMul, reduceCtorEq, hz, fw, e1, s1, aw, d1, d2, d3, wantV_none])))
      exact ⟨.inr rfl, by simp only [y_law16_SealSeals.down, cintV_i, lemS.down, lemC.down, Int.reduceBEq, Nat.reduceAdd, Nat.reduceLeDiff, reduceIte, Nat.reduceEqDiff, Int.reduceLT, Int.reduceLE, Int.reduceGT, Int.reduceGE, Int.reduceEq, Int.reduceAdd, Int.reduceSub, Int.reduceMul, reduceCtorEq], g1⟩
    have d3 : decide (y < 0) = false := by simpa using c3
    have d4 : decide (y > 15) = true := by simp; omega
    (repeat (first | refine wpk_seq ?_ | refine wpk_block ?_ | refine wpk_scope ?_ | refine wpk_skip ?_ | refine kont_code ?_ | refine kont_blk ?_ | refine kont_nil ?_ | refine wpk_exit ?_ | refine exit_code ?_ | refine exit_lp ?_ | refine exit_here ?_ | refine exit_there (by decide) ?_ | refine wpk_ret ?_ | ((first | refine wpk_ops ?_ | refine wpk_draw0 ?_ | refine wpk_drawS rfl rfl ?_ | refine wpk_drawC rfl ?_ | refine wpk_condE ?_); simp only [y_law16_SealSeals.down, cintV_i, lemS.down, lemC.down, Int.reduceBEq, Nat.reduceAdd, Nat.reduceLeDiff, reduceIte, Nat.reduceEqDiff, Int.reduceLT, Int.reduceLE, Int.reduceGT, Int.reduceGE, Int.reduceEq, Int.reduceAdd, Int.reduceSub, Int.reduceMul, reduceCtorEq, hz, fw, e1, s1, aw, d1, d2, d3, d4, wantV_none])))
    exact ⟨.inr rfl, by simp only [y_law16_SealSeals.down, cintV_i, lemS.down, lemC.down, Int.reduceBEq, Nat.reduceAdd, Nat.reduceLeDiff, reduceIte, Nat.reduceEqDiff, Int.reduceLT, Int.reduceLE, Int.reduceGT, Int.reduceGE, Int.reduceEq, Int.reduceAdd, Int.reduceSub, Int.reduceMul, reduceCtorEq], g1⟩
  · have d1 : decide (x < 0) = false := by simp; omega
    have d2 : decide (x > 15) = false := by simp; omega
    have d3 : decide (y < 0) = false := by simp; omega
    have d4 : decide (y > 15) = false := by simp; omega
    by_cases h5 : x > 4
    · have d5 : decide (x > 4) = true := by simpa using h5
      rw [seal_none (n := 5) (a := x) (b := y) (s := few s) (by unfold sealBad; omega) (by omega)] at s1
      (repeat (first | refine wpk_seq ?_ | refine wpk_block ?_ | refine wpk_scope ?_ | refine wpk_skip ?_ | refine kont_code ?_ | refine kont_blk ?_ | refine kont_nil ?_ | refine wpk_exit ?_ | refine exit_code ?_ | refine exit_lp ?_ | refine exit_here ?_ | refine exit_there (by decide) ?_ | refine wpk_ret ?_ | ((first | refine wpk_ops ?_ | refine wpk_draw0 ?_ | refine wpk_drawS rfl rfl ?_ | refine wpk_drawC rfl ?_ | refine wpk_condE ?_); simp only [y_law16_SealSeals.down, cintV_i, lemS.down, lemC.down, Int.reduceBEq, Nat.reduceAdd, Nat.reduceLeDiff, reduceIte, Nat.reduceEqDiff, Int.reduceLT, Int.reduceLE, Int.reduceGT, Int.reduceGE, Int.reduceEq, Int.reduceAdd, Int.reduceSub, Int.reduceMul, reduceCtorEq, hz, fw, e1, s1, aw, d1, d2, d3, d4, d5, wantV_none])))
      exact ⟨.inr rfl, by simp only [y_law16_SealSeals.down, cintV_i, lemS.down, lemC.down, Int.reduceBEq, Nat.reduceAdd, Nat.reduceLeDiff, reduceIte, Nat.reduceEqDiff, Int.reduceLT, Int.reduceLE, Int.reduceGT, Int.reduceGE, Int.reduceEq, Int.reduceAdd, Int.reduceSub, Int.reduceMul, reduceCtorEq], g1⟩
    · have d5 : decide (x > 4) = false := by simpa using h5
      obtain ⟨a, rfl⟩ : ∃ a : Nat, x = (a : Int) := ⟨x.toNat, by omega⟩
      obtain ⟨b, rfl⟩ : ∃ b : Nat, y = (b : Int) := ⟨y.toNat, by omega⟩
      rw [seal_good (n := 5) (a := a) (b := b) (s := few s) (by omega) (by omega) (by omega) (by omega)] at s1
      have hl := msgB_len a b (few s) (tagB a b (few s))
      have ht := tagB_len a b (few s)
      obtain ⟨h2, e2, r2, g2⟩ := ring16 T h1 5 (by decide)
      have e2 : cfi pr 31 [.int .i64 5] h1 = _ := e2
      have o2 := open16 T r2 (b : Int) (msgB a b (few s) (tagB a b (few s))) (by rw [hl, ht]; omega)
      rw [(open_good (n := 5) (a := a) (b := b) (s := few s) (by omega) (by omega) (by omega) ht).trans (if_pos ⟨by omega, rfl⟩)] at o2
      obtain ⟨h3, e3, r3, g3⟩ := ring16 T h2 5 (by decide)
      have e3 : cfi pr 31 [.int .i64 5] h2 = _ := e3
      have o3 := open16 T r3 z (msgB a b (few s) (tagB a b (few s))) (by rw [hl, ht]; omega)
      obtain ⟨h4, e4, r4, g4⟩ := ring16 T h3 a (by omega)
      have o4 := open16 T r4 (b : Int) (msgB a b (few s) (tagB a b (few s))) (by rw [hl, ht]; omega)
      rw [(open_good (n := a) (a := a) (b := b) (s := few s) (by omega) (by omega) (by omega) ht).trans (if_neg (fun h => by omega))] at o4
      have sd := cfi_pure (h := h4) T.sd (sealed16S_at (a := a) (b := b) (s := few s) (by omega) (by omega) (by omega))
      have sd : cfi pr 34 [.int .i64 (a : Int), .int .i64 (b : Int), .string (strOf (few s))] h4 = some (.string (strOf (msgB a b (few s) (tagB a b (few s)))), h4) := sd
      have hzw : z = (b : Int) ∨ ((openP (ringKeys seedB 5) z (msgB a b (few s) (tagB a b (few s)))).2.1 = [] ∧ ((openP (ringKeys seedB 5) z (msgB a b (few s) (tagB a b (few s)))).2.2 : Int) = 6) := by
        by_cases hzb : z = (b : Int)
        · exact .inl hzb
        · rw [open_other (a := a) (b := b) (c := z) (by omega) (by omega) (by omega) ht hzb]
          exact .inr ⟨rfl, rfl⟩
      generalize openP (ringKeys seedB 5) z (msgB a b (few s) (tagB a b (few s))) = q at *
      generalize msgB a b (few s) (tagB a b (few s)) = m at *
      (repeat (first | refine wpk_seq ?_ | refine wpk_block ?_ | refine wpk_scope ?_ | refine wpk_skip ?_ | refine kont_code ?_ | refine kont_blk ?_ | refine kont_nil ?_ | refine wpk_exit ?_ | refine exit_code ?_ | refine exit_lp ?_ | refine exit_here ?_ | refine exit_there (by decide) ?_ | refine wpk_ret ?_ | ((first | refine wpk_ops ?_ | refine wpk_draw0 ?_ | refine wpk_drawS rfl rfl ?_ | refine wpk_drawC rfl ?_ | refine wpk_condE ?_); simp only [y_law16_SealSeals.down, cintV_i, lemS.down, lemC.down, Int.reduceBEq, Nat.reduceAdd, Nat.reduceLeDiff, reduceIte, Nat.reduceEqDiff, Int.reduceLT, Int.reduceLE, Int.reduceGT, Int.reduceGE, Int.reduceEq, Int.reduceAdd, Int.reduceSub, Int.reduceMul, reduceCtorEq, hz, fw, e1, s1, aw, d1, d2, d3, d4, d5, e2, o2, e3, o3, e4, o4])))
      exact seals_tail sd hzw (((g1.trans g2).trans g3).trans g4) (by simp only [y_law16_SealSeals.down, cintV_i, lemS.down, lemC.down, Int.reduceBEq, Nat.reduceAdd, Nat.reduceLeDiff, reduceIte, Nat.reduceEqDiff, Int.reduceLT, Int.reduceLE, Int.reduceGT, Int.reduceGE, Int.reduceEq, Int.reduceAdd, Int.reduceSub, Int.reduceMul, reduceCtorEq]) (by simp only [y_law16_SealSeals.down, cintV_i, lemS.down, lemC.down, Int.reduceBEq, Nat.reduceAdd, Nat.reduceLeDiff, reduceIte, Nat.reduceEqDiff, Int.reduceLT, Int.reduceLE, Int.reduceGT, Int.reduceGE, Int.reduceEq, Int.reduceAdd, Int.reduceSub, Int.reduceMul, reduceCtorEq]) (by simp only [y_law16_SealSeals.down, cintV_i, lemS.down, lemC.down, Int.reduceBEq, Nat.reduceAdd, Nat.reduceLeDiff, reduceIte, Nat.reduceEqDiff, Int.reduceLT, Int.reduceLE, Int.reduceGT, Int.reduceGE, Int.reduceEq, Int.reduceAdd, Int.reduceSub, Int.reduceMul, reduceCtorEq]) (by simp only [y_law16_SealSeals.down, cintV_i, lemS.down, lemC.down, Int.reduceBEq, Nat.reduceAdd, Nat.reduceLeDiff, reduceIte, Nat.reduceEqDiff, Int.reduceLT, Int.reduceLE, Int.reduceGT, Int.reduceGE, Int.reduceEq, Int.reduceAdd, Int.reduceSub, Int.reduceMul, reduceCtorEq]) (by simp only [y_law16_SealSeals.down, cintV_i, lemS.down, lemC.down, Int.reduceBEq, Nat.reduceAdd, Nat.reduceLeDiff, reduceIte, Nat.reduceEqDiff, Int.reduceLT, Int.reduceLE, Int.reduceGT, Int.reduceGE, Int.reduceEq, Int.reduceAdd, Int.reduceSub, Int.reduceMul, reduceCtorEq]) (by simp only [y_law16_SealSeals.down, cintV_i, lemS.down, lemC.down, Int.reduceBEq, Nat.reduceAdd, Nat.reduceLeDiff, reduceIte, Nat.reduceEqDiff, Int.reduceLT, Int.reduceLE, Int.reduceGT, Int.reduceGE, Int.reduceEq, Int.reduceAdd, Int.reduceSub, Int.reduceMul, reduceCtorEq]) (by simp only [y_law16_SealSeals.down, cintV_i, lemS.down, lemC.down, Int.reduceBEq, Nat.reduceAdd, Nat.reduceLeDiff, reduceIte, Nat.reduceEqDiff, Int.reduceLT, Int.reduceLE, Int.reduceGT, Int.reduceGE, Int.reduceEq, Int.reduceAdd, Int.reduceSub, Int.reduceMul, reduceCtorEq]) (by simp only [y_law16_SealSeals.down, cintV_i, lemS.down, lemC.down, Int.reduceBEq, Nat.reduceAdd, Nat.reduceLeDiff, reduceIte, Nat.reduceEqDiff, Int.reduceLT, Int.reduceLE, Int.reduceGT, Int.reduceGE, Int.reduceEq, Int.reduceAdd, Int.reduceSub, Int.reduceMul, reduceCtorEq]) (by simp only [y_law16_SealSeals.down, cintV_i, lemS.down, lemC.down, Int.reduceBEq, Nat.reduceAdd, Nat.reduceLeDiff, reduceIte, Nat.reduceEqDiff, Int.reduceLT, Int.reduceLE, Int.reduceGT, Int.reduceGE, Int.reduceEq, Int.reduceAdd, Int.reduceSub, Int.reduceMul, reduceCtorEq]) (by simp only [y_law16_SealSeals.down, cintV_i, lemS.down, lemC.down, Int.reduceBEq, Nat.reduceAdd, Nat.reduceLeDiff, reduceIte, Nat.reduceEqDiff, Int.reduceLT, Int.reduceLE, Int.reduceGT, Int.reduceGE, Int.reduceEq, Int.reduceAdd, Int.reduceSub, Int.reduceMul, reduceCtorEq]) (by simp only [y_law16_SealSeals.down, cintV_i, lemS.down, lemC.down, Int.reduceBEq, Nat.reduceAdd, Nat.reduceLeDiff, reduceIte, Nat.reduceEqDiff, Int.reduceLT, Int.reduceLE, Int.reduceGT, Int.reduceGE, Int.reduceEq, Int.reduceAdd, Int.reduceSub, Int.reduceMul, reduceCtorEq]) (by simp only [y_law16_SealSeals.down, cintV_i, lemS.down, lemC.down, Int.reduceBEq, Nat.reduceAdd, Nat.reduceLeDiff, reduceIte, Nat.reduceEqDiff, Int.reduceLT, Int.reduceLE, Int.reduceGT, Int.reduceGE, Int.reduceEq, Int.reduceAdd, Int.reduceSub, Int.reduceMul, reduceCtorEq]) (by simp only [y_law16_SealSeals.down, cintV_i, lemS.down, lemC.down, Int.reduceBEq, Nat.reduceAdd, Nat.reduceLeDiff, reduceIte, Nat.reduceEqDiff, Int.reduceLT, Int.reduceLE, Int.reduceGT, Int.reduceGE, Int.reduceEq, Int.reduceAdd, Int.reduceSub, Int.reduceMul, reduceCtorEq])
end Go.X
end

section
open Go Go.X Go.Proofs Go.RowKit
namespace Go.X
set_option linter.unusedVariables false
def S15 : List (Nat × Prim) := (32, pureG trueS) :: S14
theorem seal14 : SealTab (Tab Try.prog S14) := ⟨rfl, rfl, rfl, rfl, codeAt Try.func27 c_mac_NewRing, rfl, codeAt Try.func31 c_law16_ring, rfl, rfl, rfl, rfl, rfl, rfl, rfl, rfl, rfl, rfl⟩
theorem sk15 : XOK Try.prog (Tab Try.prog S15) := Tab.pure sk14 Try.func32 c_law16_awake fun args v h => by
  obtain ⟨rfl, rfl⟩ := nilary (s := trueS) (fun _ _ => rfl) rfl h
  exact ⟨rfl, rfl, fun g => awake16_ok _ seal14 g⟩
theorem seal15 : SealTab (Tab Try.prog S15) := ⟨rfl, rfl, rfl, rfl, codeAt Try.func27 c_mac_NewRing, rfl, codeAt Try.func31 c_law16_ring, rfl, rfl, rfl, rfl, rfl, rfl, rfl, rfl, rfl, rfl⟩
theorem walkSealSeals (x y : Int) (s : ByteArray) (w : World) : Calls Try.prog 8 #[.int .i64 x, .int .i64 y, .string s] w fun e w' => e = .returned (.bool true) ∧ Below w.heap.size w w' := by
  have := SealSeals_ok _ seal15 rfl x y s.data.toList Heap.empty
  rw [strOf_data] at this
  exact calls_of_comes sk15 rfl (codeAt Try.func8 c_law16_SealSeals) rfl rfl rfl this w
end Go.X
end
