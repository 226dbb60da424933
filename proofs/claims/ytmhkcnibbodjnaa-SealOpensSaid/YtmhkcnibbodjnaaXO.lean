/- The statements of sealing. -/
import Derived.Test.YtmhkcnibbodjnaaXN
set_option linter.unusedSimpArgs false
set_option linter.unusedVariables false
set_option maxHeartbeats 2000000
section
open Go Go.X
namespace Go.X
set_option linter.unusedVariables false
structure SealTab (pr : Prog) : Prop where
  rtagged : pr.prim 28 = some taggedG
  rtag : pr.prim 19 = some (pureG tagS)
  tagged : pr.prim 64 = some taggedG
  new : pr.prim 27 = none
  newC : pr.code 27 = some x_mac_NewRing
  ring : pr.prim 31 = none
  ringC : pr.code 31 = some x_law16_ring
  sl : pr.prim 30 = some sealG
  op : pr.prim 33 = some openG
  num : pr.prim 40 = some (pureG wnumS)
  rb : pr.prim 37 = some (pureG rbytesS)
  rn : pr.prim 35 = some (pureG rnumberS)
  rt : pr.prim 36 = some (pureG rtextS)
  re : pr.prim 38 = some (pureG rendS)
  few : pr.prim 29 = some (pureG fewS)
  key : pr.prim 39 = some (pureG key16S)
  sd : pr.prim 34 = some (pureG sealed16S)
/-- a ring of so many keys is made -/
theorem ring16 {pr : Prog} (T : SealTab pr) (h : Heap) (n : Nat) (hb : n ≤ 16) : ∃ h', cfi pr 31 [.int .i64 (n : Int)] h = some (.pointer (some ⟨h.next, 0, none⟩), h') ∧ ringAt h' ⟨h.next, 0, none⟩ = some (ringKeys seedB n) ∧ Grows h h' := by
  obtain ⟨h', e, r, g⟩ := ring16_run T.tagged T.new T.newC T.ring T.ringC h n hb
  exact ⟨h', e, r.at, g⟩
/-- to seal, with a ring of so many keys -/
theorem seal16 {pr : Prog} (T : SealTab pr) {h : Heap} {a : Addr} {n : Nat} (hr : ringAt h a = some (ringKeys seedB n)) (x y : Int) (s : List UInt8) : cfi pr 30 [.pointer (some a), .int .i64 x, .int .i64 y, .string (strOf s)] h = some (.tuple #[.string (strOf (sealP (ringKeys seedB n) x y s).1), .int .i64 ((sealP (ringKeys seedB n) x y s).2 : Int)], h) := cfi_at T.sl (sealG_at hr (ringKeys_ok _ _))
theorem open16 {pr : Prog} (T : SealTab pr) {h : Heap} {a : Addr} {n : Nat} (hr : ringAt h a = some (ringKeys seedB n)) (y : Int) (s : List UInt8) (hs : s.length + 4000 ≤ roomX) : cfi pr 33 [.pointer (some a), .int .i64 y, .string (strOf s)] h = some (.tuple #[.int .i64 ((openP (ringKeys seedB n) y s).1 : Int), .string (strOf (openP (ringKeys seedB n) y s).2.1), .int .i64 ((openP (ringKeys seedB n) y s).2.2 : Int)], h) := cfi_at T.op (openG_at hr (ringKeys_ok _ _) hs)
theorem msgB_len (a b : Nat) (s t : List UInt8) : (msgB a b s t).length = 6 + s.length + t.length := by
  simp [msgB, numB_len]; omega
theorem awake16_ok (pr : Prog) (T : SealTab pr) (h : Heap) : Comes pr x_law16_awake [] h (.bool true) := by
  apply Comes.of
  unfold x_law16_awake
  dsimp only [initFr]
  have hr64 : roomX = 140737488355328 := rfl
  obtain ⟨h1, e1, r1, g1⟩ := ring16 T h 3 (by decide)
  have e1 : cfi pr 31 [.int .i64 3] h = _ := e1
  have s1 := seal16 T r1 0 2 [120]
  have p1 : sealP (ringKeys seedB 3) 0 2 [120] = (msgB 0 2 [120] (tagB 0 2 [120]), 0) := seal_good (n := 3) (a := 0) (b := 2) (s := [120]) (by decide) (by decide) (by decide) (by decide)
  rw [p1] at s1
  have hl := msgB_len 0 2 [120] (tagB 0 2 [120])
  have ht := tagB_len 0 2 [120]
  obtain ⟨h2, e2, r2, g2⟩ := ring16 T h1 3 (by decide)
  have e2 : cfi pr 31 [.int .i64 3] h1 = _ := e2
  have o2 := open16 T r2 2 (msgB 0 2 [120] (tagB 0 2 [120])) (by rw [hl, ht]; simp; omega)
  have p2 : openP (ringKeys seedB 3) 2 (msgB 0 2 [120] (tagB 0 2 [120])) = (0, [120], 0) := (open_good (n := 3) (a := 0) (b := 2) (s := [120]) (by decide) (by decide) (by decide) ht).trans (if_pos ⟨by decide, rfl⟩)
  rw [p2] at o2
  generalize msgB 0 2 [120] (tagB 0 2 [120]) = m at *
  (repeat (first | refine wpk_seq ?_ | refine wpk_block ?_ | refine wpk_scope ?_ | refine wpk_skip ?_ | refine kont_code ?_ | refine kont_blk ?_ | refine kont_nil ?_ | refine wpk_exit ?_ | refine exit_code ?_ | refine exit_lp ?_ | refine exit_here ?_ | refine exit_there (by decide) ?_ | refine wpk_ret ?_ | ((first | refine wpk_ops ?_ | refine wpk_draw0 ?_ | refine wpk_drawS rfl rfl ?_ | refine wpk_drawC rfl ?_ | refine wpk_condE ?_); simp only [y_law16_awake.down, cintV_i, lemS.down, lemC.down, Int.reduceBEq, Nat.reduceAdd, Nat.reduceLeDiff, reduceIte, Nat.reduceEqDiff, Int.reduceLT, Int.reduceLE, Int.reduceGT, Int.reduceGE, Int.reduceEq, Int.reduceAdd, Int.reduceSub, Int.reduceMul, reduceCtorEq, e1, s1, e2, o2])))
  exact ⟨.inr rfl, by simp only [y_law16_awake.down, cintV_i, lemS.down, lemC.down, Int.reduceBEq, Nat.reduceAdd, Nat.reduceLeDiff, reduceIte, Nat.reduceEqDiff, Int.reduceLT, Int.reduceLE, Int.reduceGT, Int.reduceGE, Int.reduceEq, Int.reduceAdd, Int.reduceSub, Int.reduceMul, reduceCtorEq], (g1.trans g2)⟩
end Go.X
end

section
open Go Go.X Go.Proofs Go.RowKit
namespace Go.X
set_option linter.unusedVariables false
def S15 : List (Nat × Prim) := (32, pureG trueS) :: S14
theorem seal14 : SealTab (Tab Try.prog S14) := ⟨rfl, rfl, rfl, rfl, codeAt Try.func27 c_mac_NewRing, rfl, codeAt Try.func31 c_law16_ring, rfl, rfl, rfl, rfl, rfl, rfl, rfl, rfl, rfl, rfl⟩
theorem sk15 : XOK Try.prog (Tab Try.prog S15) := Tab.pure sk14 Try.func32 c_law16_awake fun args v h => by
  obtain ⟨rfl, rfl⟩ := nilary (s := trueS) (fun _ _ => rfl) rfl h
  exact ⟨rfl, rfl, fun g => awake16_ok _ seal14 g⟩
theorem seal15 : SealTab (Tab Try.prog S15) := ⟨rfl, rfl, rfl, rfl, codeAt Try.func27 c_mac_NewRing, rfl, codeAt Try.func31 c_law16_ring, rfl, rfl, rfl, rfl, rfl, rfl, rfl, rfl, rfl, rfl⟩
end Go.X
end

section
open Go Go.X
namespace Go.X
set_option linter.unusedVariables false
theorem o1_ok {u : List UInt8} (hu : u.length ≤ roomX) : (o1 u).1.ok := numberR_ok (r := ⟨u, 0, 0⟩) ⟨Nat.zero_le _, hu⟩ 1
theorem o2_ok {u : List UInt8} (hu : u.length ≤ roomX) : (o2 u).1.ok := numberR_ok (o1_ok hu) 1
theorem textR_ok {r : RS} (hr : r.ok) (m : Nat) : (textR r m).1.ok := by
  have h1 := bytesR_ok (countR_ok hr m) ((countR r m).2 : Int)
  have h2 : (bytesR (countR r m).1 ((countR r m).2 : Int)).1.s = r.s := by rw [bytesR_s, countR_s]
  unfold textR
  dsimp only
  split
  · exact ⟨by show r.pos ≤ _; rw [h2]; exact hr.1, h1.2⟩
  · exact h1
/-- a reader is laid into its variable -/
theorem RS.lay {g : Heap} {A : Nat} {l : List Value} (hv : Var g A l) (hl : l.length = 3) (q : RS) : ∃ g', storeV g 3 (.pointer (some ⟨A, 0, none⟩)) (.agg (rcells q).toArray) = some (.tuple #[], g') ∧ Var g' A (rcells q) ∧ Keeps (fun B => B = A) g g' :=
  ⟨_, hv.storeAll rfl hl (by decide) rfl, hv.wr, Keeps.wr⟩
set_option maxRecDepth 100000 in
theorem SealOpens_ok (pr : Prog) (T : SealTab pr) (hw : pr.prim 32 = some (pureG trueS)) (s : List UInt8) (y : Int) (h : Heap) : Comes pr x_law16_SealOpens [.string (strOf s), .int .i64 y] h (.bool true) := by
  apply Comes.of
  unfold x_law16_SealOpens
  dsimp only [initFr]
  have hr64 : roomX = 140737488355328 := rfl
  have hf := few_len s
  have fw := cfi_pure (h := h) T.few (fewS_at (s := s))
  generalize few s = u at *
  obtain ⟨h1, e1, r1, g1⟩ := ring16 T h 5 (by decide)
  have e1 : cfi pr 31 [.int .i64 5] h = _ := e1
  have op := open16 T r1 y u (by omega)
  have k1 := o1_ok (u := u) (by omega)
  have k2 := o2_ok (u := u) (by omega)
  have k3 : (o3 u).1.ok := textR_ok k2 1048576
  have k4 : (o4 u).1.ok := bytesR_ok k3 32
  have n1 := cfi_pure (h := h1) T.rn (rnumberS_at (r := ⟨u, 0, 0⟩) ⟨Nat.zero_le _, by show u.length ≤ roomX; omega⟩ (k := 1) (by decide))
  have n1 : cfi pr 35 [.agg #[.string (strOf u), .int .i64 0, .int .i64 0], .int .i64 1] h1 = some (.tuple #[.agg (rcells (o1 u).1).toArray, uw .u64 (o1 u).2], h1) := n1
  have fl : fillV [.string (strOf []), .int .i64 0, .int .i64 0] [(0, 1, .string (strOf u))] = some [.string (strOf u), .int .i64 0, .int .i64 0] := rfl
  obtain ⟨g0, hg0, v0, gg⟩ : ∃ g, h1.new [.string (strOf []), .int .i64 0, .int .i64 0] = g ∧ Var g h1.next [.string (strOf []), .int .i64 0, .int .i64 0] ∧ Grows h1 g := ⟨_, rfl, Var.new_self, Grows.new⟩
  obtain ⟨w1, st1, v1, ke1⟩ := RS.lay v0 rfl (o1 u).1
  obtain ⟨w2, st2, v2, ke2⟩ := RS.lay v1 rfl (o2 u).1
  obtain ⟨w3, st3, v3, ke3⟩ := RS.lay v2 rfl (o3 u).1
  obtain ⟨w4, st4, v4, ke4⟩ := RS.lay v3 rfl (o4 u).1
  obtain ⟨w5, st5, v5, ke5⟩ := RS.lay v4 rfl (o5 u)
  have g5 : Grows h w5 := g1.trans (((((gg.then ke1 (fun A hA => by omega)).then ke2 (fun A hA => by omega)).then ke3 (fun A hA => by omega)).then ke4 (fun A hA => by omega)).then ke5 (fun A hA => by omega))
  have l1 : ∀ sp, w1.loadN ⟨h1.next, 0, sp⟩ 3 = some (rcells (o1 u).1) := fun sp => v1.loadAll rfl
  have l2 : ∀ sp, w2.loadN ⟨h1.next, 0, sp⟩ 3 = some (rcells (o2 u).1) := fun sp => v2.loadAll rfl
  have l3 : ∀ sp, w3.loadN ⟨h1.next, 0, sp⟩ 3 = some (rcells (o3 u).1) := fun sp => v3.loadAll rfl
  have l4 : ∀ sp, w4.loadN ⟨h1.next, 0, sp⟩ 3 = some (rcells (o4 u).1) := fun sp => v4.loadAll rfl
  have l5 : ∀ sp, w5.load ⟨h1.next, 2, sp⟩ = some (.int .i64 ((o5 u).err : Int)) := fun sp => v5.load
  have n2 := cfi_pure (h := w1) T.rn (rnumberS_at k1 (k := 1) (by decide))
  have n2 : cfi pr 35 [.agg (rcells (o1 u).1).toArray, .int .i64 1] w1 = some (.tuple #[.agg (rcells (o2 u).1).toArray, uw .u64 (o2 u).2], w1) := n2
  have n3 := cfi_pure (h := w2) T.rt (rtextS_at k2 (m := 1048576) (by decide))
  have n3 : cfi pr 36 [.agg (rcells (o2 u).1).toArray, .int .i64 1048576] w2 = some (.tuple #[.agg (rcells (o3 u).1).toArray, .string (strOf (o3 u).2)], w2) := n3
  have n4 := cfi_pure (h := w3) T.rb (rbytesS_at k3 (n := 32) (by decide))
  have n4 : cfi pr 37 [.agg (rcells (o3 u).1).toArray, .int .i64 32] w3 = some (.tuple #[.agg (rcells (o4 u).1).toArray, .string (strOf (o4 u).2)], w3) := n4
  have n5 := cfi_pure (h := w4) T.re (rendS_at k4)
  have n5 : cfi pr 38 [.agg (rcells (o4 u).1).toArray] w4 = some (.agg (rcells (o5 u)).toArray, w4) := n5
  have aw := cfi_pure (h := w5) hw (s := trueS) (args := []) rfl
  have la : (o1 u).2 < 256 := numberR_lt _ (k := 1) (by decide)
  have lb : (o2 u).2 < 256 := numberR_lt _ (k := 1) (by decide)
  rw [← nat_u64 (n := (o1 u).2) (by omega)] at n1
  rw [← nat_u64 (n := (o2 u).2) (by omega)] at n2
  have wa : IntKind.i64.wrap ((o1 u).2 : Int) = ((o1 u).2 : Int) := wrap_i64 (by omega) (by omega)
  have wb : IntKind.i64.wrap ((o2 u).2 : Int) = ((o2 u).2 : Int) := wrap_i64 (by omega) (by omega)
  have ho : openP (ringKeys seedB 5) y u = if (o5 u).err ≠ 0 then (0, [], (o5 u).err) else if ((o2 u).2 : Int) ≠ y ∨ 16 ≤ (o1 u).2 then (0, [], 6)
    else if checkP (ringKeys seedB 5) ((o1 u).2 : Int) (saidB (o1 u).2 (o2 u).2 (o3 u).2) (o4 u).2 then ((o1 u).2, (o3 u).2, 0) else (0, [], 20) := rfl
  have hback := reopened (s := u)
  have lx : (o3 u).2.length ≤ u.length := by
    have := textR_le (o2 u).1 1048576
    have e : (o2 u).1.s = u := by unfold o2 o1; rw [numberR_s, numberR_s]
    rw [e] at this
    exact this
  generalize rcells (o1 u).1 = c1 at *
  generalize rcells (o2 u).1 = c2 at *
  generalize rcells (o3 u).1 = c3 at *
  generalize rcells (o4 u).1 = c4 at *
  generalize rcells (o5 u) = c5 at *
  generalize (o1 u).2 = a at *
  generalize (o2 u).2 = b at *
  generalize (o3 u).2 = x at *
  generalize (o4 u).2 = tag at *
  generalize (o5 u).err = er at *
  clear v0 v1 v2 v3 v4 v5 ke1 ke2 ke3 ke4 ke5 k1 k2 k3 k4
  by_cases h0 : er = 0
  · have b0 : ((er : Int) == 0) = true := by rw [h0]; rfl
    rw [ho, if_neg (by omega)] at op
    by_cases hy : (b : Int) = y
    · subst hy
      by_cases hx : 16 ≤ a
      · have d1 : decide ((a : Int) > 15) = true := by simp; omega
        rw [if_pos (.inr hx)] at op
        (repeat (first | refine wpk_seq ?_ | refine wpk_block ?_ | refine wpk_scope ?_ | refine wpk_skip ?_ | refine kont_code ?_ | refine kont_blk ?_ | refine kont_nil ?_ | refine wpk_exit ?_ | refine exit_code ?_ | refine exit_lp ?_ | refine exit_here ?_ | refine exit_there (by decide) ?_ | refine wpk_ret ?_ | ((first | refine wpk_ops ?_ | refine wpk_draw0 ?_ | refine wpk_drawS rfl rfl ?_ | refine wpk_drawC rfl ?_ | refine wpk_condE ?_); simp only [y_law16_SealOpens.down, cintV_i, lemS.down, lemC.down, Int.reduceBEq, Nat.reduceAdd, Nat.reduceLeDiff, reduceIte, Nat.reduceEqDiff, Int.reduceLT, Int.reduceLE, Int.reduceGT, Int.reduceGE, Int.reduceEq, Int.reduceAdd, Int.reduceSub, Int.reduceMul, reduceCtorEq, cellsOf_RS, lemH.down, fw, e1, op, n1, fl, hg0, st1, l1, n2, st2, l2, n3, st3, l3, n4, st4, l4, n5, st5, l5, aw, b0, wantV_none, wb, d1])))
        exact ⟨.inr rfl, by simp only [y_law16_SealOpens.down, cintV_i, lemS.down, lemC.down, Int.reduceBEq, Nat.reduceAdd, Nat.reduceLeDiff, reduceIte, Nat.reduceEqDiff, Int.reduceLT, Int.reduceLE, Int.reduceGT, Int.reduceGE, Int.reduceEq, Int.reduceAdd, Int.reduceSub, Int.reduceMul, reduceCtorEq], g5⟩
      · have d1 : decide ((a : Int) > 15) = false := by simp; omega
        rw [if_neg (by omega)] at op
        by_cases h4 : 4 < a
        · have d4 : decide ((a : Int) > 4) = true := by simp; omega
          rw [if_neg (by rw [check_iff]; omega)] at op
          (repeat (first | refine wpk_seq ?_ | refine wpk_block ?_ | refine wpk_scope ?_ | refine wpk_skip ?_ | refine kont_code ?_ | refine kont_blk ?_ | refine kont_nil ?_ | refine wpk_exit ?_ | refine exit_code ?_ | refine exit_lp ?_ | refine exit_here ?_ | refine exit_there (by decide) ?_ | refine wpk_ret ?_ | ((first | refine wpk_ops ?_ | refine wpk_draw0 ?_ | refine wpk_drawS rfl rfl ?_ | refine wpk_drawC rfl ?_ | refine wpk_condE ?_); simp only [y_law16_SealOpens.down, cintV_i, lemS.down, lemC.down, Int.reduceBEq, Nat.reduceAdd, Nat.reduceLeDiff, reduceIte, Nat.reduceEqDiff, Int.reduceLT, Int.reduceLE, Int.reduceGT, Int.reduceGE, Int.reduceEq, Int.reduceAdd, Int.reduceSub, Int.reduceMul, reduceCtorEq, cellsOf_RS, lemH.down, fw, e1, op, n1, fl, hg0, st1, l1, n2, st2, l2, n3, st3, l3, n4, st4, l4, n5, st5, l5, aw, b0, wantV_none, wb, d1, d4])))
          exact ⟨.inr rfl, by simp only [y_law16_SealOpens.down, cintV_i, lemS.down, lemC.down, Int.reduceBEq, Nat.reduceAdd, Nat.reduceLeDiff, reduceIte, Nat.reduceEqDiff, Int.reduceLT, Int.reduceLE, Int.reduceGT, Int.reduceGE, Int.reduceEq, Int.reduceAdd, Int.reduceSub, Int.reduceMul, reduceCtorEq], g5⟩
        · have d4 : decide ((a : Int) > 4) = false := by simp; omega
          have kk := cfi_pure (h := w5) T.key (key16S_at (i := a) (by omega))
          have na := cfi_pure (h := w5) T.num (wnumS_at (n := a) (k := 1) (by omega) (by decide))
          have nb := cfi_pure (h := w5) T.num (wnumS_at (n := b) (k := 1) (by omega) (by decide))
          rw [← nat_u64 (n := a) (by omega)] at na
          rw [← nat_u64 (n := b) (by omega)] at nb
          have na : cfi pr 40 [.int .u64 (a : Int), .int .i64 1] w5 = _ := na
          have nb : cfi pr 40 [.int .u64 (b : Int), .int .i64 1] w5 = _ := nb
          have ts := three_strs (h := w5) (a := numB a 1) (b := numB b 1) (c := x)
          have tg := cfi_at T.rtagged (taggedG_at (p := 77) ts (by decide) (by simp [partsB, partB, fourB, numB_len]; omega))
          have tg : cfi pr 28 [.int .u8 77, .slice (some ⟨w5.next, 0, none⟩) 3 3] (w5.new [.string (strOf (numB a 1)), .string (strOf (numB b 1)), .string (strOf x)]) = some (.string (strOf (saidB a b x)), _) := tg
          have kl : (ringKey seedB a).length = 32 := tagged_len _ _
          have sl : (saidB a b x).length = 32 := tagged_len _ _
          have mm := cfi_pure (h := w5.new [.string (strOf (numB a 1)), .string (strOf (numB b 1)), .string (strOf x)]) T.rtag (tagS_at (k := ringKey seedB a) (s := saidB a b x) (by rw [kl]; omega) (by rw [sl]; omega))
          have mm : cfi pr 19 [.string (strOf (ringKey seedB a)), .string (strOf (saidB a b x))] (w5.new [.string (strOf (numB a 1)), .string (strOf (numB b 1)), .string (strOf x)]) = some (.string (strOf (tagB a b x)), _) := mm
          have hc : checkP (ringKeys seedB 5) (a : Int) (saidB a b x) tag = true ↔ (a < 5 ∧ tagB a b x = tag) := check_iff
          by_cases ht : tagB a b x = tag
          · have bt : (tagB a b x == tag) = true := by rw [beq_iff_eq]; exact ht
            rw [if_pos (hc.2 ⟨by omega, ht⟩)] at op
            have sd := cfi_pure (h := w5.new [.string (strOf (numB a 1)), .string (strOf (numB b 1)), .string (strOf x)]) T.sd (sealed16S_at (a := a) (b := b) (s := x) (by omega) (by omega) (by omega))
            have sd : cfi pr 34 [.int .i64 (a : Int), .int .i64 (b : Int), .string (strOf x)] (w5.new [.string (strOf (numB a 1)), .string (strOf (numB b 1)), .string (strOf x)]) = some (.string (strOf (msgB a b x (tagB a b x))), _) := sd
            have hb : (u == msgB a b x (tagB a b x)) = true := by rw [beq_iff_eq, ht]; exact (hback h0).1
            (repeat (first | refine wpk_seq ?_ | refine wpk_block ?_ | refine wpk_scope ?_ | refine wpk_skip ?_ | refine kont_code ?_ | refine kont_blk ?_ | refine kont_nil ?_ | refine wpk_exit ?_ | refine exit_code ?_ | refine exit_lp ?_ | refine exit_here ?_ | refine exit_there (by decide) ?_ | refine wpk_ret ?_ | ((first | refine wpk_ops ?_ | refine wpk_draw0 ?_ | refine wpk_drawS rfl rfl ?_ | refine wpk_drawC rfl ?_ | refine wpk_condE ?_); simp only [y_law16_SealOpens.down, cintV_i, lemS.down, lemC.down, Int.reduceBEq, Nat.reduceAdd, Nat.reduceLeDiff, reduceIte, Nat.reduceEqDiff, Int.reduceLT, Int.reduceLE, Int.reduceGT, Int.reduceGE, Int.reduceEq, Int.reduceAdd, Int.reduceSub, Int.reduceMul, reduceCtorEq, cellsOf_RS, lemH.down, fw, e1, op, n1, fl, hg0, st1, l1, n2, st2, l2, n3, st3, l3, n4, st4, l4, n5, st5, l5, aw, b0, wantV_none, wa, wb, d1, d4, kk, na, nb, fill3s, tg, mm, bt, sd, hb])))
            exact ⟨.inr rfl, by simp only [y_law16_SealOpens.down, cintV_i, lemS.down, lemC.down, Int.reduceBEq, Nat.reduceAdd, Nat.reduceLeDiff, reduceIte, Nat.reduceEqDiff, Int.reduceLT, Int.reduceLE, Int.reduceGT, Int.reduceGE, Int.reduceEq, Int.reduceAdd, Int.reduceSub, Int.reduceMul, reduceCtorEq], g5.trans Grows.new⟩
          · have bt : (tagB a b x == tag) = false := by rw [beq_eq_false_iff_ne]; exact ht
            rw [if_neg (by rw [hc]; exact fun h => ht h.2)] at op
            (repeat (first | refine wpk_seq ?_ | refine wpk_block ?_ | refine wpk_scope ?_ | refine wpk_skip ?_ | refine kont_code ?_ | refine kont_blk ?_ | refine kont_nil ?_ | refine wpk_exit ?_ | refine exit_code ?_ | refine exit_lp ?_ | refine exit_here ?_ | refine exit_there (by decide) ?_ | refine wpk_ret ?_ | ((first | refine wpk_ops ?_ | refine wpk_draw0 ?_ | refine wpk_drawS rfl rfl ?_ | refine wpk_drawC rfl ?_ | refine wpk_condE ?_); simp only [y_law16_SealOpens.down, cintV_i, lemS.down, lemC.down, Int.reduceBEq, Nat.reduceAdd, Nat.reduceLeDiff, reduceIte, Nat.reduceEqDiff, Int.reduceLT, Int.reduceLE, Int.reduceGT, Int.reduceGE, Int.reduceEq, Int.reduceAdd, Int.reduceSub, Int.reduceMul, reduceCtorEq, cellsOf_RS, lemH.down, fw, e1, op, n1, fl, hg0, st1, l1, n2, st2, l2, n3, st3, l3, n4, st4, l4, n5, st5, l5, aw, b0, wantV_none, wa, wb, d1, d4, kk, na, nb, fill3s, tg, mm, bt])))
            exact ⟨.inr rfl, by simp only [y_law16_SealOpens.down, cintV_i, lemS.down, lemC.down, Int.reduceBEq, Nat.reduceAdd, Nat.reduceLeDiff, reduceIte, Nat.reduceEqDiff, Int.reduceLT, Int.reduceLE, Int.reduceGT, Int.reduceGE, Int.reduceEq, Int.reduceAdd, Int.reduceSub, Int.reduceMul, reduceCtorEq], g5.trans Grows.new⟩
    · have b1 : ((b : Int) == y) = false := by rw [beq_eq_false_iff_ne]; exact hy
      rw [if_pos (.inl hy)] at op
      (repeat (first | refine wpk_seq ?_ | refine wpk_block ?_ | refine wpk_scope ?_ | refine wpk_skip ?_ | refine kont_code ?_ | refine kont_blk ?_ | refine kont_nil ?_ | refine wpk_exit ?_ | refine exit_code ?_ | refine exit_lp ?_ | refine exit_here ?_ | refine exit_there (by decide) ?_ | refine wpk_ret ?_ | ((first | refine wpk_ops ?_ | refine wpk_draw0 ?_ | refine wpk_drawS rfl rfl ?_ | refine wpk_drawC rfl ?_ | refine wpk_condE ?_); simp only [y_law16_SealOpens.down, cintV_i, lemS.down, lemC.down, Int.reduceBEq, Nat.reduceAdd, Nat.reduceLeDiff, reduceIte, Nat.reduceEqDiff, Int.reduceLT, Int.reduceLE, Int.reduceGT, Int.reduceGE, Int.reduceEq, Int.reduceAdd, Int.reduceSub, Int.reduceMul, reduceCtorEq, cellsOf_RS, lemH.down, fw, e1, op, n1, fl, hg0, st1, l1, n2, st2, l2, n3, st3, l3, n4, st4, l4, n5, st5, l5, aw, b0, wantV_none, wb, b1])))
      exact ⟨.inr rfl, by simp only [y_law16_SealOpens.down, cintV_i, lemS.down, lemC.down, Int.reduceBEq, Nat.reduceAdd, Nat.reduceLeDiff, reduceIte, Nat.reduceEqDiff, Int.reduceLT, Int.reduceLE, Int.reduceGT, Int.reduceGE, Int.reduceEq, Int.reduceAdd, Int.reduceSub, Int.reduceMul, reduceCtorEq], g5⟩
  · have b0 : ((er : Int) == 0) = false := by rw [beq_eq_false_iff_ne]; omega
    rw [ho, if_pos h0] at op
    (repeat (first | refine wpk_seq ?_ | refine wpk_block ?_ | refine wpk_scope ?_ | refine wpk_skip ?_ | refine kont_code ?_ | refine kont_blk ?_ | refine kont_nil ?_ | refine wpk_exit ?_ | refine exit_code ?_ | refine exit_lp ?_ | refine exit_here ?_ | refine exit_there (by decide) ?_ | refine wpk_ret ?_ | ((first | refine wpk_ops ?_ | refine wpk_draw0 ?_ | refine wpk_drawS rfl rfl ?_ | refine wpk_drawC rfl ?_ | refine wpk_condE ?_); simp only [y_law16_SealOpens.down, cintV_i, lemS.down, lemC.down, Int.reduceBEq, Nat.reduceAdd, Nat.reduceLeDiff, reduceIte, Nat.reduceEqDiff, Int.reduceLT, Int.reduceLE, Int.reduceGT, Int.reduceGE, Int.reduceEq, Int.reduceAdd, Int.reduceSub, Int.reduceMul, reduceCtorEq, cellsOf_RS, lemH.down, fw, e1, op, n1, fl, hg0, st1, l1, n2, st2, l2, n3, st3, l3, n4, st4, l4, n5, st5, l5, aw, b0, wantV_none])))
    exact ⟨.inr rfl, by simp only [y_law16_SealOpens.down, cintV_i, lemS.down, lemC.down, Int.reduceBEq, Nat.reduceAdd, Nat.reduceLeDiff, reduceIte, Nat.reduceEqDiff, Int.reduceLT, Int.reduceLE, Int.reduceGT, Int.reduceGE, Int.reduceEq, Int.reduceAdd, Int.reduceSub, Int.reduceMul, reduceCtorEq], g5⟩
end Go.X
end

section
open Go Go.X
namespace Go.X
set_option linter.unusedVariables false
end Go.X
end

section
open Go Go.X Go.Proofs Go.RowKit
namespace Go.X
set_option linter.unusedVariables false
theorem walkSealOpens (s : ByteArray) (y : Int) (w : World) : Calls Try.prog 9 #[.string s, .int .i64 y] w fun e w' => e = .returned (.bool true) ∧ Below w.heap.size w w' := by
  have := SealOpens_ok _ seal15 rfl s.data.toList y Heap.empty
  rw [strOf_data] at this
  exact calls_of_comes sk15 rfl (codeAt Try.func9 c_law16_SealOpens) rfl rfl rfl this w
end Go.X
end
