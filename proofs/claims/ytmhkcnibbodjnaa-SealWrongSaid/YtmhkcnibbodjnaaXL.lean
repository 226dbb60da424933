/- Sealing and opening. -/
import Derived.Test.YtmhkcnibbodjnaaXJ
import Derived.Test.YtmhkcnibbodjnaaXK
set_option linter.unusedSimpArgs false
set_option linter.unusedVariables false
set_option maxHeartbeats 2000000
section
open Go Go.X
namespace Go.X
set_option linter.unusedVariables false
def saidB (a b : Nat) (s : List UInt8) : List UInt8 := tagged 77 [numB a 1, numB b 1, s]
def saidS : List Value → Option Value
  | [.int .i64 a, .int .i64 b, .string s] => if 0 ≤ a ∧ a < 9223372036854775808 ∧ 0 ≤ b ∧ b < 9223372036854775808 ∧ s.data.toList.length + 3000 ≤ roomX then some (.string (strOf (saidB a.toNat b.toNat s.data.toList))) else none
  | _ => none
theorem saidS_at {a b : Nat} {s : List UInt8} (ha : a < 9223372036854775808) (hb : b < 9223372036854775808) (hs : s.length + 3000 ≤ roomX) : saidS [.int .i64 (a : Int), .int .i64 (b : Int), .string (strOf s)] = some (.string (strOf (saidB a b s))) := by
  simp only [saidS, data_strOf]
  rw [if_pos (by omega)]
  simp
theorem fill3s {z w u : Value} {a b c : ByteArray} : fillV [z, w, u] [(0, 1, .string a), (1, 1, .string b), (2, 1, .string c)] = some [.string a, .string b, .string c] := by simp [fillV, cellsOf_str, putN]
theorem three_strs {h : Heap} {a b c : List UInt8} : strsAt (h.new [.string (strOf a), .string (strOf b), .string (strOf c)]) (.slice (some ⟨h.next, 0, none⟩) 3 3) = some [a, b, c] :=
  (Own.newSlice (h := h) (l := cellsOfStrs [a, b, c]) (n := 3) (esz := 1) (sp := none) rfl (.inl rfl)).strs
theorem said_ok (pr : Prog) (hn : pr.prim 90 = some (pureG wnumS)) (ht : pr.prim 64 = some taggedG) (a b : Nat) (s : List UInt8) (ha : a < 9223372036854775808) (hb : b < 9223372036854775808) (hs : s.length + 3000 ≤ roomX) (h : Heap) :
    Comes pr x_seal_said [.int .i64 (a : Int), .int .i64 (b : Int), .string (strOf s)] h (.string (strOf (saidB a b s))) := by
  apply Comes.of
  unfold x_seal_said
  dsimp only [initFr]
  have ca := uw_cint (k := .u64) (k' := .i64) u64_signed (n := a)
  have cb := uw_cint (k := .u64) (k' := .i64) u64_signed (n := b)
  have na := cfi_pure (h := h) hn (wnumS_at (n := a) (k := 1) (by omega) (by decide))
  have nb := cfi_pure (h := h) hn (wnumS_at (n := b) (k := 1) (by omega) (by decide))
  have na : cfi pr 90 [uw .u64 a, .int .i64 1] h = _ := na
  have nb : cfi pr 90 [uw .u64 b, .int .i64 1] h = _ := nb
  have ts := three_strs (h := h) (a := numB a 1) (b := numB b 1) (c := s)
  have tg := cfi_at ht (taggedG_at (p := 77) ts (by decide) (by simp [partsB, partB, fourB, numB_len]; omega))
  have tg : cfi pr 64 [.int .u8 77, .slice (some ⟨h.next, 0, none⟩) 3 3] (h.new [.string (strOf (numB a 1)), .string (strOf (numB b 1)), .string (strOf s)]) = some (.string (strOf (saidB a b s)), _) := tg
  (repeat (first | refine wpk_seq ?_ | refine wpk_block ?_ | refine wpk_scope ?_ | refine wpk_skip ?_ | refine kont_code ?_ | refine kont_blk ?_ | refine kont_nil ?_ | refine wpk_exit ?_ | refine exit_code ?_ | refine exit_lp ?_ | refine exit_here ?_ | refine exit_there (by decide) ?_ | refine wpk_ret ?_ | ((first | refine wpk_ops ?_ | refine wpk_draw0 ?_ | refine wpk_drawS rfl rfl ?_ | refine wpk_drawC rfl ?_ | refine wpk_condE ?_); simp only [y_seal_said.down, cintV_i, lemS.down, lemC.down, Int.reduceBEq, Nat.reduceAdd, Nat.reduceLeDiff, reduceIte, Nat.reduceEqDiff, Int.reduceLT, Int.reduceLE, Int.reduceGT, Int.reduceGE, Int.reduceEq, Int.reduceAdd, Int.reduceSub, Int.reduceMul, reduceCtorEq, lemH.down, ca, cb, na, nb, fill3s, tg])))
  exact ⟨.inr rfl, by simp only [y_seal_said.down, cintV_i, lemS.down, lemC.down, Int.reduceBEq, Nat.reduceAdd, Nat.reduceLeDiff, reduceIte, Nat.reduceEqDiff, Int.reduceLT, Int.reduceLE, Int.reduceGT, Int.reduceGE, Int.reduceEq, Int.reduceAdd, Int.reduceSub, Int.reduceMul, reduceCtorEq], Grows.new⟩
def sealBad (a b : Int) (s : List UInt8) : Prop := a < 0 ∨ 16 ≤ a ∨ b < 0 ∨ 16 ≤ b ∨ 1048576 < s.length
instance {a b : Int} {s : List UInt8} : Decidable (sealBad a b s) := by unfold sealBad; exact inferInstance
def msgB (a b : Nat) (s tag : List UInt8) : List UInt8 := numB a 1 ++ numB b 1 ++ (numB s.length 4 ++ s) ++ tag
def sealP (l : List (List UInt8)) (a b : Int) (s : List UInt8) : List UInt8 × Nat :=
  if sealBad a b s then ([], 1) else if (tagP l a (saidB a.toNat b.toNat s)).2 ≠ 0 then ([], (tagP l a (saidB a.toNat b.toNat s)).2) else (msgB a.toNat b.toNat s (hashB (tagP l a (saidB a.toNat b.toNat s)).1), 0)
set_option maxHeartbeats 1000000 in
theorem seal_run (pr : Prog) (T : WireTab pr) (hs : pr.prim 65 = some (pureG saidS)) (ht : pr.prim 24 = some ringTagG) (h : Heap) (a : Addr) (l : List (List UInt8)) (hr : ringAt h a = some l) (hk : keysOk l = true) (x y : Int) (s : List UInt8) :
    Comes pr x_seal_Seal [.pointer (some a), .int .i64 x, .int .i64 y, .string (strOf s)] h (.tuple #[.string (strOf (sealP l x y s).1), .int .i64 ((sealP l x y s).2 : Int)]) := by
  apply Comes.of
  unfold x_seal_Seal
  dsimp only [initFr]
  have hr64 : roomX = 140737488355328 := rfl
  unfold sealP
  by_cases hbad : sealBad x y s
  · rw [if_pos hbad]
    unfold sealBad at hbad
    by_cases d1 : x < 0
    · have c1 : decide (x < 0) = true := by simpa using d1
      (repeat (first | refine wpk_seq ?_ | refine wpk_block ?_ | refine wpk_scope ?_ | refine wpk_skip ?_ | refine kont_code ?_ | refine kont_blk ?_ | refine kont_nil ?_ | refine wpk_exit ?_ | refine exit_code ?_ | refine exit_lp ?_ | refine exit_here ?_ | refine exit_there (by decide) ?_ | refine wpk_ret ?_ | ((first | refine wpk_ops ?_ | refine wpk_draw0 ?_ | refine wpk_drawS rfl rfl ?_ | refine wpk_drawC rfl ?_ | refine wpk_condE ?_); simp only [y_seal_Seal.down, cintV_i, lemS.down, lemC.down, Int.reduceBEq, Nat.reduceAdd, Nat.reduceLeDiff, reduceIte, Nat.reduceEqDiff, Int.reduceLT, Int.reduceLE, Int.reduceGT, Int.reduceGE, Int.reduceEq, Int.reduceAdd, Int.reduceSub, Int.reduceMul, reduceCtorEq, c1])))
      exact ⟨.inr rfl, by simp only [y_seal_Seal.down, cintV_i, lemS.down, lemC.down, Int.reduceBEq, Nat.reduceAdd, Nat.reduceLeDiff, reduceIte, Nat.reduceEqDiff, Int.reduceLT, Int.reduceLE, Int.reduceGT, Int.reduceGE, Int.reduceEq, Int.reduceAdd, Int.reduceSub, Int.reduceMul, reduceCtorEq], Grows.refl h⟩
    have c1 : decide (x < 0) = false := by simpa using d1
    by_cases d2 : x ≥ 16
    · have c2 : decide (x ≥ 16) = true := by simpa using d2
      (repeat (first | refine wpk_seq ?_ | refine wpk_block ?_ | refine wpk_scope ?_ | refine wpk_skip ?_ | refine kont_code ?_ | refine kont_blk ?_ | refine kont_nil ?_ | refine wpk_exit ?_ | refine exit_code ?_ | refine exit_lp ?_ | refine exit_here ?_ | refine exit_there (by decide) ?_ | refine wpk_ret ?_ | ((first | refine wpk_ops ?_ | refine wpk_draw0 ?_ | refine wpk_drawS rfl rfl ?_ | refine wpk_drawC rfl ?_ | refine wpk_condE ?_); simp only [y_seal_Seal.down, cintV_i, lemS.down, lemC.down, Int.reduceBEq, Nat.reduceAdd, Nat.reduceLeDiff, reduceIte, Nat.reduceEqDiff, Int.reduceLT, Int.reduceLE, Int.reduceGT, Int.reduceGE, Int.reduceEq, Int.reduceAdd, Int.reduceSub, Int.reduceMul, reduceCtorEq, c1, c2])))
      exact ⟨.inr rfl, by simp only [y_seal_Seal.down, cintV_i, lemS.down, lemC.down, Int.reduceBEq, Nat.reduceAdd, Nat.reduceLeDiff, reduceIte, Nat.reduceEqDiff, Int.reduceLT, Int.reduceLE, Int.reduceGT, Int.reduceGE, Int.reduceEq, Int.reduceAdd, Int.reduceSub, Int.reduceMul, reduceCtorEq], Grows.refl h⟩
    have c2 : decide (x ≥ 16) = false := by simpa using d2
    by_cases d3 : y < 0
    · have c3 : decide (y < 0) = true := by simpa using d3
      (repeat (first | refine wpk_seq ?_ | refine wpk_block ?_ | refine wpk_scope ?_ | refine wpk_skip ?_ | refine kont_code ?_ | refine kont_blk ?_ | refine kont_nil ?_ | refine wpk_exit ?_ | refine exit_code ?_ | refine exit_lp ?_ | refine exit_here ?_ | refine exit_there (by decide) ?_ | refine wpk_ret ?_ | ((first | refine wpk_ops ?_ | refine wpk_draw0 ?_ | refine wpk_drawS rfl rfl ?_ | refine wpk_drawC rfl ?_ | refine wpk_condE ?_); simp only [y_seal_Seal.down, cintV_i, lemS.down, lemC.down, Int.reduceBEq, Nat.reduceAdd, Nat.reduceLeDiff, reduceIte, Nat.reduceEqDiff, Int.reduceLT, Int.reduceLE, Int.reduceGT, Int.reduceGE, Int.reduceEq, Int.reduceAdd, Int.reduceSub, Int.reduceMul, reduceCtorEq, c1, c2, c3])))
      exact ⟨.inr rfl, by simp only [y_seal_Seal.down, cintV_i, lemS.down, lemC.down, Int.reduceBEq, Nat.reduceAdd, Nat.reduceLeDiff, reduceIte, Nat.reduceEqDiff, Int.reduceLT, Int.reduceLE, Int.reduceGT, Int.reduceGE, Int.reduceEq, Int.reduceAdd, Int.reduceSub, Int.reduceMul, reduceCtorEq], Grows.refl h⟩
    have c3 : decide (y < 0) = false := by simpa using d3
    by_cases d4 : y ≥ 16
    · have c4 : decide (y ≥ 16) = true := by simpa using d4
      (repeat (first | refine wpk_seq ?_ | refine wpk_block ?_ | refine wpk_scope ?_ | refine wpk_skip ?_ | refine kont_code ?_ | refine kont_blk ?_ | refine kont_nil ?_ | refine wpk_exit ?_ | refine exit_code ?_ | refine exit_lp ?_ | refine exit_here ?_ | refine exit_there (by decide) ?_ | refine wpk_ret ?_ | ((first | refine wpk_ops ?_ | refine wpk_draw0 ?_ | refine wpk_drawS rfl rfl ?_ | refine wpk_drawC rfl ?_ | refine wpk_condE ?_); simp only [y_seal_Seal.down, cintV_i, lemS.down, lemC.down, Int.reduceBEq, Nat.reduceAdd, Nat.reduceLeDiff, reduceIte, Nat.reduceEqDiff, Int.reduceLT, Int.reduceLE, Int.reduceGT, Int.reduceGE, Int.reduceEq, Int.reduceAdd, Int.reduceSub, Int.reduceMul, reduceCtorEq, c1, c2, c3, c4])))
      exact ⟨.inr rfl, by simp only [y_seal_Seal.down, cintV_i, lemS.down, lemC.down, Int.reduceBEq, Nat.reduceAdd, Nat.reduceLeDiff, reduceIte, Nat.reduceEqDiff, Int.reduceLT, Int.reduceLE, Int.reduceGT, Int.reduceGE, Int.reduceEq, Int.reduceAdd, Int.reduceSub, Int.reduceMul, reduceCtorEq], Grows.refl h⟩
    have c4 : decide (y ≥ 16) = false := by simpa using d4
    have c5 : decide ((s.length : Int) > 1048576) = true := by simp; omega
    (repeat (first | refine wpk_seq ?_ | refine wpk_block ?_ | refine wpk_scope ?_ | refine wpk_skip ?_ | refine kont_code ?_ | refine kont_blk ?_ | refine kont_nil ?_ | refine wpk_exit ?_ | refine exit_code ?_ | refine exit_lp ?_ | refine exit_here ?_ | refine exit_there (by decide) ?_ | refine wpk_ret ?_ | ((first | refine wpk_ops ?_ | refine wpk_draw0 ?_ | refine wpk_drawS rfl rfl ?_ | refine wpk_drawC rfl ?_ | refine wpk_condE ?_); simp only [y_seal_Seal.down, cintV_i, lemS.down, lemC.down, Int.reduceBEq, Nat.reduceAdd, Nat.reduceLeDiff, reduceIte, Nat.reduceEqDiff, Int.reduceLT, Int.reduceLE, Int.reduceGT, Int.reduceGE, Int.reduceEq, Int.reduceAdd, Int.reduceSub, Int.reduceMul, reduceCtorEq, c1, c2, c3, c4, c5])))
    exact ⟨.inr rfl, by simp only [y_seal_Seal.down, cintV_i, lemS.down, lemC.down, Int.reduceBEq, Nat.reduceAdd, Nat.reduceLeDiff, reduceIte, Nat.reduceEqDiff, Int.reduceLT, Int.reduceLE, Int.reduceGT, Int.reduceGE, Int.reduceEq, Int.reduceAdd, Int.reduceSub, Int.reduceMul, reduceCtorEq], Grows.refl h⟩
  · rw [if_neg hbad]
    unfold sealBad at hbad
    have c1 : decide (x < 0) = false := by simp; omega
    have c2 : decide (x ≥ 16) = false := by simp; omega
    have c3 : decide (y < 0) = false := by simp; omega
    have c4 : decide (y ≥ 16) = false := by simp; omega
    have c5 : decide ((s.length : Int) > 1048576) = false := by simp; omega
    obtain ⟨m, rfl⟩ : ∃ m : Nat, x = (m : Int) := ⟨x.toNat, by omega⟩
    obtain ⟨n, rfl⟩ : ∃ n : Nat, y = (n : Int) := ⟨y.toNat, by omega⟩
    simp only [Int.toNat_natCast]
    have sd := cfi_pure (h := h) hs (saidS_at (a := m) (b := n) (s := s) (by omega) (by omega) (by omega))
    have sl : (saidB m n s).length = 32 := tagged_len _ _
    have tg := cfi_at ht (ringTagG_at (i := (m : Int)) (s := saidB m n s) hr hk (by omega))
    generalize tagP l (m : Int) (saidB m n s) = q at *
    by_cases h0 : q.2 = 0
    · have b0 : ((q.2 : Int) == 0) = true := by rw [h0]; rfl
      rw [if_neg (by omega)]
      have ca := uw_cint (k := .u64) (k' := .i64) u64_signed (n := m)
      have cb := uw_cint (k := .u64) (k' := .i64) u64_signed (n := n)
      obtain ⟨h1, e1, w1, g1⟩ := NewWriter_run T h
      obtain ⟨h2, e2, w2, k2⟩ := WNumber_run T w1 m 1 (by omega) (by decide) (by simp; omega)
      have e2 : cfi pr 66 [.pointer (some ⟨h.next, 0, none⟩), uw .u64 m, .int .i64 1] h1 = some (.tuple #[], h2) := e2
      obtain ⟨h3, e3, w3, k3⟩ := WNumber_run T w2 n 1 (by omega) (by decide) (by simp [numB_len]; omega)
      have e3 : cfi pr 66 [.pointer (some ⟨h.next, 0, none⟩), uw .u64 n, .int .i64 1] h2 = some (.tuple #[], h3) := e3
      obtain ⟨h4, e4, w4, k4⟩ := WText_run T w3 s (by simp [numB_len]; omega)
      obtain ⟨h5, e5, w5, k5⟩ := WHash_run T w4 q.1 (by simp [numB_len]; omega)
      have e6 := WAll_run T w5
      (repeat (first | refine wpk_seq ?_ | refine wpk_block ?_ | refine wpk_scope ?_ | refine wpk_skip ?_ | refine kont_code ?_ | refine kont_blk ?_ | refine kont_nil ?_ | refine wpk_exit ?_ | refine exit_code ?_ | refine exit_lp ?_ | refine exit_here ?_ | refine exit_there (by decide) ?_ | refine wpk_ret ?_ | ((first | refine wpk_ops ?_ | refine wpk_draw0 ?_ | refine wpk_drawS rfl rfl ?_ | refine wpk_drawC rfl ?_ | refine wpk_condE ?_); simp only [y_seal_Seal.down, cintV_i, lemS.down, lemC.down, Int.reduceBEq, Nat.reduceAdd, Nat.reduceLeDiff, reduceIte, Nat.reduceEqDiff, Int.reduceLT, Int.reduceLE, Int.reduceGT, Int.reduceGE, Int.reduceEq, Int.reduceAdd, Int.reduceSub, Int.reduceMul, reduceCtorEq, c1, c2, c3, c4, c5, sd, tg, b0, e1, ca, e2, cb, e3, e4, e5, e6])))
      refine ⟨.inr rfl, ?_, ?_⟩
      · simp only [y_seal_Seal.down, cintV_i, lemS.down, lemC.down, Int.reduceBEq, Nat.reduceAdd, Nat.reduceLeDiff, reduceIte, Nat.reduceEqDiff, Int.reduceLT, Int.reduceLE, Int.reduceGT, Int.reduceGE, Int.reduceEq, Int.reduceAdd, Int.reduceSub, Int.reduceMul, reduceCtorEq]
        simp [msgB]
      · exact (((g1.then k2 (fun A hA => by omega)).then k3 (fun A hA => by omega)).then k4 (fun A hA => by omega)).then k5 (fun A hA => by omega)
    · have b0 : ((q.2 : Int) == 0) = false := by rw [beq_eq_false_iff_ne]; omega
      rw [if_pos h0]
      (repeat (first | refine wpk_seq ?_ | refine wpk_block ?_ | refine wpk_scope ?_ | refine wpk_skip ?_ | refine kont_code ?_ | refine kont_blk ?_ | refine kont_nil ?_ | refine wpk_exit ?_ | refine exit_code ?_ | refine exit_lp ?_ | refine exit_here ?_ | refine exit_there (by decide) ?_ | refine wpk_ret ?_ | ((first | refine wpk_ops ?_ | refine wpk_draw0 ?_ | refine wpk_drawS rfl rfl ?_ | refine wpk_drawC rfl ?_ | refine wpk_condE ?_); simp only [y_seal_Seal.down, cintV_i, lemS.down, lemC.down, Int.reduceBEq, Nat.reduceAdd, Nat.reduceLeDiff, reduceIte, Nat.reduceEqDiff, Int.reduceLT, Int.reduceLE, Int.reduceGT, Int.reduceGE, Int.reduceEq, Int.reduceAdd, Int.reduceSub, Int.reduceMul, reduceCtorEq, c1, c2, c3, c4, c5, sd, tg, b0])))
      exact ⟨.inr rfl, by simp only [y_seal_Seal.down, cintV_i, lemS.down, lemC.down, Int.reduceBEq, Nat.reduceAdd, Nat.reduceLeDiff, reduceIte, Nat.reduceEqDiff, Int.reduceLT, Int.reduceLE, Int.reduceGT, Int.reduceGE, Int.reduceEq, Int.reduceAdd, Int.reduceSub, Int.reduceMul, reduceCtorEq], Grows.refl h⟩
end Go.X
end

section
open Go Go.X
namespace Go.X
set_option linter.unusedVariables false
theorem bytesR_le (r : RS) (n : Int) : (bytesR r n).2.length ≤ r.s.length := by
  unfold bytesR
  split
  · simp
  · split
    · simp
    · split
      · simp
      · simp; omega
theorem textR_le (r : RS) (m : Nat) : (textR r m).2.length ≤ r.s.length := by
  unfold textR
  have := bytesR_le (countR r m).1 ((countR r m).2 : Int)
  rw [countR_s] at this
  exact this
theorem ci64 {n : Nat} (hn : n < 9223372036854775808) : cintV .i64 (uw .u64 n) = some (.int .i64 (n : Int)) := by
  rw [← nat_u64 (by omega), cintV_i, wrap_i64 (by omega) (by omega)]
/-- a reader that goes through a sealed message: from, to, text, tag, the end -/
def o1 (s : List UInt8) : RS × Nat := numberR ⟨s, 0, 0⟩ 1
def o2 (s : List UInt8) : RS × Nat := numberR (o1 s).1 1
def o3 (s : List UInt8) : RS × List UInt8 := textR (o2 s).1 1048576
def o4 (s : List UInt8) : RS × List UInt8 := bytesR (o3 s).1 32
def o5 (s : List UInt8) : RS := endR (o4 s).1
def openP (l : List (List UInt8)) (b : Int) (s : List UInt8) : Nat × List UInt8 × Nat :=
  if (o5 s).err ≠ 0 then (0, [], (o5 s).err) else if ((o2 s).2 : Int) ≠ b ∨ 16 ≤ (o1 s).2 then (0, [], 6)
  else if checkP l ((o1 s).2 : Int) (saidB (o1 s).2 (o2 s).2 (o3 s).2) (o4 s).2 then ((o1 s).2, (o3 s).2, 0) else (0, [], 20)
set_option maxHeartbeats 1000000 in
theorem open_run (pr : Prog) (T : WireTab pr) (hs : pr.prim 65 = some (pureG saidS)) (ht : pr.prim 26 = some ringCheckG) (h : Heap) (wf : HWF h) (a : Addr) (l : List (List UInt8)) (hr : ringAt h a = some l) (hk : keysOk l = true) (b : Int) (s : List UInt8) (hl : s.length + 4000 ≤ roomX) :
    Comes pr x_seal_Open [.pointer (some a), .int .i64 b, .string (strOf s)] h (.tuple #[.int .i64 ((openP l b s).1 : Int), .string (strOf (openP l b s).2.1), .int .i64 ((openP l b s).2.2 : Int)]) := by
  apply Comes.of
  unfold x_seal_Open
  dsimp only [initFr]
  have hr64 : roomX = 140737488355328 := rfl
  obtain ⟨h0, e0, r0, g0⟩ := NewReader_run T h s (by omega)
  obtain ⟨h1, e1, r1, k1⟩ := RNumber_run T r0 1 (by decide)
  have e1 : cfi pr 69 [.pointer (some ⟨h.next, 0, none⟩), .int .i64 1] h0 = some (uw .u64 (o1 s).2, h1) := e1
  obtain ⟨h2, e2, r2, k2⟩ := RNumber_run T r1 1 (by decide)
  have e2 : cfi pr 69 [.pointer (some ⟨h.next, 0, none⟩), .int .i64 1] h1 = some (uw .u64 (o2 s).2, h2) := e2
  obtain ⟨h3, e3, r3, k3⟩ := RText_run T r2 1048576 (by decide)
  have e3 : cfi pr 70 [.pointer (some ⟨h.next, 0, none⟩), .int .i64 1048576] h2 = some (.string (strOf (o3 s).2), h3) := e3
  obtain ⟨h4, e4, r4, k4⟩ := RHash_run T r3
  have e4 : cfi pr 71 [.pointer (some ⟨h.next, 0, none⟩)] h3 = some (.string (strOf (o4 s).2), h4) := e4
  obtain ⟨h5, e5, r5, k5⟩ := REnd_run T r4
  have e5 : cfi pr 72 [.pointer (some ⟨h.next, 0, none⟩)] h4 = some (.int .i64 ((o5 s).err : Int), h5) := e5
  have g5 : Grows h h5 := ((((g0.then k1 (fun A hA => by omega)).then k2 (fun A hA => by omega)).then k3 (fun A hA => by omega)).then k4 (fun A hA => by omega)).then k5 (fun A hA => by omega)
  have la : (o1 s).2 < 256 := numberR_lt _ (by decide)
  have lb : (o2 s).2 < 256 := numberR_lt _ (by decide)
  have lx : (o3 s).2.length ≤ s.length := by
    have := textR_le (o2 s).1 1048576
    have e : (o2 s).1.s = s := by unfold o2 o1; rw [numberR_s, numberR_s]
    rw [e] at this
    exact this
  have ca := ci64 (n := (o1 s).2) (by omega)
  have cb := ci64 (n := (o2 s).2) (by omega)
  clear k1 k2 k3 k4 k5 r0 r1 r2 r3 r4 r5 g0
  unfold openP
  generalize (o1 s).2 = x at *
  generalize (o2 s).2 = y at *
  generalize (o3 s).2 = t at *
  generalize (o4 s).2 = tag at *
  generalize (o5 s).err = er at *
  by_cases h0' : er = 0
  · have b0 : ((er : Int) == 0) = true := by rw [h0']; rfl
    rw [if_neg (by omega)]
    by_cases hy : (y : Int) = b
    · have b1 : ((y : Int) == b) = true := by rw [beq_iff_eq]; exact hy
      by_cases hx : 16 ≤ x
      · have d1 : decide ((x : Int) ≥ 16) = true := by simp; omega
        rw [if_pos (.inr hx)]
        (repeat (first | refine wpk_seq ?_ | refine wpk_block ?_ | refine wpk_scope ?_ | refine wpk_skip ?_ | refine kont_code ?_ | refine kont_blk ?_ | refine kont_nil ?_ | refine wpk_exit ?_ | refine exit_code ?_ | refine exit_lp ?_ | refine exit_here ?_ | refine exit_there (by decide) ?_ | refine wpk_ret ?_ | ((first | refine wpk_ops ?_ | refine wpk_draw0 ?_ | refine wpk_drawS rfl rfl ?_ | refine wpk_drawC rfl ?_ | refine wpk_condE ?_); simp only [y_seal_Open.down, cintV_i, lemS.down, lemC.down, Int.reduceBEq, Nat.reduceAdd, Nat.reduceLeDiff, reduceIte, Nat.reduceEqDiff, Int.reduceLT, Int.reduceLE, Int.reduceGT, Int.reduceGE, Int.reduceEq, Int.reduceAdd, Int.reduceSub, Int.reduceMul, reduceCtorEq, lemH.down, e0, e1, ca, e2, cb, e3, e4, e5, b0, b1, d1])))
        exact ⟨.inr rfl, by (simp only [y_seal_Open.down, cintV_i, lemS.down, lemC.down, Int.reduceBEq, Nat.reduceAdd, Nat.reduceLeDiff, reduceIte, Nat.reduceEqDiff, Int.reduceLT, Int.reduceLE, Int.reduceGT, Int.reduceGE, Int.reduceEq, Int.reduceAdd, Int.reduceSub, Int.reduceMul, reduceCtorEq]) <;> rfl, g5⟩
      · have d1 : decide ((x : Int) ≥ 16) = false := by simp; omega
        rw [if_neg (fun h => by rcases h with h | h; exact h hy; exact hx h)]
        subst hy
        have sd := cfi_pure (h := h5) hs (saidS_at (a := x) (b := y) (s := t) (by omega) (by omega) (by omega))
        have sl : (saidB x y t).length = 32 := tagged_len _ _
        have hr5 : ringAt h5 a = some l := by
          obtain ⟨v, hv, hsv⟩ := ringAt_elim hr
          unfold ringAt
          rw [g5.load wf hv]
          dsimp only
          unfold strsAt at hsv ⊢
          split at hsv
          · exact hsv
          · split at hsv
            · rename_i hn0
              rw [if_pos hn0]; exact hsv
            · rename_i hn0
              split at hsv
              · rename_i cs hcs
                rw [if_neg hn0, g5.loadN wf hcs]; exact hsv
              · cases hsv
          · cases hsv
        have ch := cfi_at ht (ringCheckG_at (i := (x : Int)) (s := saidB x y t) (t := tag) hr5 hk (by omega))
        cases hc : checkP l (x : Int) (saidB x y t) tag
        · rw [hc] at ch
          (repeat (first | refine wpk_seq ?_ | refine wpk_block ?_ | refine wpk_scope ?_ | refine wpk_skip ?_ | refine kont_code ?_ | refine kont_blk ?_ | refine kont_nil ?_ | refine wpk_exit ?_ | refine exit_code ?_ | refine exit_lp ?_ | refine exit_here ?_ | refine exit_there (by decide) ?_ | refine wpk_ret ?_ | ((first | refine wpk_ops ?_ | refine wpk_draw0 ?_ | refine wpk_drawS rfl rfl ?_ | refine wpk_drawC rfl ?_ | refine wpk_condE ?_); simp only [y_seal_Open.down, cintV_i, lemS.down, lemC.down, Int.reduceBEq, Nat.reduceAdd, Nat.reduceLeDiff, reduceIte, Nat.reduceEqDiff, Int.reduceLT, Int.reduceLE, Int.reduceGT, Int.reduceGE, Int.reduceEq, Int.reduceAdd, Int.reduceSub, Int.reduceMul, reduceCtorEq, lemH.down, e0, e1, ca, e2, cb, e3, e4, e5, b0, d1, sd, ch])))
          exact ⟨.inr rfl, by (simp only [y_seal_Open.down, cintV_i, lemS.down, lemC.down, Int.reduceBEq, Nat.reduceAdd, Nat.reduceLeDiff, reduceIte, Nat.reduceEqDiff, Int.reduceLT, Int.reduceLE, Int.reduceGT, Int.reduceGE, Int.reduceEq, Int.reduceAdd, Int.reduceSub, Int.reduceMul, reduceCtorEq]) <;> rfl, g5⟩
        · rw [hc] at ch
          (repeat (first | refine wpk_seq ?_ | refine wpk_block ?_ | refine wpk_scope ?_ | refine wpk_skip ?_ | refine kont_code ?_ | refine kont_blk ?_ | refine kont_nil ?_ | refine wpk_exit ?_ | refine exit_code ?_ | refine exit_lp ?_ | refine exit_here ?_ | refine exit_there (by decide) ?_ | refine wpk_ret ?_ | ((first | refine wpk_ops ?_ | refine wpk_draw0 ?_ | refine wpk_drawS rfl rfl ?_ | refine wpk_drawC rfl ?_ | refine wpk_condE ?_); simp only [y_seal_Open.down, cintV_i, lemS.down, lemC.down, Int.reduceBEq, Nat.reduceAdd, Nat.reduceLeDiff, reduceIte, Nat.reduceEqDiff, Int.reduceLT, Int.reduceLE, Int.reduceGT, Int.reduceGE, Int.reduceEq, Int.reduceAdd, Int.reduceSub, Int.reduceMul, reduceCtorEq, lemH.down, e0, e1, ca, e2, cb, e3, e4, e5, b0, d1, sd, ch])))
          exact ⟨.inr rfl, by (simp only [y_seal_Open.down, cintV_i, lemS.down, lemC.down, Int.reduceBEq, Nat.reduceAdd, Nat.reduceLeDiff, reduceIte, Nat.reduceEqDiff, Int.reduceLT, Int.reduceLE, Int.reduceGT, Int.reduceGE, Int.reduceEq, Int.reduceAdd, Int.reduceSub, Int.reduceMul, reduceCtorEq]) <;> rfl, g5⟩
    · have b1 : ((y : Int) == b) = false := by rw [beq_eq_false_iff_ne]; exact hy
      rw [if_pos (.inl hy)]
      (repeat (first | refine wpk_seq ?_ | refine wpk_block ?_ | refine wpk_scope ?_ | refine wpk_skip ?_ | refine kont_code ?_ | refine kont_blk ?_ | refine kont_nil ?_ | refine wpk_exit ?_ | refine exit_code ?_ | refine exit_lp ?_ | refine exit_here ?_ | refine exit_there (by decide) ?_ | refine wpk_ret ?_ | ((first | refine wpk_ops ?_ | refine wpk_draw0 ?_ | refine wpk_drawS rfl rfl ?_ | refine wpk_drawC rfl ?_ | refine wpk_condE ?_); simp only [y_seal_Open.down, cintV_i, lemS.down, lemC.down, Int.reduceBEq, Nat.reduceAdd, Nat.reduceLeDiff, reduceIte, Nat.reduceEqDiff, Int.reduceLT, Int.reduceLE, Int.reduceGT, Int.reduceGE, Int.reduceEq, Int.reduceAdd, Int.reduceSub, Int.reduceMul, reduceCtorEq, lemH.down, e0, e1, ca, e2, cb, e3, e4, e5, b0, b1])))
      exact ⟨.inr rfl, by (simp only [y_seal_Open.down, cintV_i, lemS.down, lemC.down, Int.reduceBEq, Nat.reduceAdd, Nat.reduceLeDiff, reduceIte, Nat.reduceEqDiff, Int.reduceLT, Int.reduceLE, Int.reduceGT, Int.reduceGE, Int.reduceEq, Int.reduceAdd, Int.reduceSub, Int.reduceMul, reduceCtorEq]) <;> rfl, g5⟩
  · have b0 : ((er : Int) == 0) = false := by rw [beq_eq_false_iff_ne]; omega
    rw [if_pos h0']
    (repeat (first | refine wpk_seq ?_ | refine wpk_block ?_ | refine wpk_scope ?_ | refine wpk_skip ?_ | refine kont_code ?_ | refine kont_blk ?_ | refine kont_nil ?_ | refine wpk_exit ?_ | refine exit_code ?_ | refine exit_lp ?_ | refine exit_here ?_ | refine exit_there (by decide) ?_ | refine wpk_ret ?_ | ((first | refine wpk_ops ?_ | refine wpk_draw0 ?_ | refine wpk_drawS rfl rfl ?_ | refine wpk_drawC rfl ?_ | refine wpk_condE ?_); simp only [y_seal_Open.down, cintV_i, lemS.down, lemC.down, Int.reduceBEq, Nat.reduceAdd, Nat.reduceLeDiff, reduceIte, Nat.reduceEqDiff, Int.reduceLT, Int.reduceLE, Int.reduceGT, Int.reduceGE, Int.reduceEq, Int.reduceAdd, Int.reduceSub, Int.reduceMul, reduceCtorEq, lemH.down, e0, e1, ca, e2, cb, e3, e4, e5, b0])))
    exact ⟨.inr rfl, by (simp only [y_seal_Open.down, cintV_i, lemS.down, lemC.down, Int.reduceBEq, Nat.reduceAdd, Nat.reduceLeDiff, reduceIte, Nat.reduceEqDiff, Int.reduceLT, Int.reduceLE, Int.reduceGT, Int.reduceGE, Int.reduceEq, Int.reduceAdd, Int.reduceSub, Int.reduceMul, reduceCtorEq]) <;> rfl, g5⟩
end Go.X
end
