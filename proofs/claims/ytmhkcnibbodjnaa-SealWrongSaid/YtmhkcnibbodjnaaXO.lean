/- The statements of sealing. -/
import Derived.Test.YtmhkcnibbodjnaaXN
set_option linter.unusedSimpArgs false
set_option linter.unusedVariables false
set_option maxHeartbeats 2000000
section
open Go Go.X
namespace Go.X
set_option linter.unusedVariables false
structure SealTab (pr : Prog) : Prop where
  rtagged : pr.prim 28 = some taggedG
  rtag : pr.prim 19 = some (pureG tagS)
  tagged : pr.prim 64 = some taggedG
  new : pr.prim 27 = none
  newC : pr.code 27 = some x_mac_NewRing
  ring : pr.prim 31 = none
  ringC : pr.code 31 = some x_law16_ring
  sl : pr.prim 30 = some sealG
  op : pr.prim 33 = some openG
  num : pr.prim 40 = some (pureG wnumS)
  rb : pr.prim 37 = some (pureG rbytesS)
  rn : pr.prim 35 = some (pureG rnumberS)
  rt : pr.prim 36 = some (pureG rtextS)
  re : pr.prim 38 = some (pureG rendS)
  few : pr.prim 29 = some (pureG fewS)
  key : pr.prim 39 = some (pureG key16S)
  sd : pr.prim 34 = some (pureG sealed16S)
/-- a ring of so many keys is made -/
theorem ring16 {pr : Prog} (T : SealTab pr) (h : Heap) (n : Nat) (hb : n ≤ 16) : ∃ h', cfi pr 31 [.int .i64 (n : Int)] h = some (.pointer (some ⟨h.next, 0, none⟩), h') ∧ ringAt h' ⟨h.next, 0, none⟩ = some (ringKeys seedB n) ∧ Grows h h' := by
  obtain ⟨h', e, r, g⟩ := ring16_run T.tagged T.new T.newC T.ring T.ringC h n hb
  exact ⟨h', e, r.at, g⟩
/-- to seal, with a ring of so many keys -/
theorem seal16 {pr : Prog} (T : SealTab pr) {h : Heap} {a : Addr} {n : Nat} (hr : ringAt h a = some (ringKeys seedB n)) (x y : Int) (s : List UInt8) : cfi pr 30 [.pointer (some a), .int .i64 x, .int .i64 y, .string (strOf s)] h = some (.tuple #[.string (strOf (sealP (ringKeys seedB n) x y s).1), .int .i64 ((sealP (ringKeys seedB n) x y s).2 : Int)], h) := cfi_at T.sl (sealG_at hr (ringKeys_ok _ _))
theorem open16 {pr : Prog} (T : SealTab pr) {h : Heap} {a : Addr} {n : Nat} (hr : ringAt h a = some (ringKeys seedB n)) (y : Int) (s : List UInt8) (hs : s.length + 4000 ≤ roomX) : cfi pr 33 [.pointer (some a), .int .i64 y, .string (strOf s)] h = some (.tuple #[.int .i64 ((openP (ringKeys seedB n) y s).1 : Int), .string (strOf (openP (ringKeys seedB n) y s).2.1), .int .i64 ((openP (ringKeys seedB n) y s).2.2 : Int)], h) := cfi_at T.op (openG_at hr (ringKeys_ok _ _) hs)
theorem msgB_len (a b : Nat) (s t : List UInt8) : (msgB a b s t).length = 6 + s.length + t.length := by
  simp [msgB, numB_len]; omega
theorem awake16_ok (pr : Prog) (T : SealTab pr) (h : Heap) : Comes pr x_law16_awake [] h (.bool true) := by
  apply Comes.of
  unfold x_law16_awake
  dsimp only [initFr]
  have hr64 : roomX = 140737488355328 := rfl
  obtain ⟨h1, e1, r1, g1⟩ := ring16 T h 3 (by decide)
  have e1 : cfi pr 31 [.int .i64 3] h = _ := e1
  have s1 := seal16 T r1 0 2 [120]
  have p1 : sealP (ringKeys seedB 3) 0 2 [120] = (msgB 0 2 [120] (tagB 0 2 [120]), 0) := seal_good (n := 3) (a := 0) (b := 2) (s := [120]) (by decide) (by decide) (by decide) (by decide)
  rw [p1] at s1
  have hl := msgB_len 0 2 [120] (tagB 0 2 [120])
  have ht := tagB_len 0 2 [120]
  obtain ⟨h2, e2, r2, g2⟩ := ring16 T h1 3 (by decide)
  have e2 : cfi pr 31 [.int .i64 3] h1 = _ := e2
  have o2 := open16 T r2 2 (msgB 0 2 [120] (tagB 0 2 [120])) (by rw [hl, ht]; simp; omega)
  have p2 : openP (ringKeys seedB 3) 2 (msgB 0 2 [120] (tagB 0 2 [120])) = (0, [120], 0) := (open_good (n := 3) (a := 0) (b := 2) (s := [120]) (by decide) (by decide) (by decide) ht).trans (if_pos ⟨by decide, rfl⟩)
  rw [p2] at o2
  generalize msgB 0 2 [120] (tagB 0 2 [120]) = m at *
  (repeat (first | refine wpk_seq ?_ | refine wpk_block ?_ | refine wpk_scope ?_ | refine wpk_skip ?_ | refine kont_code ?_ | refine kont_blk ?_ | refine kont_nil ?_ | refine wpk_exit ?_ | refine exit_code ?_ | refine exit_lp ?_ | refine exit_here ?_ | refine exit_there (by decide) ?_ | refine wpk_ret ?_ | ((first | refine wpk_ops ?_ | refine wpk_draw0 ?_ | refine wpk_drawS rfl rfl ?_ | refine wpk_drawC rfl ?_ | refine wpk_condE ?_); simp only [y_law16_awake.down, cintV_i, lemS.down, lemC.down, Int.reduceBEq, Nat.reduceAdd, Nat.reduceLeDiff, reduceIte, Nat.reduceEqDiff, Int.reduceLT, Int.reduceLE, Int.reduceGT, Int.reduceGE, Int.reduceEq, Int.reduceAdd, Int.reduceSub, Int.reduceMul, reduceCtorEq, e1, s1, e2, o2])))
  exact ⟨.inr rfl, by simp only [y_law16_awake.down, cintV_i, lemS.down, lemC.down, Int.reduceBEq, Nat.reduceAdd, Nat.reduceLeDiff, reduceIte, Nat.reduceEqDiff, Int.reduceLT, Int.reduceLE, Int.reduceGT, Int.reduceGE, Int.reduceEq, Int.reduceAdd, Int.reduceSub, Int.reduceMul, reduceCtorEq], (g1.trans g2)⟩
end Go.X
end

section
open Go Go.X Go.Proofs Go.RowKit
namespace Go.X
set_option linter.unusedVariables false
def S15 : List (Nat × Prim) := (32, pureG trueS) :: S14
theorem seal14 : SealTab (Tab Try.prog S14) := ⟨rfl, rfl, rfl, rfl, codeAt Try.func27 c_mac_NewRing, rfl, codeAt Try.func31 c_law16_ring, rfl, rfl, rfl, rfl, rfl, rfl, rfl, rfl, rfl, rfl⟩
theorem sk15 : XOK Try.prog (Tab Try.prog S15) := Tab.pure sk14 Try.func32 c_law16_awake fun args v h => by
  obtain ⟨rfl, rfl⟩ := nilary (s := trueS) (fun _ _ => rfl) rfl h
  exact ⟨rfl, rfl, fun g => awake16_ok _ seal14 g⟩
theorem seal15 : SealTab (Tab Try.prog S15) := ⟨rfl, rfl, rfl, rfl, codeAt Try.func27 c_mac_NewRing, rfl, codeAt Try.func31 c_law16_ring, rfl, rfl, rfl, rfl, rfl, rfl, rfl, rfl, rfl, rfl⟩
end Go.X
end

section
open Go Go.X
namespace Go.X
set_option linter.unusedVariables false
end Go.X
end

section
open Go Go.X
namespace Go.X
set_option linter.unusedVariables false
/-- a number's rest that is not below nought -/
theorem rest_nat (p : Int) (hp : -9223372036854775808 ≤ p ∧ p < 9223372036854775808) (n : Nat) (hn : 0 < n ∧ n < 4294967296) : ∃ a : Nat, a < n ∧ (IntKind.i64.wrap (p.tmod n + n)) = p.tmod n + n ∧ (p.tmod n + n).tmod n = (a : Int) := by
  have h1 : -(n : Int) < p.tmod n ∧ p.tmod n < n := by
    constructor
    · have := Int.lt_tmod_of_pos p (b := n) (by omega); omega
    · exact Int.tmod_lt_of_pos p (by omega)
  refine ⟨(p.tmod n + n).toNat % n, Nat.mod_lt _ hn.1, wrap_i64 (by omega) (by omega), ?_⟩
  rw [Int.tmod_eq_emod_of_nonneg (by omega), Int.natCast_emod, Int.toNat_of_nonneg (by omega)]
set_option maxRecDepth 100000 in
theorem SealWrong_ok (pr : Prog) (T : SealTab pr) (hw : pr.prim 32 = some (pureG trueS)) (p q r : Int) (hp : -9223372036854775808 ≤ p ∧ p < 9223372036854775808) (hq : -9223372036854775808 ≤ q ∧ q < 9223372036854775808) (hr : -9223372036854775808 ≤ r ∧ r < 9223372036854775808) (s : List UInt8) (h : Heap) : Comes pr x_law16_SealWrong [.agg #[.int .i64 p, .int .i64 q], .string (strOf s), .int .i64 r] h (.bool true) := by
  apply Comes.of
  unfold x_law16_SealWrong
  dsimp only [initFr]
  have hr64 : roomX = 140737488355328 := rfl
  have hf := few_len s
  obtain ⟨h0, hh0, v0, g0⟩ : ∃ g, h.new [.int .i64 p, .int .i64 q] = g ∧ Var g h.next [.int .i64 p, .int .i64 q] ∧ Grows h g := ⟨_, rfl, Var.new_self, Grows.new⟩
  have fw := cfi_pure (h := h0) T.few (fewS_at (s := s))
  generalize few s = u at *
  obtain ⟨a, ha, a1, a2⟩ := rest_nat p hp 5 (by decide)
  obtain ⟨b, hb, b1, b2⟩ := rest_nat q hq 16 (by decide)
  have a1 : IntKind.i64.wrap (p.tmod 5 + 5) = p.tmod 5 + 5 := a1
  have b1 : IntKind.i64.wrap (q.tmod 16 + 16) = q.tmod 16 + 16 := b1
  have a2 : (p.tmod 5 + 5).tmod 5 = (a : Int) := a2
  have b2 : (q.tmod 16 + 16).tmod 16 = (b : Int) := b2
  have ra1 := bin_rem (k := .i64) (a := p) (b := 5) (by decide)
  have ra3 := bin_rem (k := .i64) (a := p.tmod 5 + 5) (b := 5) (by decide)
  have rb1 := bin_rem (k := .i64) (a := q) (b := 16) (by decide)
  have rb3 := bin_rem (k := .i64) (a := q.tmod 16 + 16) (b := 16) (by decide)
  rw [a2] at ra3
  rw [b2] at rb3
  obtain ⟨h1, e1, r1, g1⟩ := ring16 T h0 5 (by decide)
  have e1 : cfi pr 31 [.int .i64 5] h0 = _ := e1
  have s1 := seal16 T r1 (a : Int) (b : Int) u
  rw [seal_good (n := 5) (a := a) (b := b) (s := u) (by omega) (by omega) (by omega) (by omega)] at s1
  have hl := msgB_len a b u (tagB a b u)
  have ht := tagB_len a b u
  have aw := cfi_pure (h := h1) hw (s := trueS) (args := []) rfl
  generalize msgB a b u (tagB a b u) = m at *
  have hm : 38 ≤ m.length ∧ m.length ≤ 2000 := by omega
  obtain ⟨k, hk, k1, k2⟩ := rest_nat r hr m.length (by omega)
  have rk1 := bin_rem (k := .i64) (a := r) (b := (m.length : Int)) (by omega)
  have rk3 := bin_rem (k := .i64) (a := r.tmod m.length + m.length) (b := (m.length : Int)) (by omega)
  rw [k2] at rk3
  have ct := cut_to (s := m) (n := k) (k := .i64) (by omega)
  have ix := idxSV_at (s := m) (k := .i64) (i := k) hk
  have hx : (m.getD k 0).toNat < 256 := (m.getD k 0).toNat_lt
  generalize (m.getD k 0).toNat = c at *
  have xr : binX .xor (uw .u8 c) (.int .u8 64) = some (uw .u8 (c ^^^ 64)) := xor_u8 (y := 64)
  have hv : c ^^^ 64 < 256 := Nat.xor_lt_two_pow (n := 8) hx (by decide)
  generalize c ^^^ 64 = v at *
  have bc := byte_cell hv (h := h1)
  have lt : (m.take k).length = k := by rw [List.length_take]; omega
  have ld : (m.drop (k + 1)).length = m.length - (k + 1) := List.length_drop
  have cat1 := bin_cat (a := m.take k) (b := [UInt8.ofNat v]) (by rw [lt]; simp; omega)
  have w : IntKind.i64.wrap ((k : Int) + 1) = ((k + 1 : Nat) : Int) := by rw [wrap_i64 (by omega) (by omega)]; omega
  have cf := cut_from (s := m) (n := k + 1) (k := .i64) (by omega)
  have cat2 := bin_cat (a := m.take k ++ [UInt8.ofNat v]) (b := m.drop (k + 1)) (by simp only [List.length_append, lt, ld]; simp; omega)
  have yl : (m.take k ++ [UInt8.ofNat v] ++ m.drop (k + 1)).length + 4000 ≤ roomX := by simp only [List.length_append, lt, ld]; simp; omega
  generalize m.take k ++ [UInt8.ofNat v] ++ m.drop (k + 1) = y at *
  obtain ⟨h2, e2, r2, g2⟩ := ring16 T (h1.new [uw .u8 v]) 5 (by decide)
  have e2 : cfi pr 31 [.int .i64 5] (h1.new [uw .u8 v]) = _ := e2
  have o2 : cfi pr 33 [.pointer (some ⟨h1.next + 1, 0, none⟩), .int .i64 (b : Int), .string (strOf y)] h2 = _ := open16 T r2 (b : Int) y yl
  have gN : Grows h h2 := ((g0.trans g1).trans Grows.new).trans g2
  by_cases hz : (openP (ringKeys seedB 5) (b : Int) y).2.2 = 0
  · obtain ⟨b', q1, q2, q3, q4, q5⟩ := open_back hz
    obtain rfl : b = b' := by omega
    have bz : (((openP (ringKeys seedB 5) (b : Int) y).2.2 : Int) == 0) = true := by rw [hz]; rfl
    generalize openP (ringKeys seedB 5) (b : Int) y = z at *
    obtain ⟨z1, z2, z3⟩ := z
    dsimp only at *
    have sd := cfi_pure (h := h2) T.sd (sealed16S_at (a := z1) (b := b) (s := z2) (by omega) (by omega) (by omega))
    have sd : cfi pr 34 [.int .i64 (z1 : Int), .int .i64 (b : Int), .string (strOf z2)] h2 = some (.string (strOf (msgB z1 b z2 (tagB z1 b z2))), h2) := sd
    have hb : (y == msgB z1 b z2 (tagB z1 b z2)) = true := by rw [beq_iff_eq]; exact q5
    (repeat (first | refine wpk_seq ?_ | refine wpk_block ?_ | refine wpk_scope ?_ | refine wpk_skip ?_ | refine kont_code ?_ | refine kont_blk ?_ | refine kont_nil ?_ | refine wpk_exit ?_ | refine exit_code ?_ | refine exit_lp ?_ | refine exit_here ?_ | refine exit_there (by decide) ?_ | refine wpk_ret ?_ | ((first | refine wpk_ops ?_ | refine wpk_draw0 ?_ | refine wpk_drawS rfl rfl ?_ | refine wpk_drawC rfl ?_ | refine wpk_condE ?_); simp only [y_law16_SealWrong.down, cintV_i, lemS.down, lemC.down, Int.reduceBEq, Nat.reduceAdd, Nat.reduceLeDiff, reduceIte, Nat.reduceEqDiff, Int.reduceLT, Int.reduceLE, Int.reduceGT, Int.reduceGE, Int.reduceEq, Int.reduceAdd, Int.reduceSub, Int.reduceMul, reduceCtorEq, lemH.down, cellsOf_agg, hh0, v0.load, iaddrAV_L (n := 2) (i := 0) (by decide), iaddrAV_L (n := 2) (i := 1) (by decide), List.getElem?_cons_zero, List.getElem?_cons_succ, fw, ra1, a1, ra3, rb1, b1, rb3, e1, s1, aw, rk1, k1, rk3, ct, ix, xr, bc, cat1, w, cf, cat2, e2, o2, bz, sd, hb, wantV_none])))
    exact ⟨.inr rfl, by simp only [y_law16_SealWrong.down, cintV_i, lemS.down, lemC.down, Int.reduceBEq, Nat.reduceAdd, Nat.reduceLeDiff, reduceIte, Nat.reduceEqDiff, Int.reduceLT, Int.reduceLE, Int.reduceGT, Int.reduceGE, Int.reduceEq, Int.reduceAdd, Int.reduceSub, Int.reduceMul, reduceCtorEq], gN⟩
  · obtain ⟨q1, q2⟩ := open_none hz
    have bz : (((openP (ringKeys seedB 5) (b : Int) y).2.2 : Int) == 0) = false := by rw [beq_eq_false_iff_ne]; omega
    (repeat (first | refine wpk_seq ?_ | refine wpk_block ?_ | refine wpk_scope ?_ | refine wpk_skip ?_ | refine kont_code ?_ | refine kont_blk ?_ | refine kont_nil ?_ | refine wpk_exit ?_ | refine exit_code ?_ | refine exit_lp ?_ | refine exit_here ?_ | refine exit_there (by decide) ?_ | refine wpk_ret ?_ | ((first | refine wpk_ops ?_ | refine wpk_draw0 ?_ | refine wpk_drawS rfl rfl ?_ | refine wpk_drawC rfl ?_ | refine wpk_condE ?_); simp only [y_law16_SealWrong.down, cintV_i, lemS.down, lemC.down, Int.reduceBEq, Nat.reduceAdd, Nat.reduceLeDiff, reduceIte, Nat.reduceEqDiff, Int.reduceLT, Int.reduceLE, Int.reduceGT, Int.reduceGE, Int.reduceEq, Int.reduceAdd, Int.reduceSub, Int.reduceMul, reduceCtorEq, lemH.down, cellsOf_agg, hh0, v0.load, iaddrAV_L (n := 2) (i := 0) (by decide), iaddrAV_L (n := 2) (i := 1) (by decide), List.getElem?_cons_zero, List.getElem?_cons_succ, fw, ra1, a1, ra3, rb1, b1, rb3, e1, s1, aw, rk1, k1, rk3, ct, ix, xr, bc, cat1, w, cf, cat2, e2, o2, bz, q2, wantV_none])))
    exact ⟨.inr rfl, by simp only [y_law16_SealWrong.down, cintV_i, lemS.down, lemC.down, Int.reduceBEq, Nat.reduceAdd, Nat.reduceLeDiff, reduceIte, Nat.reduceEqDiff, Int.reduceLT, Int.reduceLE, Int.reduceGT, Int.reduceGE, Int.reduceEq, Int.reduceAdd, Int.reduceSub, Int.reduceMul, reduceCtorEq], gN⟩
end Go.X
end

section
open Go Go.X Go.Proofs Go.RowKit
namespace Go.X
set_option linter.unusedVariables false
theorem has_i64 {n : Int} (h : IntKind.i64.has n) : -9223372036854775808 ≤ n ∧ n < 9223372036854775808 := by
  obtain ⟨h1, h2⟩ := h
  have e1 : IntKind.i64.min = -9223372036854775808 := by decide
  have e2 : IntKind.i64.max = 9223372036854775807 := by decide
  omega
theorem wf_i64 {n : Int} (h : (Lit.int .i64 n).wf = true) : -9223372036854775808 ≤ n ∧ n < 9223372036854775808 := by
  apply has_i64
  simp only [Lit.wf, Bool.and_eq_true, decide_eq_true_eq] at h
  exact h
theorem walkSealWrong (p q : Int) (hp : IntKind.i64.has p) (hq : IntKind.i64.has q) (s : ByteArray) (r : Int) (hr : (Lit.int .i64 r).wf = true) (w : World) : Calls Try.prog 10 #[.agg #[.int .i64 p, .int .i64 q], .string s, .int .i64 r] w fun e w' => e = .returned (.bool true) ∧ Below w.heap.size w w' := by
  have := SealWrong_ok _ seal15 rfl p q r (has_i64 hp) (has_i64 hq) (wf_i64 hr) s.data.toList Heap.empty
  rw [strOf_data] at this
  exact calls_of_comes sk15 rfl (codeAt Try.func10 c_law16_SealWrong) rfl rfl rfl this w
end Go.X
end
