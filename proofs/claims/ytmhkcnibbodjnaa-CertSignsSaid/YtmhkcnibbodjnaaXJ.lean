/- Digests of parts, rings of keys. -/
import Derived.Test.YtmhkcnibbodjnaaXC
import Derived.Test.YtmhkcnibbodjnaaXD
import Derived.Test.YtmhkcnibbodjnaaXH
import Derived.Test.YtmhkcnibbodjnaaXI
set_option linter.unusedSimpArgs false
set_option linter.unusedVariables false
set_option maxHeartbeats 2000000
section
open Go Go.X
namespace Go.X
set_option linter.unusedVariables false
/-- a length's bytes -/
def fourB (n : Nat) : List UInt8 := [UInt8.ofNat (n / 16777216), UInt8.ofNat (n / 65536), UInt8.ofNat (n / 256), UInt8.ofNat n]
def partB (s : List UInt8) : List UInt8 := fourB s.length ++ s
def partsB (l : List (List UInt8)) : List UInt8 := l.flatMap partB
/-- the digest of parts for a purpose -/
def tagged (p : UInt8) (l : List (List UInt8)) : List UInt8 := sha (p :: partsB l)
theorem tagged_len (p : UInt8) (l : List (List UInt8)) : (tagged p l).length = 32 := sha_len _
def cellsOfStrs (l : List (List UInt8)) : List Value := l.map fun s => .string (strOf s)
theorem cellsOfStrs_len {l : List (List UInt8)} : (cellsOfStrs l).length = l.length := by simp [cellsOfStrs]
theorem cellsOfStrs_get {l : List (List UInt8)} {i : Nat} (hi : i < l.length) : (cellsOfStrs l)[i]? = some (.string (strOf (l.getD i []))) := by
  simp [cellsOfStrs, List.getElem?_map, List.getElem?_eq_getElem hi, List.getD_eq_getElem?_getD]
def fourS : List Value → Option Value
  | [.int .i64 n] => if 0 ≤ n ∧ n < 9223372036854775808 then some (.string (strOf (fourB n.toNat))) else none
  | _ => none
theorem fourS_at {n : Nat} (h : n < 9223372036854775808) : fourS [.int .i64 (n : Int)] = some (.string (strOf (fourB n))) := by
  simp only [fourS]
  rw [if_pos (by omega)]
  simp
theorem fourB_cells (n : Nat) : cellsOfBytes (fourB n) = [uw .u8 (n / 16777216), uw .u8 (n / 65536), uw .u8 (n / 256), uw .u8 n] := by
  simp only [← cellsOfBytes_one]
  rfl
theorem fill4' {z : Value} {a b c d : Nat} : fillV (List.replicate 4 z) [(0, 1, uw .u8 a), (1, 1, uw .u8 b), (2, 1, uw .u8 c), (3, 1, uw .u8 d)] = some [uw .u8 a, uw .u8 b, uw .u8 c, uw .u8 d] := by simp [fillV, cellsOf_uw, putN, List.replicate]
theorem shrI {k : IntKind} {n j : Nat} (hj : j ≤ 64) : binX .shr (.int .i64 (n : Int)) (.int k (OfNat.ofNat j)) = some (.int .i64 ((n / 2 ^ j : Nat) : Int)) := by
  have e : (OfNat.ofNat j : Int) = (j : Int) := rfl
  rw [e, bin_shr (by omega), Int.toNat_natCast, Nat.min_eq_left (show j ≤ IntKind.i64.bits from hj), Int.fdiv_eq_ediv_of_nonneg _ (by exact Int.le_of_lt (Int.pow_pos (by omega)))]
  simp
theorem four_ok (pr : Prog) (n : Nat) (hn : n < 9223372036854775808) (h : Heap) : Comes pr xq89 [.int .i64 (n : Int)] h (.string (strOf (fourB n))) := by
  apply Comes.of
  unfold xq89
  dsimp only [initFr]
  have c := fun n => uw_cint (k := .u8) (k' := .i64) u8_signed (n := n)
  have hO := Own.newSlice (h := h) (l := cellsOfBytes (fourB n)) (n := 4) (esz := 1) (sp := none) (by rw [fourB_cells]; rfl) (.inl rfl)
  have s24 := shrI (k := .u64) (n := n) (j := 24) (by decide)
  have s16 := shrI (k := .u64) (n := n) (j := 16) (by decide)
  have s8 := shrI (k := .u64) (n := n) (j := 8) (by decide)
  simp only [Nat.reducePow] at s24 s16 s8
  have hb := hO.cb2s
  rw [fourB_cells] at hb
  (repeat (first | refine wpk_seq ?_ | refine wpk_block ?_ | refine wpk_scope ?_ | refine wpk_skip ?_ | refine kont_code ?_ | refine kont_blk ?_ | refine kont_nil ?_ | refine wpk_exit ?_ | refine exit_code ?_ | refine exit_lp ?_ | refine exit_here ?_ | refine exit_there (by decide) ?_ | refine wpk_ret ?_ | ((first | refine wpk_ops ?_ | refine wpk_draw0 ?_ | refine wpk_drawS rfl rfl ?_ | refine wpk_drawC rfl ?_ | refine wpk_condE ?_); simp only [yq89.down, cintV_i, lemS.down, lemC.down, Int.reduceBEq, Nat.reduceAdd, Nat.reduceLeDiff, reduceIte, Nat.reduceEqDiff, Int.reduceLT, Int.reduceLE, Int.reduceGT, Int.reduceGE, Int.reduceEq, Int.reduceAdd, Int.reduceSub, Int.reduceMul, reduceCtorEq, lemH.down, lemW.down, s24, s16, s8, c, fill4', hb])))
  exact ⟨.inr rfl, by simp only [yq89.down, cintV_i, lemS.down, lemC.down, Int.reduceBEq, Nat.reduceAdd, Nat.reduceLeDiff, reduceIte, Nat.reduceEqDiff, Int.reduceLT, Int.reduceLE, Int.reduceGT, Int.reduceGE, Int.reduceEq, Int.reduceAdd, Int.reduceSub, Int.reduceMul, reduceCtorEq], Grows.new⟩
end Go.X
end

section
open Go Go.X
namespace Go.X
set_option linter.unusedVariables false
theorem st_app (b s : List UInt8) : absorb ((b.drop (64 * (b.length / 64)) ++ s).length / 64) (absorb (b.length / 64) Sha.H0 b) (b.drop (64 * (b.length / 64)) ++ s) = absorb ((b ++ s).length / 64) Sha.H0 (b ++ s) ∧
    (b.drop (64 * (b.length / 64)) ++ s).drop (64 * ((b.drop (64 * (b.length / 64)) ++ s).length / 64)) = (b ++ s).drop (64 * ((b ++ s).length / 64)) := by
  have hd : (b ++ s).drop (64 * (b.length / 64)) = b.drop (64 * (b.length / 64)) ++ s := List.drop_append_of_le_length (by omega)
  have hl : (b.drop (64 * (b.length / 64)) ++ s).length = (b ++ s).length - 64 * (b.length / 64) := by rw [← hd, List.length_drop]
  have hn : (b ++ s).length / 64 = b.length / 64 + (b.drop (64 * (b.length / 64)) ++ s).length / 64 := by
    rw [hl, List.length_append]; omega
  constructor
  · rw [hn, absorb_add, absorb_append (b.length / 64) Sha.H0 b s (by omega), hd]
  · rw [hn, Nat.mul_add, ← List.drop_drop, hd]
/-- a digest that took those bytes in -/
def DigB (h : Heap) (N D : Nat) (b : List UInt8) : Prop := Dig h N D (absorb (b.length / 64) Sha.H0 b) (b.drop (64 * (b.length / 64))) b.length
theorem New_B {pr : Prog} (T : ShaTab pr) (h : Heap) : ∃ v h', cfi pr 85 [] h = some (v, h') ∧ v = .pointer (some ⟨h.next, 0, none⟩) ∧ DigB h' h.next h.next [] ∧ Grows h h' := New_run pr T.begin T.new T.newC h
theorem Write_B {pr : Prog} (T : ShaTab pr) {h : Heap} {N D : Nat} {b : List UInt8} (hd : DigB h N D b) (s : List UInt8) (hroom : s.length + 64 ≤ roomX) :
    ∃ v h', cfi pr 86 [.pointer (some ⟨D, 0, none⟩), .string (strOf s)] h = some (v, h') ∧ v = .tuple #[] ∧ DigB h' N D (b ++ s) ∧ Keeps (fun A => N ≤ A) h h' := by
  obtain ⟨v, h', e, hv, d, k⟩ := Write_run pr T.right T.words T.consts T.blk T.blkC T.wr T.wrC h N D _ _ _ s hd (by rw [List.length_drop]; omega)
  rw [(st_app b s).1, (st_app b s).2, ← List.length_append] at d
  exact ⟨v, h', e, hv, d, k⟩
theorem Sum_B {pr : Prog} (T : ShaTab pr) {h : Heap} {N D : Nat} {b : List UInt8} (hd : DigB h N D b) : ∃ v h', cfi pr 87 [.pointer (some ⟨D, 0, none⟩)] h = some (v, h') ∧ v = .string (strOf (sha b)) ∧ Grows h h' := by
  have := Sum_run pr T.right T.words T.consts T.blk T.blkC T.sum T.sumC h N D _ _ _ hd (by rw [List.length_drop]; have : roomX = 140737488355328 := rfl; omega)
  rw [sha_parts] at this
  exact this
def strCells : List Value → Option (List (List UInt8))
  | [] => some []
  | .string s :: r => (match strCells r with | some l => some (s.data.toList :: l) | none => none)
  | _ :: _ => none
theorem strCells_cells : ∀ l : List (List UInt8), strCells (cellsOfStrs l) = some l
  | [] => rfl
  | s :: l => by
    have := strCells_cells l
    unfold cellsOfStrs at this ⊢
    simp only [List.map_cons, strCells, this, data_strOf]
theorem strCells_eq : ∀ {cs : List Value} {l : List (List UInt8)}, strCells cs = some l → cs = cellsOfStrs l
  | [], l, h => by cases h; rfl
  | c :: cs, l, h => by
    unfold strCells at h
    split at h
    · rename_i heq; cases heq
    · rename_i s r heq
      cases heq
      split at h
      · rename_i q hq
        cases h
        rw [strCells_eq hq]
        simp only [cellsOfStrs, List.map_cons]
        rw [show strOf s.data.toList = s from strOf_data s]
      · cases h
    · cases h
/-- the strings that a slice holds -/
def strsAt (h : Heap) : Value → Option (List (List UInt8))
  | .slice none n _ => if n = 0 then some [] else none
  | .slice (some a) n _ => if n = 0 then some [] else (match h.loadN a n with | some cs => strCells cs | none => none)
  | _ => none
theorem Own.strs {h : Heap} {S : Nat → Prop} {v : Value} {n : Nat} {l : List (List UInt8)} (ho : Own h S 1 v n (cellsOfStrs l)) : strsAt h v = some l := by
  obtain ⟨a, cap, rfl, hs⟩ := ho.shape
  by_cases h0 : n = 0
  · subst h0
    have := ho.nil_of
    obtain rfl : l = [] := by cases l with | nil => rfl | cons x l => simp [cellsOfStrs] at this
    cases a <;> simp [strsAt]
  · obtain ⟨B, off, sp, rfl, h1, _⟩ := hs h0
    simp only [strsAt]
    rw [if_neg h0]
    rw [Nat.mul_one] at h1
    simp only [h1, strCells_cells]
theorem loadN_len2 {h : Heap} {a : Addr} {n : Nat} {l : List Value} (hl : h.loadN a n = some l) : l.length = n := by
  unfold Heap.loadN at hl
  split at hl
  · rename_i c hc
    unfold takeN at hl
    cases hb : (a.off + n).ble c.cells.length with
    | false => rw [hb] at hl; cases hl
    | true =>
      rw [hb] at hl
      cases hl
      have := Nat.le_of_ble_eq_true hb
      simp; omega
  · cases hl
/-- a slice of strings, as it is read -/
theorem strsAt_elim {h : Heap} {v : Value} {l : List (List UInt8)} (hs : strsAt h v = some l) : ∃ a cap, v = .slice a l.length cap ∧ ∀ i, i < l.length → ∃ B o, (∀ k : IntKind, iaddrSV 1 v (.int k (i : Int)) = some (.pointer (some ⟨B, o, none⟩))) ∧ h.load ⟨B, o, none⟩ = some (.string (strOf (l.getD i []))) := by
  unfold strsAt at hs
  split at hs
  · rename_i n c
    split at hs
    · rename_i h0
      cases hs
      subst h0
      exact ⟨none, c, rfl, fun i hi => by simp at hi⟩
    · cases hs
  · rename_i a n c
    split at hs
    · rename_i h0
      cases hs
      subst h0
      exact ⟨some a, c, rfl, fun i hi => by simp at hi⟩
    · split at hs
      · rename_i cs hcs
        obtain rfl := strCells_eq hs
        have hn : l.length = n := by
          have := loadN_len2 hcs
          rw [cellsOfStrs_len] at this
          exact this
        subst hn
        exact ⟨some a, c, rfl, fun i hi => ⟨a.block, a.off + i, fun k => iaddrSV_1 hi, load_of_loadN hcs (cellsOfStrs_get hi)⟩⟩
      · cases hs
  · cases hs
def taggedG : Prim := fun args h => match args with
  | [.int .u8 p, v] => (match strsAt h v with
    | some l => if 0 ≤ p ∧ p < 256 ∧ (partsB l).length + 1000 ≤ roomX then some (.string (strOf (tagged (UInt8.ofNat p.toNat) l)), h) else none
    | none => none)
  | _ => none
theorem taggedG_at {h : Heap} {v : Value} {l : List (List UInt8)} {p : Nat} (hs : strsAt h v = some l) (hp : p < 256) (hr : (partsB l).length + 1000 ≤ roomX) : taggedG [.int .u8 (OfNat.ofNat p), v] h = some (.string (strOf (tagged (UInt8.ofNat p) l)), h) := by
  have e : (OfNat.ofNat p : Int) = (p : Int) := rfl
  simp only [taggedG, hs, e]
  rw [if_pos ⟨by omega, by omega, hr⟩]
  simp
theorem partsB_take {l : List (List UInt8)} {i : Nat} (hi : i < l.length) : partsB (l.take (i + 1)) = partsB (l.take i) ++ fourB (l.getD i []).length ++ l.getD i [] := by
  unfold partsB
  rw [List.take_succ_eq_append_getElem hi, List.flatMap_append, List.flatMap_cons, List.flatMap_nil, List.append_nil, List.append_assoc]
  simp [partB, List.getD_eq_getElem?_getD, List.getElem?_eq_getElem hi]
theorem part_le {l : List (List UInt8)} {i : Nat} (hi : i < l.length) : (l.getD i []).length + 4 ≤ (partsB l).length := by
  have h1 := partsB_take hi
  have h2 : partsB l = partsB (l.take (i + 1)) ++ partsB (l.drop (i + 1)) := by
    unfold partsB; rw [← List.flatMap_append, List.take_append_drop]
  rw [h2, h1]
  simp [fourB]
  omega
theorem parts_count {l : List (List UInt8)} : l.length * 4 ≤ (partsB l).length := by
  induction l with
  | nil => simp
  | cons s l ih =>
    unfold partsB at ih ⊢
    simp only [List.flatMap_cons, List.length_append, List.length_cons, partB, fourB] at ih ⊢
    simp only [List.length_nil]
    omega
end Go.X
end

section
open Go Go.X
namespace Go.X
set_option linter.unusedVariables false
theorem byte_cell {p : Nat} (hp : p < 256) {h : Heap} : cb2sV (h.new [uw .u8 p]) (.slice (some ⟨h.next, 0, none⟩) 1 1) = some (.string (strOf [UInt8.ofNat p])) := by
  have hO := Own.newSlice (h := h) (l := cellsOfBytes [UInt8.ofNat p]) (n := 1) (esz := 1) (sp := none) rfl (.inl rfl)
  have := hO.cb2s
  rw [cellsOfBytes_one] at this
  exact this
theorem tagged_ok (pr : Prog) (T : ShaTab pr) (hf : pr.prim 89 = some (pureG fourS)) (p : Nat) (hp : p < 256) (h : Heap) (wf : HWF h) (v : Value) (l : List (List UInt8)) (hs : strsAt h v = some l) (hr : (partsB l).length + 1000 ≤ roomX) :
    Comes pr xq64 [uw .u8 p, v] h (.string (strOf (tagged (UInt8.ofNat p) l))) := by
  apply Comes.of
  unfold xq64
  dsimp only [initFr]
  have hr64 : roomX = 140737488355328 := rfl
  obtain ⟨a, cap, rfl, hel⟩ := strsAt_elim hs
  obtain ⟨_, h1, e1, rfl, d1, g1⟩ := New_B T h
  have g2 : Grows h (h1.new [uw .u8 p]) := g1.trans Grows.new
  obtain ⟨_, h3, e3, rfl, d3, k3⟩ := Write_B T (d1.keep (W := none1) (Grows.new (l := [uw .u8 p])).keeps (fun _ _ => id)) [UInt8.ofNat p] (by simp; omega)
  have g3 := g2.then k3 (fun A hA => by omega)
  (repeat (first | refine wpk_seq ?_ | refine wpk_block ?_ | refine wpk_scope ?_ | refine wpk_skip ?_ | refine kont_code ?_ | refine kont_blk ?_ | refine kont_nil ?_ | refine wpk_exit ?_ | refine exit_code ?_ | refine exit_lp ?_ | refine exit_here ?_ | refine exit_there (by decide) ?_ | refine wpk_ret ?_ | ((first | refine wpk_ops ?_ | refine wpk_draw0 ?_ | refine wpk_drawS rfl rfl ?_ | refine wpk_drawC rfl ?_ | refine wpk_condE ?_); simp only [yq64.down, cintV_i, lemS.down, lemC.down, Int.reduceBEq, Nat.reduceAdd, Nat.reduceLeDiff, reduceIte, Nat.reduceEqDiff, Int.reduceLT, Int.reduceLE, Int.reduceGT, Int.reduceGE, Int.reduceEq, Int.reduceAdd, Int.reduceSub, Int.reduceMul, reduceCtorEq, lemH.down, lemW.down, e1, byte_cell hp, e3])))
  refine wpk_loop_inv (fun m t g => ∃ i, m = l.length - i ∧ i ≤ l.length ∧ DigB g h.next h.next (UInt8.ofNat p :: partsB (l.take i)) ∧ Grows h g ∧ t.get 5 = .pointer (some ⟨h.next, 0, none⟩) ∧ t.get 14 = .slice a l.length cap ∧ t.get 15 = .int .i64 (l.length : Int) ∧ t.get 16 = .int .i64 (i : Int)) ?_ l.length _ _ ⟨0, rfl, by omega, by simpa [partsB] using d3, g3, by simp only [yq64.down, cintV_i, lemS.down, lemC.down, Int.reduceBEq, Nat.reduceAdd, Nat.reduceLeDiff, reduceIte, Nat.reduceEqDiff, Int.reduceLT, Int.reduceLE, Int.reduceGT, Int.reduceGE, Int.reduceEq, Int.reduceAdd, Int.reduceSub, Int.reduceMul, reduceCtorEq], by simp only [yq64.down, cintV_i, lemS.down, lemC.down, Int.reduceBEq, Nat.reduceAdd, Nat.reduceLeDiff, reduceIte, Nat.reduceEqDiff, Int.reduceLT, Int.reduceLE, Int.reduceGT, Int.reduceGE, Int.reduceEq, Int.reduceAdd, Int.reduceSub, Int.reduceMul, reduceCtorEq], by simp only [yq64.down, cintV_i, lemS.down, lemC.down, Int.reduceBEq, Nat.reduceAdd, Nat.reduceLeDiff, reduceIte, Nat.reduceEqDiff, Int.reduceLT, Int.reduceLE, Int.reduceGT, Int.reduceGE, Int.reduceEq, Int.reduceAdd, Int.reduceSub, Int.reduceMul, reduceCtorEq], by (simp only [yq64.down, cintV_i, lemS.down, lemC.down, Int.reduceBEq, Nat.reduceAdd, Nat.reduceLeDiff, reduceIte, Nat.reduceEqDiff, Int.reduceLT, Int.reduceLE, Int.reduceGT, Int.reduceGE, Int.reduceEq, Int.reduceAdd, Int.reduceSub, Int.reduceMul, reduceCtorEq]) <;> rfl⟩
  rintro m t g ⟨i, rfl, hi, gd, gg, t5, t14, t15, t16⟩ hnext
  refine xq64_9k ?_
  dsimp only [xq64_9b]
  (repeat (first | refine wpk_seq ?_ | refine wpk_block ?_ | refine wpk_scope ?_ | refine wpk_skip ?_ | refine kont_code ?_ | refine kont_blk ?_ | refine kont_nil ?_ | refine wpk_exit ?_ | refine exit_code ?_ | refine exit_lp ?_ | refine exit_here ?_ | refine exit_there (by decide) ?_ | refine wpk_ret ?_ | ((first | refine wpk_ops ?_ | refine wpk_draw0 ?_ | refine wpk_drawS rfl rfl ?_ | refine wpk_drawC rfl ?_ | refine wpk_condE ?_); simp only [yq64.down, cintV_i, lemS.down, lemC.down, Int.reduceBEq, Nat.reduceAdd, Nat.reduceLeDiff, reduceIte, Nat.reduceEqDiff, Int.reduceLT, Int.reduceLE, Int.reduceGT, Int.reduceGE, Int.reduceEq, Int.reduceAdd, Int.reduceSub, Int.reduceMul, reduceCtorEq, lemH.down, lemW.down, t5, t14, t15, t16])))
  refine ⟨fun hlt => ?_, fun hge => ?_⟩
  · have hi' : i < l.length := by omega
    have hpl := part_le hi'
    have hpc := parts_count (l := l)
    have ww : IntKind.i64.wrap ((i : Int) + 1) = ((i + 1 : Nat) : Int) := by rw [wrap_i64 (by omega) (by omega)]; omega
    obtain ⟨B, o, ia, ld⟩ := hel i hi'
    have ld := gg.load wf ld
    have f4 := cfi_pure (h := g) hf (fourS_at (n := (l.getD i []).length) (by omega))
    obtain ⟨_, h4, e4, rfl, d4, k4⟩ := Write_B T gd (fourB (l.getD i []).length) (by simp [fourB]; omega)
    obtain ⟨_, h5, e5, rfl, d5, k5⟩ := Write_B T d4 (l.getD i []) (by omega)
    (repeat (first | refine wpk_seq ?_ | refine wpk_block ?_ | refine wpk_scope ?_ | refine wpk_skip ?_ | refine kont_code ?_ | refine kont_blk ?_ | refine kont_nil ?_ | refine wpk_exit ?_ | refine exit_code ?_ | refine exit_lp ?_ | refine exit_here ?_ | refine exit_there (by decide) ?_ | refine wpk_ret ?_ | ((first | refine wpk_ops ?_ | refine wpk_draw0 ?_ | refine wpk_drawS rfl rfl ?_ | refine wpk_drawC rfl ?_ | refine wpk_condE ?_); simp only [yq64.down, cintV_i, lemS.down, lemC.down, Int.reduceBEq, Nat.reduceAdd, Nat.reduceLeDiff, reduceIte, Nat.reduceEqDiff, Int.reduceLT, Int.reduceLE, Int.reduceGT, Int.reduceGE, Int.reduceEq, Int.reduceAdd, Int.reduceSub, Int.reduceMul, reduceCtorEq, lemH.down, lemW.down, t5, t14, t15, t16, p_iaddrS, ia, ld, f4, e4, e5, ww])))
    refine hnext (l.length - (i + 1)) _ _ (by omega) ⟨i + 1, rfl, by omega, ?_, (gg.then k4 (fun A hA => by omega)).then k5 (fun A hA => by omega), by simp only [yq64.down, cintV_i, lemS.down, lemC.down, Int.reduceBEq, Nat.reduceAdd, Nat.reduceLeDiff, reduceIte, Nat.reduceEqDiff, Int.reduceLT, Int.reduceLE, Int.reduceGT, Int.reduceGE, Int.reduceEq, Int.reduceAdd, Int.reduceSub, Int.reduceMul, reduceCtorEq, t5], by simp only [yq64.down, cintV_i, lemS.down, lemC.down, Int.reduceBEq, Nat.reduceAdd, Nat.reduceLeDiff, reduceIte, Nat.reduceEqDiff, Int.reduceLT, Int.reduceLE, Int.reduceGT, Int.reduceGE, Int.reduceEq, Int.reduceAdd, Int.reduceSub, Int.reduceMul, reduceCtorEq, t14], by simp only [yq64.down, cintV_i, lemS.down, lemC.down, Int.reduceBEq, Nat.reduceAdd, Nat.reduceLeDiff, reduceIte, Nat.reduceEqDiff, Int.reduceLT, Int.reduceLE, Int.reduceGT, Int.reduceGE, Int.reduceEq, Int.reduceAdd, Int.reduceSub, Int.reduceMul, reduceCtorEq, t15], by simp only [yq64.down, cintV_i, lemS.down, lemC.down, Int.reduceBEq, Nat.reduceAdd, Nat.reduceLeDiff, reduceIte, Nat.reduceEqDiff, Int.reduceLT, Int.reduceLE, Int.reduceGT, Int.reduceGE, Int.reduceEq, Int.reduceAdd, Int.reduceSub, Int.reduceMul, reduceCtorEq]⟩
    rw [partsB_take hi']
    simpa using d5
  · obtain rfl : i = l.length := by omega
    rw [List.take_length] at gd
    obtain ⟨_, h6, e6, rfl, g6⟩ := Sum_B T gd
    (repeat (first | refine wpk_seq ?_ | refine wpk_block ?_ | refine wpk_scope ?_ | refine wpk_skip ?_ | refine kont_code ?_ | refine kont_blk ?_ | refine kont_nil ?_ | refine wpk_exit ?_ | refine exit_code ?_ | refine exit_lp ?_ | refine exit_here ?_ | refine exit_there (by decide) ?_ | refine wpk_ret ?_ | ((first | refine wpk_ops ?_ | refine wpk_draw0 ?_ | refine wpk_drawS rfl rfl ?_ | refine wpk_drawC rfl ?_ | refine wpk_condE ?_); simp only [yq64.down, cintV_i, lemS.down, lemC.down, Int.reduceBEq, Nat.reduceAdd, Nat.reduceLeDiff, reduceIte, Nat.reduceEqDiff, Int.reduceLT, Int.reduceLE, Int.reduceGT, Int.reduceGE, Int.reduceEq, Int.reduceAdd, Int.reduceSub, Int.reduceMul, reduceCtorEq, lemH.down, lemW.down, t5, t14, t15, t16, e6])))
    exact ⟨.inr rfl, by (simp only [yq64.down, cintV_i, lemS.down, lemC.down, Int.reduceBEq, Nat.reduceAdd, Nat.reduceLeDiff, reduceIte, Nat.reduceEqDiff, Int.reduceLT, Int.reduceLE, Int.reduceGT, Int.reduceGE, Int.reduceEq, Int.reduceAdd, Int.reduceSub, Int.reduceMul, reduceCtorEq]) <;> rfl, gg.trans g6⟩
theorem rtagged_ok (pr : Prog) (hs9 : pr.prim 18 = some (pureG shaS)) (p : Nat) (hp : p < 256) (h : Heap) (wf : HWF h) (v : Value) (l : List (List UInt8)) (hs : strsAt h v = some l) (hr : (partsB l).length + 1000 ≤ roomX) :
    Comes pr xq28 [uw .u8 p, v] h (.string (strOf (tagged (UInt8.ofNat p) l))) := by
  apply Comes.of
  unfold xq28
  dsimp only [initFr]
  have hr64 : roomX = 140737488355328 := rfl
  obtain ⟨a, cap, rfl, hel⟩ := strsAt_elim hs
  have g1 : Grows h (h.new [uw .u8 p]) := Grows.new
  (repeat (first | refine wpk_seq ?_ | refine wpk_block ?_ | refine wpk_scope ?_ | refine wpk_skip ?_ | refine kont_code ?_ | refine kont_blk ?_ | refine kont_nil ?_ | refine wpk_exit ?_ | refine exit_code ?_ | refine exit_lp ?_ | refine exit_here ?_ | refine exit_there (by decide) ?_ | refine wpk_ret ?_ | ((first | refine wpk_ops ?_ | refine wpk_draw0 ?_ | refine wpk_drawS rfl rfl ?_ | refine wpk_drawC rfl ?_ | refine wpk_condE ?_); simp only [yq28.down, cintV_i, lemS.down, lemC.down, Int.reduceBEq, Nat.reduceAdd, Nat.reduceLeDiff, reduceIte, Nat.reduceEqDiff, Int.reduceLT, Int.reduceLE, Int.reduceGT, Int.reduceGE, Int.reduceEq, Int.reduceAdd, Int.reduceSub, Int.reduceMul, reduceCtorEq, lemH.down, lemW.down, byte_cell hp])))
  generalize h.new [uw .u8 p] = h1 at *
  refine wpk_loop_inv (fun m t g => ∃ i, m = l.length - i ∧ i ≤ l.length ∧ Grows h g ∧ t.get 1 = .slice a l.length cap ∧ t.get 5 = .string (strOf (UInt8.ofNat p :: partsB (l.take i))) ∧ t.get 6 = .int .i64 (i : Int)) ?_ l.length _ _ ⟨0, rfl, by omega, g1, by simp only [yq28.down, cintV_i, lemS.down, lemC.down, Int.reduceBEq, Nat.reduceAdd, Nat.reduceLeDiff, reduceIte, Nat.reduceEqDiff, Int.reduceLT, Int.reduceLE, Int.reduceGT, Int.reduceGE, Int.reduceEq, Int.reduceAdd, Int.reduceSub, Int.reduceMul, reduceCtorEq], by (simp only [yq28.down, cintV_i, lemS.down, lemC.down, Int.reduceBEq, Nat.reduceAdd, Nat.reduceLeDiff, reduceIte, Nat.reduceEqDiff, Int.reduceLT, Int.reduceLE, Int.reduceGT, Int.reduceGE, Int.reduceEq, Int.reduceAdd, Int.reduceSub, Int.reduceMul, reduceCtorEq]) <;> rfl, by (simp only [yq28.down, cintV_i, lemS.down, lemC.down, Int.reduceBEq, Nat.reduceAdd, Nat.reduceLeDiff, reduceIte, Nat.reduceEqDiff, Int.reduceLT, Int.reduceLE, Int.reduceGT, Int.reduceGE, Int.reduceEq, Int.reduceAdd, Int.reduceSub, Int.reduceMul, reduceCtorEq]) <;> rfl⟩
  rintro m t g ⟨i, rfl, hi, gg, t1, t5, t6⟩ hnext
  refine xq28_7k ?_
  dsimp only [xq28_7b]
  (repeat (first | refine wpk_seq ?_ | refine wpk_block ?_ | refine wpk_scope ?_ | refine wpk_skip ?_ | refine kont_code ?_ | refine kont_blk ?_ | refine kont_nil ?_ | refine wpk_exit ?_ | refine exit_code ?_ | refine exit_lp ?_ | refine exit_here ?_ | refine exit_there (by decide) ?_ | refine wpk_ret ?_ | ((first | refine wpk_ops ?_ | refine wpk_draw0 ?_ | refine wpk_drawS rfl rfl ?_ | refine wpk_drawC rfl ?_ | refine wpk_condE ?_); simp only [yq28.down, cintV_i, lemS.down, lemC.down, Int.reduceBEq, Nat.reduceAdd, Nat.reduceLeDiff, reduceIte, Nat.reduceEqDiff, Int.reduceLT, Int.reduceLE, Int.reduceGT, Int.reduceGE, Int.reduceEq, Int.reduceAdd, Int.reduceSub, Int.reduceMul, reduceCtorEq, lemH.down, lemW.down, t1, t5, t6])))
  have hple : (partsB (l.take i)).length ≤ (partsB l).length := by
    have h2 : partsB l = partsB (l.take i) ++ partsB (l.drop i) := by
      unfold partsB; rw [← List.flatMap_append, List.take_append_drop]
    rw [h2]; simp
  refine ⟨fun hlt => ?_, fun hge => ?_⟩
  · have hi' : i < l.length := by omega
    have hpl := part_le hi'
    have hpc := parts_count (l := l)
    have ww : IntKind.i64.wrap ((i : Int) + 1) = ((i + 1 : Nat) : Int) := by rw [wrap_i64 (by omega) (by omega)]; omega
    obtain ⟨B, o, ia, ld⟩ := hel i hi'
    have ld0 := gg.load wf ld
    have q24 := quo_nat (k := .i64) (a := (l.getD i []).length) (b := 16777216) (by decide)
    have q16 := quo_nat (k := .i64) (a := (l.getD i []).length) (b := 65536) (by decide)
    have q8 := quo_nat (k := .i64) (a := (l.getD i []).length) (b := 256) (by decide)
    rw [wrap_i64 (by omega) (by omega)] at q24 q16 q8
    simp only [Int.cast_ofNat_Int] at q24 q16 q8
    have c := fun n => uw_cint (k := .u8) (k' := .i64) u8_signed (n := n)
    have hO := Own.newSlice (h := g) (l := cellsOfBytes (fourB (l.getD i []).length)) (n := 4) (esz := 1) (sp := none) (by rw [fourB_cells]; rfl) (.inl rfl)
    have hb := hO.cb2s
    have ld2 := (gg.trans (Grows.new (l := cellsOfBytes (fourB (l.getD i []).length)))).load wf ld
    rw [fourB_cells] at hb ld2
    have fl : ∀ n, (fourB n).length = 4 := fun _ => rfl
    have cat1 := bin_cat (a := fourB (l.getD i []).length) (b := l.getD i []) (by rw [fl]; omega)
    have cat2 := bin_cat (a := UInt8.ofNat p :: partsB (l.take i)) (b := fourB (l.getD i []).length ++ l.getD i []) (by
      have h3 : (partsB (l.take i)).length + 4 + (l.getD i []).length ≤ (partsB l).length := by
        have h2 : partsB l = partsB (l.take (i + 1)) ++ partsB (l.drop (i + 1)) := by
          unfold partsB; rw [← List.flatMap_append, List.take_append_drop]
        rw [h2, partsB_take hi', List.length_append, List.length_append, List.length_append, fl]
        omega
      rw [List.length_append, List.length_cons, fl]; omega)
    (repeat (first | refine wpk_seq ?_ | refine wpk_block ?_ | refine wpk_scope ?_ | refine wpk_skip ?_ | refine kont_code ?_ | refine kont_blk ?_ | refine kont_nil ?_ | refine wpk_exit ?_ | refine exit_code ?_ | refine exit_lp ?_ | refine exit_here ?_ | refine exit_there (by decide) ?_ | refine wpk_ret ?_ | ((first | refine wpk_ops ?_ | refine wpk_draw0 ?_ | refine wpk_drawS rfl rfl ?_ | refine wpk_drawC rfl ?_ | refine wpk_condE ?_); simp only [yq28.down, cintV_i, lemS.down, lemC.down, Int.reduceBEq, Nat.reduceAdd, Nat.reduceLeDiff, reduceIte, Nat.reduceEqDiff, Int.reduceLT, Int.reduceLE, Int.reduceGT, Int.reduceGE, Int.reduceEq, Int.reduceAdd, Int.reduceSub, Int.reduceMul, reduceCtorEq, lemH.down, lemW.down, t1, t5, t6, p_iaddrS, ia, ld0, q24, q16, q8, c, fill4', hb, ld2, cat1, cat2, ww])))
    refine hnext (l.length - (i + 1)) _ _ (by omega) ⟨i + 1, rfl, by omega, gg.trans Grows.new, by simp only [yq28.down, cintV_i, lemS.down, lemC.down, Int.reduceBEq, Nat.reduceAdd, Nat.reduceLeDiff, reduceIte, Nat.reduceEqDiff, Int.reduceLT, Int.reduceLE, Int.reduceGT, Int.reduceGE, Int.reduceEq, Int.reduceAdd, Int.reduceSub, Int.reduceMul, reduceCtorEq, t1], ?_, by simp only [yq28.down, cintV_i, lemS.down, lemC.down, Int.reduceBEq, Nat.reduceAdd, Nat.reduceLeDiff, reduceIte, Nat.reduceEqDiff, Int.reduceLT, Int.reduceLE, Int.reduceGT, Int.reduceGE, Int.reduceEq, Int.reduceAdd, Int.reduceSub, Int.reduceMul, reduceCtorEq]⟩
    simp only [yq28.down, cintV_i, lemS.down, lemC.down, Int.reduceBEq, Nat.reduceAdd, Nat.reduceLeDiff, reduceIte, Nat.reduceEqDiff, Int.reduceLT, Int.reduceLE, Int.reduceGT, Int.reduceGE, Int.reduceEq, Int.reduceAdd, Int.reduceSub, Int.reduceMul, reduceCtorEq]
    rw [partsB_take hi']
    simp
  · obtain rfl : i = l.length := by omega
    rw [List.take_length] at t5
    have sm := cfi_pure (h := g) hs9 (shaS_at (s := UInt8.ofNat p :: partsB l) (by simp; omega))
    (repeat (first | refine wpk_seq ?_ | refine wpk_block ?_ | refine wpk_scope ?_ | refine wpk_skip ?_ | refine kont_code ?_ | refine kont_blk ?_ | refine kont_nil ?_ | refine wpk_exit ?_ | refine exit_code ?_ | refine exit_lp ?_ | refine exit_here ?_ | refine exit_there (by decide) ?_ | refine wpk_ret ?_ | ((first | refine wpk_ops ?_ | refine wpk_draw0 ?_ | refine wpk_drawS rfl rfl ?_ | refine wpk_drawC rfl ?_ | refine wpk_condE ?_); simp only [yq28.down, cintV_i, lemS.down, lemC.down, Int.reduceBEq, Nat.reduceAdd, Nat.reduceLeDiff, reduceIte, Nat.reduceEqDiff, Int.reduceLT, Int.reduceLE, Int.reduceGT, Int.reduceGE, Int.reduceEq, Int.reduceAdd, Int.reduceSub, Int.reduceMul, reduceCtorEq, lemH.down, lemW.down, t1, t5, t6, sm])))
    exact ⟨.inr rfl, by (simp only [yq28.down, cintV_i, lemS.down, lemC.down, Int.reduceBEq, Nat.reduceAdd, Nat.reduceLeDiff, reduceIte, Nat.reduceEqDiff, Int.reduceLT, Int.reduceLE, Int.reduceGT, Int.reduceGE, Int.reduceEq, Int.reduceAdd, Int.reduceSub, Int.reduceMul, reduceCtorEq]) <;> rfl, gg⟩
end Go.X
end

section
open Go Go.X
namespace Go.X
set_option linter.unusedVariables false
/-- the keys of the ring at that place -/
def ringAt (h : Heap) (a : Addr) : Option (List (List UInt8)) := match h.load a with | some v => strsAt h v | none => none
def keyP (l : List (List UInt8)) (i : Int) : List UInt8 × Bool := if 0 ≤ i ∧ i < l.length then (l.getD i.toNat [], true) else ([], false)
def keyG : Prim := fun args h => match args with
  | [.pointer none, .int .i64 _] => some (.tuple #[.string (strOf []), .bool false], h)
  | [.pointer (some a), .int .i64 i] => (match ringAt h a with
    | some l => some (.tuple #[.string (strOf (keyP l i).1), .bool (keyP l i).2], h)
    | none => none)
  | _ => none
theorem keyG_at {h : Heap} {a : Addr} {l : List (List UInt8)} {i : Int} (hr : ringAt h a = some l) : keyG [.pointer (some a), .int .i64 i] h = some (.tuple #[.string (strOf (keyP l i).1), .bool (keyP l i).2], h) := by simp only [keyG, hr]
theorem ringAt_elim {h : Heap} {a : Addr} {l : List (List UInt8)} (hr : ringAt h a = some l) : ∃ v, h.load a = some v ∧ strsAt h v = some l := by
  unfold ringAt at hr
  split at hr
  · rename_i v hv; exact ⟨v, hv, hr⟩
  · cases hr
theorem key_ok (pr : Prog) (h : Heap) (a : Addr) (l : List (List UInt8)) (i : Int) (hr : ringAt h a = some l) : Comes pr xq23 [.pointer (some a), .int .i64 i] h (.tuple #[.string (strOf (keyP l i).1), .bool (keyP l i).2]) := by
  apply Comes.of
  unfold xq23
  dsimp only [initFr]
  obtain ⟨v, hv, hs⟩ := ringAt_elim hr
  obtain ⟨b, cap, rfl, hel⟩ := strsAt_elim hs
  have ld : ∀ sp, h.load ⟨a.block, a.off, sp⟩ = some (.slice b l.length cap) := fun sp => hv
  by_cases hi : i < 0
  · have d1 : decide (i < 0) = true := by simpa using hi
    (repeat (first | refine wpk_seq ?_ | refine wpk_block ?_ | refine wpk_scope ?_ | refine wpk_skip ?_ | refine kont_code ?_ | refine kont_blk ?_ | refine kont_nil ?_ | refine wpk_exit ?_ | refine exit_code ?_ | refine exit_lp ?_ | refine exit_here ?_ | refine exit_there (by decide) ?_ | refine wpk_ret ?_ | ((first | refine wpk_ops ?_ | refine wpk_draw0 ?_ | refine wpk_drawS rfl rfl ?_ | refine wpk_drawC rfl ?_ | refine wpk_condE ?_); simp only [yq23.down, cintV_i, lemS.down, lemC.down, Int.reduceBEq, Nat.reduceAdd, Nat.reduceLeDiff, reduceIte, Nat.reduceEqDiff, Int.reduceLT, Int.reduceLE, Int.reduceGT, Int.reduceGE, Int.reduceEq, Int.reduceAdd, Int.reduceSub, Int.reduceMul, reduceCtorEq, lemH.down, eqX_pn, d1])))
    refine ⟨.inr rfl, ?_, Grows.refl h⟩
    simp only [yq23.down, cintV_i, lemS.down, lemC.down, Int.reduceBEq, Nat.reduceAdd, Nat.reduceLeDiff, reduceIte, Nat.reduceEqDiff, Int.reduceLT, Int.reduceLE, Int.reduceGT, Int.reduceGE, Int.reduceEq, Int.reduceAdd, Int.reduceSub, Int.reduceMul, reduceCtorEq]
    unfold keyP
    rw [if_neg (by omega)]
  · have d1 : decide (i < 0) = false := by simpa using hi
    (repeat (first | refine wpk_seq ?_ | refine wpk_block ?_ | refine wpk_scope ?_ | refine wpk_skip ?_ | refine kont_code ?_ | refine kont_blk ?_ | refine kont_nil ?_ | refine wpk_exit ?_ | refine exit_code ?_ | refine exit_lp ?_ | refine exit_here ?_ | refine exit_there (by decide) ?_ | refine wpk_ret ?_ | ((first | refine wpk_ops ?_ | refine wpk_draw0 ?_ | refine wpk_drawS rfl rfl ?_ | refine wpk_drawC rfl ?_ | refine wpk_condE ?_); simp only [yq23.down, cintV_i, lemS.down, lemC.down, Int.reduceBEq, Nat.reduceAdd, Nat.reduceLeDiff, reduceIte, Nat.reduceEqDiff, Int.reduceLT, Int.reduceLE, Int.reduceGT, Int.reduceGE, Int.reduceEq, Int.reduceAdd, Int.reduceSub, Int.reduceMul, reduceCtorEq, lemH.down, eqX_pn, d1, Nat.add_zero, ld])))
    refine ⟨fun hge => ?_, fun hlt => ?_⟩
    · (repeat (first | refine wpk_seq ?_ | refine wpk_block ?_ | refine wpk_scope ?_ | refine wpk_skip ?_ | refine kont_code ?_ | refine kont_blk ?_ | refine kont_nil ?_ | refine wpk_exit ?_ | refine exit_code ?_ | refine exit_lp ?_ | refine exit_here ?_ | refine exit_there (by decide) ?_ | refine wpk_ret ?_ | ((first | refine wpk_ops ?_ | refine wpk_draw0 ?_ | refine wpk_drawS rfl rfl ?_ | refine wpk_drawC rfl ?_ | refine wpk_condE ?_); simp only [yq23.down, cintV_i, lemS.down, lemC.down, Int.reduceBEq, Nat.reduceAdd, Nat.reduceLeDiff, reduceIte, Nat.reduceEqDiff, Int.reduceLT, Int.reduceLE, Int.reduceGT, Int.reduceGE, Int.reduceEq, Int.reduceAdd, Int.reduceSub, Int.reduceMul, reduceCtorEq, lemH.down])))
      refine ⟨.inr rfl, ?_, Grows.refl h⟩
      simp only [yq23.down, cintV_i, lemS.down, lemC.down, Int.reduceBEq, Nat.reduceAdd, Nat.reduceLeDiff, reduceIte, Nat.reduceEqDiff, Int.reduceLT, Int.reduceLE, Int.reduceGT, Int.reduceGE, Int.reduceEq, Int.reduceAdd, Int.reduceSub, Int.reduceMul, reduceCtorEq]
      unfold keyP
      rw [if_neg (by omega)]
    · obtain ⟨n, rfl⟩ : ∃ n : Nat, i = (n : Int) := ⟨i.toNat, by omega⟩
      obtain ⟨B, o, ia, lo⟩ := hel n (by omega)
      (repeat (first | refine wpk_seq ?_ | refine wpk_block ?_ | refine wpk_scope ?_ | refine wpk_skip ?_ | refine kont_code ?_ | refine kont_blk ?_ | refine kont_nil ?_ | refine wpk_exit ?_ | refine exit_code ?_ | refine exit_lp ?_ | refine exit_here ?_ | refine exit_there (by decide) ?_ | refine wpk_ret ?_ | ((first | refine wpk_ops ?_ | refine wpk_draw0 ?_ | refine wpk_drawS rfl rfl ?_ | refine wpk_drawC rfl ?_ | refine wpk_condE ?_); simp only [yq23.down, cintV_i, lemS.down, lemC.down, Int.reduceBEq, Nat.reduceAdd, Nat.reduceLeDiff, reduceIte, Nat.reduceEqDiff, Int.reduceLT, Int.reduceLE, Int.reduceGT, Int.reduceGE, Int.reduceEq, Int.reduceAdd, Int.reduceSub, Int.reduceMul, reduceCtorEq, lemH.down, Nat.add_zero, ld, p_iaddrS, ia, lo])))
      refine ⟨.inr rfl, ?_, Grows.refl h⟩
      simp only [yq23.down, cintV_i, lemS.down, lemC.down, Int.reduceBEq, Nat.reduceAdd, Nat.reduceLeDiff, reduceIte, Nat.reduceEqDiff, Int.reduceLT, Int.reduceLE, Int.reduceGT, Int.reduceGE, Int.reduceEq, Int.reduceAdd, Int.reduceSub, Int.reduceMul, reduceCtorEq]
      unfold keyP
      rw [if_pos (by omega)]
      rfl
def ringLenG : Prim := fun args h => match args with
  | [.pointer none] => some (.int .i64 0, h)
  | [.pointer (some a)] => (match ringAt h a with | some l => some (.int .i64 (l.length : Int), h) | none => none)
  | _ => none
theorem ringLen_ok (pr : Prog) (h : Heap) (a : Addr) (l : List (List UInt8)) (hr : ringAt h a = some l) : Comes pr xq25 [.pointer (some a)] h (.int .i64 (l.length : Int)) := by
  apply Comes.of
  unfold xq25
  dsimp only [initFr]
  obtain ⟨v, hv, hs⟩ := ringAt_elim hr
  obtain ⟨b, cap, rfl, hel⟩ := strsAt_elim hs
  have ld : ∀ sp, h.load ⟨a.block, a.off, sp⟩ = some (.slice b l.length cap) := fun sp => hv
  (repeat (first | refine wpk_seq ?_ | refine wpk_block ?_ | refine wpk_scope ?_ | refine wpk_skip ?_ | refine kont_code ?_ | refine kont_blk ?_ | refine kont_nil ?_ | refine wpk_exit ?_ | refine exit_code ?_ | refine exit_lp ?_ | refine exit_here ?_ | refine exit_there (by decide) ?_ | refine wpk_ret ?_ | ((first | refine wpk_ops ?_ | refine wpk_draw0 ?_ | refine wpk_drawS rfl rfl ?_ | refine wpk_drawC rfl ?_ | refine wpk_condE ?_); simp only [yq25.down, cintV_i, lemS.down, lemC.down, Int.reduceBEq, Nat.reduceAdd, Nat.reduceLeDiff, reduceIte, Nat.reduceEqDiff, Int.reduceLT, Int.reduceLE, Int.reduceGT, Int.reduceGE, Int.reduceEq, Int.reduceAdd, Int.reduceSub, Int.reduceMul, reduceCtorEq, lemH.down, eqX_pn, Nat.add_zero, ld])))
  exact ⟨.inr rfl, by simp only [yq25.down, cintV_i, lemS.down, lemC.down, Int.reduceBEq, Nat.reduceAdd, Nat.reduceLeDiff, reduceIte, Nat.reduceEqDiff, Int.reduceLT, Int.reduceLE, Int.reduceGT, Int.reduceGE, Int.reduceEq, Int.reduceAdd, Int.reduceSub, Int.reduceMul, reduceCtorEq], Grows.refl h⟩
/-- no key is too long -/
def keysOk (l : List (List UInt8)) : Bool := l.all fun k => Nat.ble (k.length + 400) roomX
theorem keysOk_at {l : List (List UInt8)} (h : keysOk l = true) (i : Nat) : (l.getD i []).length + 400 ≤ roomX := by
  unfold keysOk at h
  rw [List.all_eq_true] at h
  by_cases hi : i < l.length
  · have := h (l.getD i []) (by simp [List.getD_eq_getElem?_getD, List.getElem?_eq_getElem hi])
    exact Nat.le_of_ble_eq_true this
  · rw [List.getD_eq_getElem?_getD, List.getElem?_eq_none (by omega)]
    decide
def tagP (l : List (List UInt8)) (i : Int) (s : List UInt8) : List UInt8 × Nat := if (keyP l i).2 then (mac (keyP l i).1 s, 0) else ([], 2)
def ringTagG : Prim := fun args h => match args with
  | [.pointer none, .int .i64 _, .string _] => some (.tuple #[.string (strOf []), .int .i64 2], h)
  | [.pointer (some a), .int .i64 i, .string s] => (match ringAt h a with
    | some l => if keysOk l = true ∧ s.data.toList.length + 500 ≤ roomX then some (.tuple #[.string (strOf (tagP l i s.data.toList).1), .int .i64 ((tagP l i s.data.toList).2 : Int)], h) else none
    | none => none)
  | _ => none
theorem ringTagG_at {h : Heap} {a : Addr} {l : List (List UInt8)} {i : Int} {s : List UInt8} (hr : ringAt h a = some l) (hk : keysOk l = true) (hs : s.length + 500 ≤ roomX) : ringTagG [.pointer (some a), .int .i64 i, .string (strOf s)] h = some (.tuple #[.string (strOf (tagP l i s).1), .int .i64 ((tagP l i s).2 : Int)], h) := by
  simp only [ringTagG, hr, data_strOf]
  rw [if_pos ⟨hk, hs⟩]
theorem ringTag_ok (pr : Prog) (hp : pr.prim 23 = some keyG) (ht : pr.prim 17 = some (pureG tagS)) (h : Heap) (a : Addr) (l : List (List UInt8)) (i : Int) (s : List UInt8) (hr : ringAt h a = some l) (hk : keysOk l = true) (hs : s.length + 500 ≤ roomX) :
    Comes pr xq24 [.pointer (some a), .int .i64 i, .string (strOf s)] h (.tuple #[.string (strOf (tagP l i s).1), .int .i64 ((tagP l i s).2 : Int)]) := by
  apply Comes.of
  unfold xq24
  dsimp only [initFr]
  have k1 := cfi_at hp (keyG_at (i := i) hr)
  (repeat (first | refine wpk_seq ?_ | refine wpk_block ?_ | refine wpk_scope ?_ | refine wpk_skip ?_ | refine kont_code ?_ | refine kont_blk ?_ | refine kont_nil ?_ | refine wpk_exit ?_ | refine exit_code ?_ | refine exit_lp ?_ | refine exit_here ?_ | refine exit_there (by decide) ?_ | refine wpk_ret ?_ | ((first | refine wpk_ops ?_ | refine wpk_draw0 ?_ | refine wpk_drawS rfl rfl ?_ | refine wpk_drawC rfl ?_ | refine wpk_condE ?_); simp only [yq24.down, cintV_i, lemS.down, lemC.down, Int.reduceBEq, Nat.reduceAdd, Nat.reduceLeDiff, reduceIte, Nat.reduceEqDiff, Int.reduceLT, Int.reduceLE, Int.reduceGT, Int.reduceGE, Int.reduceEq, Int.reduceAdd, Int.reduceSub, Int.reduceMul, reduceCtorEq, k1])))
  unfold tagP
  refine ⟨fun hc => ?_, fun hc => ?_⟩
  · (repeat (first | refine wpk_seq ?_ | refine wpk_block ?_ | refine wpk_scope ?_ | refine wpk_skip ?_ | refine kont_code ?_ | refine kont_blk ?_ | refine kont_nil ?_ | refine wpk_exit ?_ | refine exit_code ?_ | refine exit_lp ?_ | refine exit_here ?_ | refine exit_there (by decide) ?_ | refine wpk_ret ?_ | ((first | refine wpk_ops ?_ | refine wpk_draw0 ?_ | refine wpk_drawS rfl rfl ?_ | refine wpk_drawC rfl ?_ | refine wpk_condE ?_); simp only [yq24.down, cintV_i, lemS.down, lemC.down, Int.reduceBEq, Nat.reduceAdd, Nat.reduceLeDiff, reduceIte, Nat.reduceEqDiff, Int.reduceLT, Int.reduceLE, Int.reduceGT, Int.reduceGE, Int.reduceEq, Int.reduceAdd, Int.reduceSub, Int.reduceMul, reduceCtorEq])))
    refine ⟨.inr rfl, ?_, Grows.refl h⟩
    (simp only [yq24.down, cintV_i, lemS.down, lemC.down, Int.reduceBEq, Nat.reduceAdd, Nat.reduceLeDiff, reduceIte, Nat.reduceEqDiff, Int.reduceLT, Int.reduceLE, Int.reduceGT, Int.reduceGE, Int.reduceEq, Int.reduceAdd, Int.reduceSub, Int.reduceMul, reduceCtorEq, hc]) <;> rfl
  · have hkl : (keyP l i).1.length + 400 ≤ roomX := by
      unfold keyP; split
      · exact keysOk_at hk _
      · decide
    (repeat (first | refine wpk_seq ?_ | refine wpk_block ?_ | refine wpk_scope ?_ | refine wpk_skip ?_ | refine kont_code ?_ | refine kont_blk ?_ | refine kont_nil ?_ | refine wpk_exit ?_ | refine exit_code ?_ | refine exit_lp ?_ | refine exit_here ?_ | refine exit_there (by decide) ?_ | refine wpk_ret ?_ | ((first | refine wpk_ops ?_ | refine wpk_draw0 ?_ | refine wpk_drawS rfl rfl ?_ | refine wpk_drawC rfl ?_ | refine wpk_condE ?_); simp only [yq24.down, cintV_i, lemS.down, lemC.down, Int.reduceBEq, Nat.reduceAdd, Nat.reduceLeDiff, reduceIte, Nat.reduceEqDiff, Int.reduceLT, Int.reduceLE, Int.reduceGT, Int.reduceGE, Int.reduceEq, Int.reduceAdd, Int.reduceSub, Int.reduceMul, reduceCtorEq, cfi_pure ht (tagS_at (k := (keyP l i).1) (s := s) hkl hs)])))
    refine ⟨.inr rfl, ?_, Grows.refl h⟩
    (simp only [yq24.down, cintV_i, lemS.down, lemC.down, Int.reduceBEq, Nat.reduceAdd, Nat.reduceLeDiff, reduceIte, Nat.reduceEqDiff, Int.reduceLT, Int.reduceLE, Int.reduceGT, Int.reduceGE, Int.reduceEq, Int.reduceAdd, Int.reduceSub, Int.reduceMul, reduceCtorEq, hc]) <;> rfl
def checkP (l : List (List UInt8)) (i : Int) (s t : List UInt8) : Bool := (keyP l i).2 && (mac (keyP l i).1 s == t)
def ringCheckG : Prim := fun args h => match args with
  | [.pointer none, .int .i64 _, .string _, .string _] => some (.bool false, h)
  | [.pointer (some a), .int .i64 i, .string s, .string t] => (match ringAt h a with
    | some l => if keysOk l = true ∧ s.data.toList.length + 500 ≤ roomX then some (.bool (checkP l i s.data.toList t.data.toList), h) else none
    | none => none)
  | _ => none
theorem ringCheckG_at {h : Heap} {a : Addr} {l : List (List UInt8)} {i : Int} {s t : List UInt8} (hr : ringAt h a = some l) (hk : keysOk l = true) (hs : s.length + 500 ≤ roomX) : ringCheckG [.pointer (some a), .int .i64 i, .string (strOf s), .string (strOf t)] h = some (.bool (checkP l i s t), h) := by
  simp only [ringCheckG, hr, data_strOf]
  rw [if_pos ⟨hk, hs⟩]
theorem ringCheck_ok (pr : Prog) (hp : pr.prim 23 = some keyG) (ht : pr.prim 20 = some (pureG checkS)) (h : Heap) (a : Addr) (l : List (List UInt8)) (i : Int) (s t : List UInt8) (hr : ringAt h a = some l) (hk : keysOk l = true) (hs : s.length + 500 ≤ roomX) :
    Comes pr xq26 [.pointer (some a), .int .i64 i, .string (strOf s), .string (strOf t)] h (.bool (checkP l i s t)) := by
  apply Comes.of
  unfold xq26
  dsimp only [initFr]
  have k1 := cfi_at hp (keyG_at (i := i) hr)
  have hkl : (keyP l i).1.length + 400 ≤ roomX := by
    unfold keyP; split
    · exact keysOk_at hk _
    · decide
  have c1 := cfi_pure (h := h) ht (checkS_at (k := (keyP l i).1) (s := s) (t := t) hkl hs)
  unfold checkP
  cases hc : (keyP l i).2
  · (repeat (first | refine wpk_seq ?_ | refine wpk_block ?_ | refine wpk_scope ?_ | refine wpk_skip ?_ | refine kont_code ?_ | refine kont_blk ?_ | refine kont_nil ?_ | refine wpk_exit ?_ | refine exit_code ?_ | refine exit_lp ?_ | refine exit_here ?_ | refine exit_there (by decide) ?_ | refine wpk_ret ?_ | ((first | refine wpk_ops ?_ | refine wpk_draw0 ?_ | refine wpk_drawS rfl rfl ?_ | refine wpk_drawC rfl ?_ | refine wpk_condE ?_); simp only [yq26.down, cintV_i, lemS.down, lemC.down, Int.reduceBEq, Nat.reduceAdd, Nat.reduceLeDiff, reduceIte, Nat.reduceEqDiff, Int.reduceLT, Int.reduceLE, Int.reduceGT, Int.reduceGE, Int.reduceEq, Int.reduceAdd, Int.reduceSub, Int.reduceMul, reduceCtorEq, k1, hc])))
    exact ⟨.inr rfl, by (simp only [yq26.down, cintV_i, lemS.down, lemC.down, Int.reduceBEq, Nat.reduceAdd, Nat.reduceLeDiff, reduceIte, Nat.reduceEqDiff, Int.reduceLT, Int.reduceLE, Int.reduceGT, Int.reduceGE, Int.reduceEq, Int.reduceAdd, Int.reduceSub, Int.reduceMul, reduceCtorEq]) <;> rfl, Grows.refl h⟩
  · (repeat (first | refine wpk_seq ?_ | refine wpk_block ?_ | refine wpk_scope ?_ | refine wpk_skip ?_ | refine kont_code ?_ | refine kont_blk ?_ | refine kont_nil ?_ | refine wpk_exit ?_ | refine exit_code ?_ | refine exit_lp ?_ | refine exit_here ?_ | refine exit_there (by decide) ?_ | refine wpk_ret ?_ | ((first | refine wpk_ops ?_ | refine wpk_draw0 ?_ | refine wpk_drawS rfl rfl ?_ | refine wpk_drawC rfl ?_ | refine wpk_condE ?_); simp only [yq26.down, cintV_i, lemS.down, lemC.down, Int.reduceBEq, Nat.reduceAdd, Nat.reduceLeDiff, reduceIte, Nat.reduceEqDiff, Int.reduceLT, Int.reduceLE, Int.reduceGT, Int.reduceGE, Int.reduceEq, Int.reduceAdd, Int.reduceSub, Int.reduceMul, reduceCtorEq, k1, hc, c1])))
    exact ⟨.inr rfl, by (simp only [yq26.down, cintV_i, lemS.down, lemC.down, Int.reduceBEq, Nat.reduceAdd, Nat.reduceLeDiff, reduceIte, Nat.reduceEqDiff, Int.reduceLT, Int.reduceLE, Int.reduceGT, Int.reduceGE, Int.reduceEq, Int.reduceAdd, Int.reduceSub, Int.reduceMul, reduceCtorEq]) <;> rfl, Grows.refl h⟩
end Go.X
end

section
open Go Go.X
namespace Go.X
set_option linter.unusedVariables false
def ringKey (s : List UInt8) (i : Nat) : List UInt8 := tagged 75 [s, [UInt8.ofNat i]]
def ringKeys (s : List UInt8) (n : Nat) : List (List UInt8) := (List.range n).map (ringKey s)
theorem ringKeys_len (s : List UInt8) (n : Nat) : (ringKeys s n).length = n := by simp [ringKeys]
theorem ringKeys_get {s : List UInt8} {n i : Nat} (hi : i < n) : (ringKeys s n).getD i [] = ringKey s i := by
  simp [ringKeys, List.getD_eq_getElem?_getD, List.getElem?_map, hi]
theorem ringKeys_ok (s : List UInt8) (n : Nat) : keysOk (ringKeys s n) = true := by
  unfold keysOk ringKeys
  rw [List.all_eq_true]
  intro k hk
  obtain ⟨i, _, rfl⟩ := List.mem_map.1 hk
  refine Nat.ble_eq_true_of_le ?_
  unfold ringKey
  rw [tagged_len]; decide
theorem fill2s {z w : Value} {a b : ByteArray} : fillV [z, w] [(0, 1, .string a), (1, 1, .string b)] = some [.string a, .string b] := by simp [fillV, cellsOf_str, putN]
theorem two_strs {h : Heap} {a b : List UInt8} : strsAt (h.new [.string (strOf a), .string (strOf b)]) (.slice (some ⟨h.next, 0, none⟩) 2 2) = some [a, b] :=
  (Own.newSlice (h := h) (l := cellsOfStrs [a, b]) (n := 2) (esz := 1) (sp := none) rfl (.inl rfl)).strs
theorem cellsOfStrs_app {a b : List (List UInt8)} : cellsOfStrs (a ++ b) = cellsOfStrs a ++ cellsOfStrs b := by simp [cellsOfStrs]
theorem NewRing_run (pr : Prog) (ht : pr.prim 64 = some taggedG) (hn : pr.prim 27 = none) (hc : pr.code 27 = some xq27) (h : Heap) (s : List UInt8) (n : Nat) (hb : n ≤ 16) (hs : s.length + 2000 ≤ roomX) :
    ∃ v h', cfi pr 27 [.string (strOf s), .int .i64 (n : Int)] h = some (v, h') ∧ v = .tuple #[.pointer (some ⟨h.next, 0, none⟩), .int .i64 0] ∧ (∃ w, Var h' h.next [w] ∧ Own h' (fun A => h.next ≤ A ∧ A ≠ h.next) 1 w n (cellsOfStrs (ringKeys s n))) ∧ Grows h h' := by
  refine cfi_wp hn hc rfl ?_
  unfold xq27
  dsimp only [initFr]
  refine wpk.out (k := []) ?_
  have hr64 : roomX = 140737488355328 := rfl
  have d1 : decide ((n : Int) < 0) = false := by simp
  have d2 : decide ((n : Int) > 16) = false := by simp; omega
  have hz : aggV (fillV [.slice none 0 0] []) = some (.agg [Value.slice none 0 0].toArray) := rfl
  (repeat (first | refine wpk_seq ?_ | refine wpk_block ?_ | refine wpk_scope ?_ | refine wpk_skip ?_ | refine kont_code ?_ | refine kont_blk ?_ | refine kont_nil ?_ | refine wpk_exit ?_ | refine exit_code ?_ | refine exit_lp ?_ | refine exit_here ?_ | refine exit_there (by decide) ?_ | refine wpk_ret ?_ | ((first | refine wpk_ops ?_ | refine wpk_draw0 ?_ | refine wpk_drawS rfl rfl ?_ | refine wpk_drawC rfl ?_ | refine wpk_condE ?_); simp only [yq27.down, cintV_i, lemS.down, lemC.down, Int.reduceBEq, Nat.reduceAdd, Nat.reduceLeDiff, reduceIte, Nat.reduceEqDiff, Int.reduceLT, Int.reduceLE, Int.reduceGT, Int.reduceGE, Int.reduceEq, Int.reduceAdd, Int.reduceSub, Int.reduceMul, reduceCtorEq, lemH.down, d1, d2, hz])))
  refine wpk_loop_inv (fun m t g => ∃ i w, m = n - i ∧ i ≤ n ∧ Var g h.next [w] ∧ Own g (fun A => h.next ≤ A ∧ A ≠ h.next) 1 w i (cellsOfStrs (ringKeys s i)) ∧ Grows h g ∧ t.get 0 = .string (strOf s) ∧ t.get 6 = .pointer (some ⟨h.next, 0, none⟩) ∧ t.get 16 = .int .i64 (n : Int) ∧ t.get 17 = .int .i64 (i : Int)) ?_ n _ _ ⟨0, _, rfl, by omega, Var.new_self, Own.nil, Grows.new, by simp only [yq27.down, cintV_i, lemS.down, lemC.down, Int.reduceBEq, Nat.reduceAdd, Nat.reduceLeDiff, reduceIte, Nat.reduceEqDiff, Int.reduceLT, Int.reduceLE, Int.reduceGT, Int.reduceGE, Int.reduceEq, Int.reduceAdd, Int.reduceSub, Int.reduceMul, reduceCtorEq], by simp only [yq27.down, cintV_i, lemS.down, lemC.down, Int.reduceBEq, Nat.reduceAdd, Nat.reduceLeDiff, reduceIte, Nat.reduceEqDiff, Int.reduceLT, Int.reduceLE, Int.reduceGT, Int.reduceGE, Int.reduceEq, Int.reduceAdd, Int.reduceSub, Int.reduceMul, reduceCtorEq], by simp only [yq27.down, cintV_i, lemS.down, lemC.down, Int.reduceBEq, Nat.reduceAdd, Nat.reduceLeDiff, reduceIte, Nat.reduceEqDiff, Int.reduceLT, Int.reduceLE, Int.reduceGT, Int.reduceGE, Int.reduceEq, Int.reduceAdd, Int.reduceSub, Int.reduceMul, reduceCtorEq], by (simp only [yq27.down, cintV_i, lemS.down, lemC.down, Int.reduceBEq, Nat.reduceAdd, Nat.reduceLeDiff, reduceIte, Nat.reduceEqDiff, Int.reduceLT, Int.reduceLE, Int.reduceGT, Int.reduceGE, Int.reduceEq, Int.reduceAdd, Int.reduceSub, Int.reduceMul, reduceCtorEq]) <;> rfl⟩
  rintro m t g ⟨i, w, rfl, hi, gV, gO, gg, t0, t6, t16, t17⟩ hnext
  refine xq27_9k ?_
  dsimp only [xq27_9b]
  (repeat (first | refine wpk_seq ?_ | refine wpk_block ?_ | refine wpk_scope ?_ | refine wpk_skip ?_ | refine kont_code ?_ | refine kont_blk ?_ | refine kont_nil ?_ | refine wpk_exit ?_ | refine exit_code ?_ | refine exit_lp ?_ | refine exit_here ?_ | refine exit_there (by decide) ?_ | refine wpk_ret ?_ | ((first | refine wpk_ops ?_ | refine wpk_draw0 ?_ | refine wpk_drawS rfl rfl ?_ | refine wpk_drawC rfl ?_ | refine wpk_condE ?_); simp only [yq27.down, cintV_i, lemS.down, lemC.down, Int.reduceBEq, Nat.reduceAdd, Nat.reduceLeDiff, reduceIte, Nat.reduceEqDiff, Int.reduceLT, Int.reduceLE, Int.reduceGT, Int.reduceGE, Int.reduceEq, Int.reduceAdd, Int.reduceSub, Int.reduceMul, reduceCtorEq, lemH.down, lemW.down, t0, t6, t16, t17])))
  refine ⟨fun hlt => ?_, fun hge => ?_⟩
  · have hi' : i < n := by omega
    have hlt2 : h.next < g.next := gV.1
    have ww : IntKind.i64.wrap ((i : Int) + 1) = ((i + 1 : Nat) : Int) := by rw [wrap_i64 (by omega) (by omega)]; omega
    have c := uw_cint (k := .u8) (k' := .i64) u8_signed (n := i)
    have bc := byte_cell (p := i) (by omega) (h := g)
    have gV1 := gV.new_old (m := [uw .u8 i])
    have gV2 := gV1.new_old (m := [.string (strOf s), .string (strOf [UInt8.ofNat i])])
    have gV3 := gV2.new_old (m := [.string (strOf (ringKey s i))])
    have bc2 : cb2sV ((g.new [uw .u8 i]).new [.string (strOf s), .string (strOf [UInt8.ofNat i])]) (.slice (some ⟨g.next, 0, none⟩) 1 1) = some (.string (strOf [UInt8.ofNat i])) := by
      have hO := (Own.newSlice (h := g) (l := cellsOfBytes [UInt8.ofNat i]) (n := 1) (esz := 1) (sp := none) rfl (.inl rfl)).grow (Grows.new (l := [.string (strOf s), .string (strOf [UInt8.ofNat i])]))
      have := hO.cb2s
      rw [cellsOfBytes_one] at this
      exact this
    have ts := two_strs (h := g.new [uw .u8 i]) (a := s) (b := [UInt8.ofNat i])
    rw [new_next] at ts
    have tg := cfi_at ht (taggedG_at (p := 75) ts (by decide) (by simp [partsB, partB, fourB]; omega))
    have tg : cfi pr 64 [.int .u8 75, .slice (some ⟨g.next + 1, 0, none⟩) 2 2] ((g.new [uw .u8 i]).new [.string (strOf s), .string (strOf [UInt8.ofNat i])]) = some (.string (strOf (ringKey s i)), (g.new [uw .u8 i]).new [.string (strOf s), .string (strOf [UInt8.ofNat i])]) := tg
    have gO3 := ((gO.grow (Grows.new (l := [uw .u8 i]))).grow (Grows.new (l := [.string (strOf s), .string (strOf [UInt8.ofNat i])]))).grow (Grows.new (l := [.string (strOf (ringKey s i))]))
    have hs1 := (Var.new_self (h := (g.new [uw .u8 i]).new [.string (strOf s), .string (strOf [UInt8.ofNat i])]) (l := [.string (strOf (ringKey s i))])).src (n := 1) (esz := 1) (bytes := 16) (s := w) (sp := none) (c := 1) rfl (by decide)
    obtain ⟨w', g4, e4, gO4, k4⟩ := gO3.append (bytes := 16) (m := 1) (new := [.string (strOf (ringKey s i))]) rfl rfl (by decide) (by decide) (by omega)
    rw [e4, new_next, new_next] at hs1
    have gV4 := gV3.keep k4 (fun e => e.2 rfl)
    have st := gO4.store (i := 0) gV4 (by simp)
    simp only [List.set_cons_zero] at st
    (repeat (first | refine wpk_seq ?_ | refine wpk_block ?_ | refine wpk_scope ?_ | refine wpk_skip ?_ | refine kont_code ?_ | refine kont_blk ?_ | refine kont_nil ?_ | refine wpk_exit ?_ | refine exit_code ?_ | refine exit_lp ?_ | refine exit_here ?_ | refine exit_there (by decide) ?_ | refine wpk_ret ?_ | ((first | refine wpk_ops ?_ | refine wpk_draw0 ?_ | refine wpk_drawS rfl rfl ?_ | refine wpk_drawC rfl ?_ | refine wpk_condE ?_); simp only [yq27.down, cintV_i, lemS.down, lemC.down, Int.reduceBEq, Nat.reduceAdd, Nat.reduceLeDiff, reduceIte, Nat.reduceEqDiff, Int.reduceLT, Int.reduceLE, Int.reduceGT, Int.reduceGE, Int.reduceEq, Int.reduceAdd, Int.reduceSub, Int.reduceMul, reduceCtorEq, lemH.down, lemW.down, t0, t6, t16, t17, c, fill2s, bc, bc2, gV.load, gV1.load, gV2.load, gV3.load, List.getElem?_cons_zero, tg, hs1, st])))
    refine ⟨⟨?_, ?_⟩, ?_, ?_⟩
    · (refine checkAt_eq rfl rfl rfl ?_ ?_ <;> simp only [yq27.down, cintV_i, lemS.down, lemC.down, Int.reduceBEq, Nat.reduceAdd, Nat.reduceLeDiff, reduceIte, Nat.reduceEqDiff, Int.reduceLT, Int.reduceLE, Int.reduceGT, Int.reduceGE, Int.reduceEq, Int.reduceAdd, Int.reduceSub, Int.reduceMul, reduceCtorEq, lemH.down, t6, gV.load, gV1.load, gV2.load, List.getElem?_cons_zero, r_load1V, load1V_p, r_loadNV, loadNV_p, aggV_some, Option.isSome_some])
    · (refine checkAt_eq rfl rfl rfl ?_ ?_ <;> simp only [yq27.down, cintV_i, lemS.down, lemC.down, Int.reduceBEq, Nat.reduceAdd, Nat.reduceLeDiff, reduceIte, Nat.reduceEqDiff, Int.reduceLT, Int.reduceLE, Int.reduceGT, Int.reduceGE, Int.reduceEq, Int.reduceAdd, Int.reduceSub, Int.reduceMul, reduceCtorEq, lemH.down, bc, bc2, r_load1V, load1V_p, r_loadNV, loadNV_p, aggV_some, Option.isSome_some])
    · (refine checkAt_eq rfl rfl rfl ?_ ?_ <;> simp only [yq27.down, cintV_i, lemS.down, lemC.down, Int.reduceBEq, Nat.reduceAdd, Nat.reduceLeDiff, reduceIte, Nat.reduceEqDiff, Int.reduceLT, Int.reduceLE, Int.reduceGT, Int.reduceGE, Int.reduceEq, Int.reduceAdd, Int.reduceSub, Int.reduceMul, reduceCtorEq, lemH.down, t6, gV.load, gV3.load, List.getElem?_cons_zero, r_load1V, load1V_p, r_loadNV, loadNV_p, aggV_some, Option.isSome_some])
    (repeat (first | refine wpk_seq ?_ | refine wpk_block ?_ | refine wpk_scope ?_ | refine wpk_skip ?_ | refine kont_code ?_ | refine kont_blk ?_ | refine kont_nil ?_ | refine wpk_exit ?_ | refine exit_code ?_ | refine exit_lp ?_ | refine exit_here ?_ | refine exit_there (by decide) ?_ | refine wpk_ret ?_ | ((first | refine wpk_ops ?_ | refine wpk_draw0 ?_ | refine wpk_drawS rfl rfl ?_ | refine wpk_drawC rfl ?_ | refine wpk_condE ?_); simp only [yq27.down, cintV_i, lemS.down, lemC.down, Int.reduceBEq, Nat.reduceAdd, Nat.reduceLeDiff, reduceIte, Nat.reduceEqDiff, Int.reduceLT, Int.reduceLE, Int.reduceGT, Int.reduceGE, Int.reduceEq, Int.reduceAdd, Int.reduceSub, Int.reduceMul, reduceCtorEq, lemH.down, lemW.down, t0, t6, t16, t17, ww])))
    refine hnext (n - (i + 1)) _ _ (by omega) ⟨i + 1, w', rfl, by omega, gV4.wr, ?_, ?_, by simp only [yq27.down, cintV_i, lemS.down, lemC.down, Int.reduceBEq, Nat.reduceAdd, Nat.reduceLeDiff, reduceIte, Nat.reduceEqDiff, Int.reduceLT, Int.reduceLE, Int.reduceGT, Int.reduceGE, Int.reduceEq, Int.reduceAdd, Int.reduceSub, Int.reduceMul, reduceCtorEq, t0], by simp only [yq27.down, cintV_i, lemS.down, lemC.down, Int.reduceBEq, Nat.reduceAdd, Nat.reduceLeDiff, reduceIte, Nat.reduceEqDiff, Int.reduceLT, Int.reduceLE, Int.reduceGT, Int.reduceGE, Int.reduceEq, Int.reduceAdd, Int.reduceSub, Int.reduceMul, reduceCtorEq, t6], by simp only [yq27.down, cintV_i, lemS.down, lemC.down, Int.reduceBEq, Nat.reduceAdd, Nat.reduceLeDiff, reduceIte, Nat.reduceEqDiff, Int.reduceLT, Int.reduceLE, Int.reduceGT, Int.reduceGE, Int.reduceEq, Int.reduceAdd, Int.reduceSub, Int.reduceMul, reduceCtorEq, t16], by simp only [yq27.down, cintV_i, lemS.down, lemC.down, Int.reduceBEq, Nat.reduceAdd, Nat.reduceLeDiff, reduceIte, Nat.reduceEqDiff, Int.reduceLT, Int.reduceLE, Int.reduceGT, Int.reduceGE, Int.reduceEq, Int.reduceAdd, Int.reduceSub, Int.reduceMul, reduceCtorEq]⟩
    · have e : cellsOfStrs (ringKeys s (i + 1)) = cellsOfStrs (ringKeys s i) ++ [.string (strOf (ringKey s i))] := by
        unfold ringKeys
        rw [List.range_succ, List.map_append, cellsOfStrs_app]
        rfl
      rw [e]
      refine (gO4.mono fun A hA => ?_).keep Keeps.wr (fun A hA => hA.2)
      rcases hA with hA | hA
      · exact hA
      · simp only [new_next] at hA
        exact ⟨by omega, by omega⟩
    · have g3 : Grows h (((g.new [uw .u8 i]).new [.string (strOf s), .string (strOf [UInt8.ofNat i])]).new [.string (strOf (ringKey s i))]) := ((gg.trans Grows.new).trans Grows.new).trans Grows.new
      exact (g3.then k4 (fun A hA hS => by omega)).wr (Nat.le_refl _)
  · obtain rfl : i = n := by omega
    (repeat (first | refine wpk_seq ?_ | refine wpk_block ?_ | refine wpk_scope ?_ | refine wpk_skip ?_ | refine kont_code ?_ | refine kont_blk ?_ | refine kont_nil ?_ | refine wpk_exit ?_ | refine exit_code ?_ | refine exit_lp ?_ | refine exit_here ?_ | refine exit_there (by decide) ?_ | refine wpk_ret ?_ | ((first | refine wpk_ops ?_ | refine wpk_draw0 ?_ | refine wpk_drawS rfl rfl ?_ | refine wpk_drawC rfl ?_ | refine wpk_condE ?_); simp only [yq27.down, cintV_i, lemS.down, lemC.down, Int.reduceBEq, Nat.reduceAdd, Nat.reduceLeDiff, reduceIte, Nat.reduceEqDiff, Int.reduceLT, Int.reduceLE, Int.reduceGT, Int.reduceGE, Int.reduceEq, Int.reduceAdd, Int.reduceSub, Int.reduceMul, reduceCtorEq, lemH.down, lemW.down, t0, t6, t16, t17])))
    exact ⟨.inr rfl, _, rfl, by simp only [yq27.down, cintV_i, lemS.down, lemC.down, Int.reduceBEq, Nat.reduceAdd, Nat.reduceLeDiff, reduceIte, Nat.reduceEqDiff, Int.reduceLT, Int.reduceLE, Int.reduceGT, Int.reduceGE, Int.reduceEq, Int.reduceAdd, Int.reduceSub, Int.reduceMul, reduceCtorEq, t6], ⟨w, gV, gO⟩, gg⟩
end Go.X
end

section
open Go Go.X
namespace Go.X
set_option linter.unusedVariables false
/-- a ring of those keys lies there -/
def Ring (h : Heap) (R N : Nat) (l : List (List UInt8)) : Prop := ∃ w, Var h R [w] ∧ Own h (fun A => N ≤ A ∧ A ≠ R) 1 w l.length (cellsOfStrs l)
theorem Ring.at {h : Heap} {R N : Nat} {l : List (List UInt8)} (hr : Ring h R N l) {sp : Option Nat} : ringAt h ⟨R, 0, sp⟩ = some l := by
  obtain ⟨w, hv, ho⟩ := hr
  have := hv.load (i := 0) (sp := sp)
  simp only [ringAt, this, List.getElem?_cons_zero, ho.strs]
theorem Ring.grow {h h' : Heap} {R N : Nat} {l : List (List UInt8)} (hr : Ring h R N l) (hg : Grows h h') : Ring h' R N l := by
  obtain ⟨w, hv, ho⟩ := hr
  exact ⟨w, hv.grow hg, ho.grow hg⟩
end Go.X
end

section
open Go Go.X Go.Proofs Go.RowKit
namespace Go.X
set_option linter.unusedVariables false
/-- a function that reads memory, and leaves it as it is -/
theorem Tab.read {P : Program} {l : List (Nat × Prim)} (ok : XOK P (Tab P l)) {f : Nat} {fn : Func} {F : XF} (hf : P.funcs[f]? = some fn) (hF : funcC P fn = some F) {g : Prim}
    (hg : ∀ args h v h', g args h = some (v, h') → h' = h ∧ args.length = F.nargs ∧ flatV v = true ∧ ∀ n, HWF (h.at n) → Comes (Tab P l) F args (h.at n) v) : XOK P (Tab P ((f, g) :: l)) := by
  refine Tab.cons ok fun args h v h' hr => ?_
  obtain ⟨rfl, h2, h3, h4⟩ := hg args h v h' hr
  exact ⟨callable_of hf hF, Nat.le_refl _, callrel_of_comes ok hf hF h2 (fun _ _ _ _ _ _ => ⟨v, flat_rel h3⟩) fun n _ wf => h4 n wf⟩
theorem fourS_ok {args : List Value} {v : Value} (h : fourS args = some v) : args.length = 1 ∧ flatV v = true ∧ ∀ pr h, Comes pr xq89 args h v := by
  unfold fourS at h
  split at h
  · rename_i n
    split at h
    · rename_i hc
      cases h
      refine ⟨rfl, rfl, fun pr h => ?_⟩
      have := four_ok pr n.toNat (by omega) h
      rw [show (n.toNat : Int) = n by omega] at this
      exact this
    · cases h
  · cases h
theorem taggedG_ok {args : List Value} {h : Heap} {v : Value} {h' : Heap} (hr : taggedG args h = some (v, h')) : h' = h ∧ args.length = 2 ∧ flatV v = true ∧ (∀ pr n, ShaTab pr → pr.prim 89 = some (pureG fourS) → HWF (h.at n) → Comes pr xq64 args (h.at n) v) ∧ (∀ pr n, pr.prim 18 = some (pureG shaS) → HWF (h.at n) → Comes pr xq28 args (h.at n) v) := by
  unfold taggedG at hr
  split at hr
  · rename_i p w
    split at hr
    · rename_i l hl
      split at hr
      · rename_i hc
        cases hr
        obtain ⟨q, rfl⟩ : ∃ q : Nat, p = (q : Int) := ⟨p.toNat, by omega⟩
        have e : Value.int .u8 (q : Int) = uw .u8 q := nat_u8 (by omega)
        rw [Int.toNat_natCast, e]
        refine ⟨rfl, rfl, rfl, fun pr n T h4 wf => ?_, fun pr n h9 wf => ?_⟩
        · exact tagged_ok pr T h4 q (by omega) _ wf w l hl hc.2.2
        · exact rtagged_ok pr h9 q (by omega) _ wf w l hl hc.2.2
      · cases hr
    · cases hr
  · cases hr
theorem keyG_ok {args : List Value} {h : Heap} {v : Value} {h' : Heap} (hr : keyG args h = some (v, h')) : h' = h ∧ args.length = 2 ∧ flatV v = true ∧ ∀ pr n, Comes pr xq23 args (h.at n) v := by
  unfold keyG at hr
  split at hr
  · cases hr
    exact ⟨rfl, rfl, rfl, fun pr n => keyN_ok pr _ _⟩
  · rename_i a i
    split at hr
    · rename_i l hl
      cases hr
      exact ⟨rfl, rfl, rfl, fun pr n => key_ok pr (h.at n) a l i hl⟩
    · cases hr
  · cases hr
theorem ringLenG_ok {args : List Value} {h : Heap} {v : Value} {h' : Heap} (hr : ringLenG args h = some (v, h')) : h' = h ∧ args.length = 1 ∧ flatV v = true ∧ ∀ pr n, Comes pr xq25 args (h.at n) v := by
  unfold ringLenG at hr
  split at hr
  · cases hr
    exact ⟨rfl, rfl, rfl, fun pr n => lenN_ok pr _⟩
  · rename_i a
    split at hr
    · rename_i l hl
      cases hr
      exact ⟨rfl, rfl, rfl, fun pr n => ringLen_ok pr (h.at n) a l hl⟩
    · cases hr
  · cases hr
theorem tagNG_ok (pr : Prog) (hp : pr.prim 23 = some keyG) (i : Int) (s : ByteArray) (h : Heap) : Comes pr xq24 [.pointer none, .int .i64 i, .string s] h (.tuple #[.string (strOf []), .int .i64 2]) := by
  apply Comes.of
  unfold xq24
  dsimp only [initFr]
  have k1 : cfi pr 23 [.pointer none, .int .i64 i] h = some (.tuple #[.string (strOf []), .bool false], h) := cfi_at hp rfl
  (repeat (first | refine wpk_seq ?_ | refine wpk_block ?_ | refine wpk_scope ?_ | refine wpk_skip ?_ | refine kont_code ?_ | refine kont_blk ?_ | refine kont_nil ?_ | refine wpk_exit ?_ | refine exit_code ?_ | refine exit_lp ?_ | refine exit_here ?_ | refine exit_there (by decide) ?_ | refine wpk_ret ?_ | ((first | refine wpk_ops ?_ | refine wpk_draw0 ?_ | refine wpk_drawS rfl rfl ?_ | refine wpk_drawC rfl ?_ | refine wpk_condE ?_); simp only [yq24.down, cintV_i, lemS.down, lemC.down, Int.reduceBEq, Nat.reduceAdd, Nat.reduceLeDiff, reduceIte, Nat.reduceEqDiff, Int.reduceLT, Int.reduceLE, Int.reduceGT, Int.reduceGE, Int.reduceEq, Int.reduceAdd, Int.reduceSub, Int.reduceMul, reduceCtorEq, k1])))
  exact ⟨.inr rfl, by simp only [yq24.down, cintV_i, lemS.down, lemC.down, Int.reduceBEq, Nat.reduceAdd, Nat.reduceLeDiff, reduceIte, Nat.reduceEqDiff, Int.reduceLT, Int.reduceLE, Int.reduceGT, Int.reduceGE, Int.reduceEq, Int.reduceAdd, Int.reduceSub, Int.reduceMul, reduceCtorEq], Grows.refl h⟩
theorem checkNG_ok (pr : Prog) (hp : pr.prim 23 = some keyG) (i : Int) (s t : ByteArray) (h : Heap) : Comes pr xq26 [.pointer none, .int .i64 i, .string s, .string t] h (.bool false) := by
  apply Comes.of
  unfold xq26
  dsimp only [initFr]
  have k1 : cfi pr 23 [.pointer none, .int .i64 i] h = some (.tuple #[.string (strOf []), .bool false], h) := cfi_at hp rfl
  (repeat (first | refine wpk_seq ?_ | refine wpk_block ?_ | refine wpk_scope ?_ | refine wpk_skip ?_ | refine kont_code ?_ | refine kont_blk ?_ | refine kont_nil ?_ | refine wpk_exit ?_ | refine exit_code ?_ | refine exit_lp ?_ | refine exit_here ?_ | refine exit_there (by decide) ?_ | refine wpk_ret ?_ | ((first | refine wpk_ops ?_ | refine wpk_draw0 ?_ | refine wpk_drawS rfl rfl ?_ | refine wpk_drawC rfl ?_ | refine wpk_condE ?_); simp only [yq26.down, cintV_i, lemS.down, lemC.down, Int.reduceBEq, Nat.reduceAdd, Nat.reduceLeDiff, reduceIte, Nat.reduceEqDiff, Int.reduceLT, Int.reduceLE, Int.reduceGT, Int.reduceGE, Int.reduceEq, Int.reduceAdd, Int.reduceSub, Int.reduceMul, reduceCtorEq, k1])))
  exact ⟨.inr rfl, by simp only [yq26.down, cintV_i, lemS.down, lemC.down, Int.reduceBEq, Nat.reduceAdd, Nat.reduceLeDiff, reduceIte, Nat.reduceEqDiff, Int.reduceLT, Int.reduceLE, Int.reduceGT, Int.reduceGE, Int.reduceEq, Int.reduceAdd, Int.reduceSub, Int.reduceMul, reduceCtorEq], Grows.refl h⟩
theorem ringTagG_ok {args : List Value} {h : Heap} {v : Value} {h' : Heap} (hr : ringTagG args h = some (v, h')) : h' = h ∧ args.length = 3 ∧ flatV v = true ∧ ∀ pr n, pr.prim 23 = some keyG → pr.prim 17 = some (pureG tagS) → Comes pr xq24 args (h.at n) v := by
  unfold ringTagG at hr
  split at hr
  · cases hr
    exact ⟨rfl, rfl, rfl, fun pr n h1 h2 => tagNG_ok pr h1 _ _ _⟩
  · rename_i a i s
    split at hr
    · rename_i l hl
      split at hr
      · rename_i hc
        cases hr
        refine ⟨rfl, rfl, rfl, fun pr n h1 h2 => ?_⟩
        have := ringTag_ok pr h1 h2 (h.at n) a l i s.data.toList hl hc.1 hc.2
        rw [str_of] at this
        exact this
      · cases hr
    · cases hr
  · cases hr
theorem ringCheckG_ok {args : List Value} {h : Heap} {v : Value} {h' : Heap} (hr : ringCheckG args h = some (v, h')) : h' = h ∧ args.length = 4 ∧ flatV v = true ∧ ∀ pr n, pr.prim 23 = some keyG → pr.prim 20 = some (pureG checkS) → Comes pr xq26 args (h.at n) v := by
  unfold ringCheckG at hr
  split at hr
  · cases hr
    exact ⟨rfl, rfl, rfl, fun pr n h1 h2 => checkNG_ok pr h1 _ _ _ _⟩
  · rename_i a i s t
    split at hr
    · rename_i l hl
      split at hr
      · rename_i hc
        cases hr
        refine ⟨rfl, rfl, rfl, fun pr n h1 h2 => ?_⟩
        have := ringCheck_ok pr h1 h2 (h.at n) a l i s.data.toList t.data.toList hl hc.1 hc.2
        rw [str_of, str_of] at this
        exact this
      · cases hr
    · cases hr
  · cases hr
def R1 : List (Nat × Prim) := (89, pureG fourS) :: T15
def R2 : List (Nat × Prim) := (64, taggedG) :: R1
def R3 : List (Nat × Prim) := (28, taggedG) :: R2
def R4 : List (Nat × Prim) := (23, keyG) :: R3
def R5 : List (Nat × Prim) := (25, ringLenG) :: R4
def R6 : List (Nat × Prim) := (24, ringTagG) :: R5
def R7 : List (Nat × Prim) := (26, ringCheckG) :: R6
theorem rk1 : XOK Try.prog (Tab Try.prog R1) := Tab.pure ok15 Try.func89 cq89 fun args v h => ⟨(fourS_ok h).1, (fourS_ok h).2.1, fun g => (fourS_ok h).2.2 _ g⟩
theorem shaR1 : ShaTab (Tab Try.prog R1) := ⟨rfl, rfl, rfl, rfl, rfl, codeAt Try.func104 cq104, rfl, codeAt Try.func85 cq85, rfl, codeAt Try.func86 cq86, rfl, codeAt Try.func87 cq87⟩
theorem rk2 : XOK Try.prog (Tab Try.prog R2) := Tab.read rk1 Try.func64 cq64 fun args h v h' hr => ⟨(taggedG_ok hr).1, (taggedG_ok hr).2.1, (taggedG_ok hr).2.2.1, fun n wf => (taggedG_ok hr).2.2.2.1 _ n shaR1 rfl wf⟩
theorem rk3 : XOK Try.prog (Tab Try.prog R3) := Tab.read rk2 Try.func28 cq28 fun args h v h' hr => ⟨(taggedG_ok hr).1, (taggedG_ok hr).2.1, (taggedG_ok hr).2.2.1, fun n wf => (taggedG_ok hr).2.2.2.2 _ n rfl wf⟩
theorem rk4 : XOK Try.prog (Tab Try.prog R4) := Tab.read rk3 Try.func23 cq23 fun args h v h' hr => ⟨(keyG_ok hr).1, (keyG_ok hr).2.1, (keyG_ok hr).2.2.1, fun n wf => (keyG_ok hr).2.2.2 _ n⟩
theorem rk5 : XOK Try.prog (Tab Try.prog R5) := Tab.read rk4 Try.func25 cq25 fun args h v h' hr => ⟨(ringLenG_ok hr).1, (ringLenG_ok hr).2.1, (ringLenG_ok hr).2.2.1, fun n wf => (ringLenG_ok hr).2.2.2 _ n⟩
theorem rk6 : XOK Try.prog (Tab Try.prog R6) := Tab.read rk5 Try.func24 cq24 fun args h v h' hr => ⟨(ringTagG_ok hr).1, (ringTagG_ok hr).2.1, (ringTagG_ok hr).2.2.1, fun n wf => (ringTagG_ok hr).2.2.2 _ n rfl rfl⟩
theorem rk7 : XOK Try.prog (Tab Try.prog R7) := Tab.read rk6 Try.func26 cq26 fun args h v h' hr => ⟨(ringCheckG_ok hr).1, (ringCheckG_ok hr).2.1, (ringCheckG_ok hr).2.2.1, fun n wf => (ringCheckG_ok hr).2.2.2 _ n rfl rfl⟩
end Go.X
end
