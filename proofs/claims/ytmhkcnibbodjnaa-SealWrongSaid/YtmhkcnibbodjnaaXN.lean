/- The laws of sealing in plain words, the table. -/
import Derived.Test.YtmhkcnibbodjnaaXJ
import Derived.Test.YtmhkcnibbodjnaaXL
import Derived.Test.YtmhkcnibbodjnaaXM
set_option linter.unusedSimpArgs false
set_option linter.unusedVariables false
set_option maxHeartbeats 2000000
section
open Go Go.X
namespace Go.X
set_option linter.unusedVariables false
theorem saidS_ok {args : List Value} {v : Value} (h : saidS args = some v) : args.length = 3 ∧ flatV v = true ∧ ∀ pr h, pr.prim 90 = some (pureG wnumS) → pr.prim 64 = some taggedG → Comes pr x_seal_said args h v := by
  unfold saidS at h
  split at h
  · rename_i a b s
    split at h
    · rename_i hc
      cases h
      refine ⟨rfl, rfl, fun pr h h1 h2 => ?_⟩
      have := said_ok pr h1 h2 a.toNat b.toNat s.data.toList (by omega) (by omega) hc.2.2.2.2 h
      rw [strOf_data, show ((a.toNat : Nat) : Int) = a by omega, show ((b.toNat : Nat) : Int) = b by omega] at this
      exact this
    · cases h
  · cases h
def sealG : Prim := fun args h => match args with
  | [.pointer (some a), .int .i64 x, .int .i64 y, .string s] => match ringAt h a with
    | some l => if keysOk l = true then some (.tuple #[.string (strOf (sealP l x y s.data.toList).1), .int .i64 ((sealP l x y s.data.toList).2 : Int)], h) else none
    | none => none
  | _ => none
theorem sealG_at {h : Heap} {a : Addr} {l : List (List UInt8)} {x y : Int} {s : List UInt8} (hr : ringAt h a = some l) (hk : keysOk l = true) : sealG [.pointer (some a), .int .i64 x, .int .i64 y, .string (strOf s)] h = some (.tuple #[.string (strOf (sealP l x y s).1), .int .i64 ((sealP l x y s).2 : Int)], h) := by
  simp only [sealG, hr, data_strOf]
  rw [if_pos hk]
theorem sealG_ok {args : List Value} {h : Heap} {v : Value} {h' : Heap} (hr : sealG args h = some (v, h')) : h' = h ∧ args.length = 4 ∧ flatV v = true ∧ ∀ pr n, WireTab pr → pr.prim 65 = some (pureG saidS) → pr.prim 24 = some ringTagG → Comes pr x_seal_Seal args (h.at n) v := by
  unfold sealG at hr
  split at hr
  · rename_i a x y s
    split at hr
    · rename_i l hl
      split at hr
      · rename_i hc
        cases hr
        refine ⟨rfl, rfl, rfl, fun pr n T h1 h2 => ?_⟩
        have := seal_run pr T h1 h2 (h.at n) a l hl hc x y s.data.toList
        rw [strOf_data] at this
        exact this
      · cases hr
    · cases hr
  · cases hr
def openG : Prim := fun args h => match args with
  | [.pointer (some a), .int .i64 b, .string s] => match ringAt h a with
    | some l => if keysOk l = true ∧ s.data.toList.length + 4000 ≤ roomX then some (.tuple #[.int .i64 ((openP l b s.data.toList).1 : Int), .string (strOf (openP l b s.data.toList).2.1), .int .i64 ((openP l b s.data.toList).2.2 : Int)], h) else none
    | none => none
  | _ => none
theorem openG_at {h : Heap} {a : Addr} {l : List (List UInt8)} {b : Int} {s : List UInt8} (hr : ringAt h a = some l) (hk : keysOk l = true) (hs : s.length + 4000 ≤ roomX) : openG [.pointer (some a), .int .i64 b, .string (strOf s)] h = some (.tuple #[.int .i64 ((openP l b s).1 : Int), .string (strOf (openP l b s).2.1), .int .i64 ((openP l b s).2.2 : Int)], h) := by
  simp only [openG, hr, data_strOf]
  rw [if_pos ⟨hk, hs⟩]
theorem openG_ok {args : List Value} {h : Heap} {v : Value} {h' : Heap} (hr : openG args h = some (v, h')) : h' = h ∧ args.length = 3 ∧ flatV v = true ∧ ∀ pr n, WireTab pr → pr.prim 65 = some (pureG saidS) → pr.prim 26 = some ringCheckG → HWF (h.at n) → Comes pr x_seal_Open args (h.at n) v := by
  unfold openG at hr
  split at hr
  · rename_i a b s
    split at hr
    · rename_i l hl
      split at hr
      · rename_i hc
        cases hr
        refine ⟨rfl, rfl, rfl, fun pr n T h1 h2 wf => ?_⟩
        have := open_run pr T h1 h2 (h.at n) wf a l hl hc.1 b s.data.toList hc.2
        rw [strOf_data] at this
        exact this
      · cases hr
    · cases hr
  · cases hr
def text3S : List Value → Option Value
  | [.string s] => if s.data.toList.length + 4 ≤ roomX then some (.string (strOf (numB s.data.toList.length 4 ++ s.data.toList))) else none
  | _ => none
theorem text3S_at {s : List UInt8} (hs : s.length + 4 ≤ roomX) : text3S [.string (strOf s)] = some (.string (strOf (numB s.length 4 ++ s))) := by
  simp only [text3S, data_strOf]
  rw [if_pos hs]
theorem text3_ok (pr : Prog) (hn : pr.prim 40 = some (pureG wnumS)) (s : List UInt8) (hs : s.length + 4 ≤ roomX) (h : Heap) : Comes pr x_ref03_Text [.string (strOf s)] h (.string (strOf (numB s.length 4 ++ s))) := by
  apply Comes.of
  unfold x_ref03_Text
  dsimp only [initFr]
  have hr64 : roomX = 140737488355328 := rfl
  have c := uw_cint (k := .u64) (k' := .i64) u64_signed (n := s.length)
  have n1 := cfi_pure (h := h) hn (wnumS_at (n := s.length) (k := 4) (by omega) (by decide))
  have n1 : cfi pr 40 [uw .u64 s.length, .int .i64 4] h = _ := n1
  have ad := bin_cat (a := numB s.length 4) (b := s) (by rw [numB_len]; omega)
  (repeat (first | refine wpk_seq ?_ | refine wpk_block ?_ | refine wpk_scope ?_ | refine wpk_skip ?_ | refine kont_code ?_ | refine kont_blk ?_ | refine kont_nil ?_ | refine wpk_exit ?_ | refine exit_code ?_ | refine exit_lp ?_ | refine exit_here ?_ | refine exit_there (by decide) ?_ | refine wpk_ret ?_ | ((first | refine wpk_ops ?_ | refine wpk_draw0 ?_ | refine wpk_drawS rfl rfl ?_ | refine wpk_drawC rfl ?_ | refine wpk_condE ?_); simp only [y_ref03_Text.down, cintV_i, lemS.down, lemC.down, Int.reduceBEq, Nat.reduceAdd, Nat.reduceLeDiff, reduceIte, Nat.reduceEqDiff, Int.reduceLT, Int.reduceLE, Int.reduceGT, Int.reduceGE, Int.reduceEq, Int.reduceAdd, Int.reduceSub, Int.reduceMul, reduceCtorEq, c, n1, ad])))
  exact ⟨.inr rfl, by simp only [y_ref03_Text.down, cintV_i, lemS.down, lemC.down, Int.reduceBEq, Nat.reduceAdd, Nat.reduceLeDiff, reduceIte, Nat.reduceEqDiff, Int.reduceLT, Int.reduceLE, Int.reduceGT, Int.reduceGE, Int.reduceEq, Int.reduceAdd, Int.reduceSub, Int.reduceMul, reduceCtorEq], Grows.refl h⟩
theorem text3S_ok {args : List Value} {v : Value} (h : text3S args = some v) : args.length = 1 ∧ flatV v = true ∧ ∀ pr h, pr.prim 40 = some (pureG wnumS) → Comes pr x_ref03_Text args h v := by
  unfold text3S at h
  split at h
  · rename_i s
    split at h
    · rename_i hc
      cases h
      refine ⟨rfl, rfl, fun pr h h1 => ?_⟩
      have := text3_ok pr h1 s.data.toList hc h
      rw [strOf_data] at this
      exact this
    · cases h
  · cases h
theorem few16_ok (pr : Prog) (s : List UInt8) (h : Heap) : Comes pr x_law16_few [.string (strOf s)] h (.string (strOf (few s))) := by
  apply Comes.of
  unfold x_law16_few
  dsimp only [initFr]
  (repeat (first | refine wpk_seq ?_ | refine wpk_block ?_ | refine wpk_scope ?_ | refine wpk_skip ?_ | refine kont_code ?_ | refine kont_blk ?_ | refine kont_nil ?_ | refine wpk_exit ?_ | refine exit_code ?_ | refine exit_lp ?_ | refine exit_here ?_ | refine exit_there (by decide) ?_ | refine wpk_ret ?_ | ((first | refine wpk_ops ?_ | refine wpk_draw0 ?_ | refine wpk_drawS rfl rfl ?_ | refine wpk_drawC rfl ?_ | refine wpk_condE ?_); simp only [y_law16_few.down, cintV_i, lemS.down, lemC.down, Int.reduceBEq, Nat.reduceAdd, Nat.reduceLeDiff, reduceIte, Nat.reduceEqDiff, Int.reduceLT, Int.reduceLE, Int.reduceGT, Int.reduceGE, Int.reduceEq, Int.reduceAdd, Int.reduceSub, Int.reduceMul, reduceCtorEq])))
  refine ⟨fun hl => ?_, fun hl => ?_⟩
  · (repeat (first | refine wpk_seq ?_ | refine wpk_block ?_ | refine wpk_scope ?_ | refine wpk_skip ?_ | refine kont_code ?_ | refine kont_blk ?_ | refine kont_nil ?_ | refine wpk_exit ?_ | refine exit_code ?_ | refine exit_lp ?_ | refine exit_here ?_ | refine exit_there (by decide) ?_ | refine wpk_ret ?_ | ((first | refine wpk_ops ?_ | refine wpk_draw0 ?_ | refine wpk_drawS rfl rfl ?_ | refine wpk_drawC rfl ?_ | refine wpk_condE ?_); simp only [y_law16_few.down, cintV_i, lemS.down, lemC.down, Int.reduceBEq, Nat.reduceAdd, Nat.reduceLeDiff, reduceIte, Nat.reduceEqDiff, Int.reduceLT, Int.reduceLE, Int.reduceGT, Int.reduceGE, Int.reduceEq, Int.reduceAdd, Int.reduceSub, Int.reduceMul, reduceCtorEq, cut_toL (s := s) (n := 1000) (by omega)])))
    exact ⟨.inr rfl, by (simp only [y_law16_few.down, cintV_i, lemS.down, lemC.down, Int.reduceBEq, Nat.reduceAdd, Nat.reduceLeDiff, reduceIte, Nat.reduceEqDiff, Int.reduceLT, Int.reduceLE, Int.reduceGT, Int.reduceGE, Int.reduceEq, Int.reduceAdd, Int.reduceSub, Int.reduceMul, reduceCtorEq]) <;> rfl, Grows.refl h⟩
  · (repeat (first | refine wpk_seq ?_ | refine wpk_block ?_ | refine wpk_scope ?_ | refine wpk_skip ?_ | refine kont_code ?_ | refine kont_blk ?_ | refine kont_nil ?_ | refine wpk_exit ?_ | refine exit_code ?_ | refine exit_lp ?_ | refine exit_here ?_ | refine exit_there (by decide) ?_ | refine wpk_ret ?_ | ((first | refine wpk_ops ?_ | refine wpk_draw0 ?_ | refine wpk_drawS rfl rfl ?_ | refine wpk_drawC rfl ?_ | refine wpk_condE ?_); simp only [y_law16_few.down, cintV_i, lemS.down, lemC.down, Int.reduceBEq, Nat.reduceAdd, Nat.reduceLeDiff, reduceIte, Nat.reduceEqDiff, Int.reduceLT, Int.reduceLE, Int.reduceGT, Int.reduceGE, Int.reduceEq, Int.reduceAdd, Int.reduceSub, Int.reduceMul, reduceCtorEq])))
    refine ⟨.inr rfl, ?_, Grows.refl h⟩
    simp only [y_law16_few.down, cintV_i, lemS.down, lemC.down, Int.reduceBEq, Nat.reduceAdd, Nat.reduceLeDiff, reduceIte, Nat.reduceEqDiff, Int.reduceLT, Int.reduceLE, Int.reduceGT, Int.reduceGE, Int.reduceEq, Int.reduceAdd, Int.reduceSub, Int.reduceMul, reduceCtorEq]
    rw [few, List.take_of_length_le (by omega)]
theorem few16S_ok {args : List Value} {v : Value} (h : fewS args = some v) : args.length = 1 ∧ flatV v = true ∧ ∀ pr h, Comes pr x_law16_few args h v := by
  unfold fewS at h
  split at h
  · rename_i s
    cases h
    refine ⟨rfl, rfl, fun pr h => ?_⟩
    have := few16_ok pr s.data.toList h
    rw [strOf_data] at this
    exact this
  · cases h
/-- the bytes of "seed" -/
def seedB : List UInt8 := [115, 101, 101, 100]
def key16S : List Value → Option Value
  | [.int .i64 i] => if 0 ≤ i ∧ i < 256 then some (.string (strOf (ringKey seedB i.toNat))) else none
  | _ => none
theorem key16_ok (pr : Prog) (ht : pr.prim 28 = some taggedG) (i : Nat) (hi : i < 256) (h : Heap) : Comes pr x_law16_key [.int .i64 (i : Int)] h (.string (strOf (ringKey seedB i))) := by
  apply Comes.of
  unfold x_law16_key
  dsimp only [initFr]
  have c := uw_cint (k := .u8) (k' := .i64) rfl (n := i)
  have bc := byte_cell hi (h := h)
  have ts := two_strs (h := h.new [uw .u8 i]) (a := seedB) (b := [UInt8.ofNat i])
  have tg := cfi_at ht (taggedG_at (p := 75) ts (by decide) (by simp [partsB, partB, fourB, seedB]; unfold roomX; omega))
  have tg : cfi pr 28 [.int .u8 75, .slice (some ⟨h.next + 1, 0, none⟩) 2 2] ((h.new [uw .u8 i]).new [.string (strOf seedB), .string (strOf [UInt8.ofNat i])]) = some (.string (strOf (ringKey seedB i)), _) := tg
  unfold seedB at tg
  (repeat (first | refine wpk_seq ?_ | refine wpk_block ?_ | refine wpk_scope ?_ | refine wpk_skip ?_ | refine kont_code ?_ | refine kont_blk ?_ | refine kont_nil ?_ | refine wpk_exit ?_ | refine exit_code ?_ | refine exit_lp ?_ | refine exit_here ?_ | refine exit_there (by decide) ?_ | refine wpk_ret ?_ | ((first | refine wpk_ops ?_ | refine wpk_draw0 ?_ | refine wpk_drawS rfl rfl ?_ | refine wpk_drawC rfl ?_ | refine wpk_drawP rfl ?_ | refine wpk_condE ?_); simp only [y_law16_key.down, cintV_i, lemS.down, lemC.down, Int.reduceBEq, Nat.reduceAdd, Nat.reduceLeDiff, reduceIte, Nat.reduceEqDiff, Int.reduceLT, Int.reduceLE, Int.reduceGT, Int.reduceGE, Int.reduceEq, Int.reduceAdd, Int.reduceSub, Int.reduceMul, reduceCtorEq, lemH.down, c, bc, fill2s, tg])))
  exact ⟨.inr rfl, by (simp only [y_law16_key.down, cintV_i, lemS.down, lemC.down, Int.reduceBEq, Nat.reduceAdd, Nat.reduceLeDiff, reduceIte, Nat.reduceEqDiff, Int.reduceLT, Int.reduceLE, Int.reduceGT, Int.reduceGE, Int.reduceEq, Int.reduceAdd, Int.reduceSub, Int.reduceMul, reduceCtorEq]) <;> rfl, Grows.new.trans Grows.new⟩
theorem key16S_ok {args : List Value} {v : Value} (h : key16S args = some v) : args.length = 1 ∧ flatV v = true ∧ ∀ pr h, pr.prim 28 = some taggedG → Comes pr x_law16_key args h v := by
  unfold key16S at h
  split at h
  · rename_i i
    split at h
    · rename_i hc
      cases h
      refine ⟨rfl, rfl, fun pr h h1 => ?_⟩
      have := key16_ok pr h1 i.toNat (by omega) h
      rw [show ((i.toNat : Nat) : Int) = i by omega] at this
      exact this
    · cases h
  · cases h
theorem key16S_at {i : Nat} (hi : i < 256) : key16S [.int .i64 (i : Int)] = some (.string (strOf (ringKey seedB i))) := by
  simp only [key16S]
  rw [if_pos (by omega), Int.toNat_natCast]
theorem ring16_run {pr : Prog} (ht : pr.prim 64 = some taggedG) (hn : pr.prim 27 = none) (hc : pr.code 27 = some x_mac_NewRing) (rn : pr.prim 31 = none) (rc : pr.code 31 = some x_law16_ring) (h : Heap) (n : Nat) (hb : n ≤ 16) :
    ∃ h', cfi pr 31 [.int .i64 (n : Int)] h = some (.pointer (some ⟨h.next, 0, none⟩), h') ∧ Ring h' h.next h.next (ringKeys seedB n) ∧ Grows h h' := by
  have : ∃ v h', cfi pr 31 [.int .i64 (n : Int)] h = some (v, h') ∧ v = .pointer (some ⟨h.next, 0, none⟩) ∧ Ring h' h.next h.next (ringKeys seedB n) ∧ Grows h h' := by
    refine cfi_wp rn rc rfl ?_
    unfold x_law16_ring
    dsimp only [initFr]
    refine wpk.out (k := []) ?_
    obtain ⟨v, h', e, rfl, ⟨w, h1, h2⟩, g⟩ := NewRing_run pr ht hn hc h seedB n hb (by decide)
    have e : cfi pr 27 [.string (strOf [115, 101, 101, 100]), .int .i64 (n : Int)] h = _ := e
    (repeat (first | refine wpk_seq ?_ | refine wpk_block ?_ | refine wpk_scope ?_ | refine wpk_skip ?_ | refine kont_code ?_ | refine kont_blk ?_ | refine kont_nil ?_ | refine wpk_exit ?_ | refine exit_code ?_ | refine exit_lp ?_ | refine exit_here ?_ | refine exit_there (by decide) ?_ | refine wpk_ret ?_ | ((first | refine wpk_ops ?_ | refine wpk_draw0 ?_ | refine wpk_drawS rfl rfl ?_ | refine wpk_drawC rfl ?_ | refine wpk_condE ?_); simp only [y_law16_ring.down, cintV_i, lemS.down, lemC.down, Int.reduceBEq, Nat.reduceAdd, Nat.reduceLeDiff, reduceIte, Nat.reduceEqDiff, Int.reduceLT, Int.reduceLE, Int.reduceGT, Int.reduceGE, Int.reduceEq, Int.reduceAdd, Int.reduceSub, Int.reduceMul, reduceCtorEq, e])))
    exact ⟨.inr rfl, _, rfl, by simp only [y_law16_ring.down, cintV_i, lemS.down, lemC.down, Int.reduceBEq, Nat.reduceAdd, Nat.reduceLeDiff, reduceIte, Nat.reduceEqDiff, Int.reduceLT, Int.reduceLE, Int.reduceGT, Int.reduceGE, Int.reduceEq, Int.reduceAdd, Int.reduceSub, Int.reduceMul, reduceCtorEq], ⟨w, h1, by rw [ringKeys_len]; exact h2⟩, g⟩
  obtain ⟨v, h', e, rfl, r⟩ := this
  exact ⟨h', e, r⟩
def sealed16S : List Value → Option Value
  | [.int .i64 a, .int .i64 b, .string s] => if 0 ≤ a ∧ a < 256 ∧ 0 ≤ b ∧ b < 256 ∧ s.data.toList.length + 4000 ≤ roomX then some (.string (strOf (msgB a.toNat b.toNat s.data.toList (mac (ringKey seedB a.toNat) (saidB a.toNat b.toNat s.data.toList))))) else none
  | _ => none
theorem sealed16S_at {a b : Nat} {s : List UInt8} (ha : a < 256) (hb : b < 256) (hs : s.length + 4000 ≤ roomX) : sealed16S [.int .i64 (a : Int), .int .i64 (b : Int), .string (strOf s)] = some (.string (strOf (msgB a b s (mac (ringKey seedB a) (saidB a b s))))) := by
  simp only [sealed16S, data_strOf]
  rw [if_pos (by omega)]
  simp
theorem sealed16_ok (pr : Prog) (hn : pr.prim 40 = some (pureG wnumS)) (hx : pr.prim 73 = some (pureG text3S)) (hk : pr.prim 39 = some (pureG key16S)) (ht : pr.prim 28 = some taggedG) (hm : pr.prim 19 = some (pureG tagS)) (a b : Nat) (s : List UInt8) (ha : a < 256) (hb : b < 256) (hs : s.length + 4000 ≤ roomX) (h : Heap) :
    Comes pr x_law16_sealed [.int .i64 (a : Int), .int .i64 (b : Int), .string (strOf s)] h (.string (strOf (msgB a b s (mac (ringKey seedB a) (saidB a b s))))) := by
  apply Comes.of
  unfold x_law16_sealed
  dsimp only [initFr]
  have hr64 : roomX = 140737488355328 := rfl
  have ca := uw_cint (k := .u64) (k' := .i64) u64_signed (n := a)
  have cb := uw_cint (k := .u64) (k' := .i64) u64_signed (n := b)
  have na := cfi_pure (h := h) hn (wnumS_at (n := a) (k := 1) (by omega) (by decide))
  have nb := cfi_pure (h := h) hn (wnumS_at (n := b) (k := 1) (by omega) (by decide))
  have na : cfi pr 40 [uw .u64 a, .int .i64 1] h = _ := na
  have nb : cfi pr 40 [uw .u64 b, .int .i64 1] h = _ := nb
  have tx := cfi_pure (h := h) hx (text3S_at (s := s) (by omega))
  have kk := cfi_pure (h := h) hk (key16S_at ha)
  have ts := three_strs (h := h) (a := numB a 1) (b := numB b 1) (c := s)
  have tg := cfi_at ht (taggedG_at (p := 77) ts (by decide) (by simp [partsB, partB, fourB, numB_len]; omega))
  have tg : cfi pr 28 [.int .u8 77, .slice (some ⟨h.next, 0, none⟩) 3 3] (h.new [.string (strOf (numB a 1)), .string (strOf (numB b 1)), .string (strOf s)]) = some (.string (strOf (saidB a b s)), _) := tg
  have kl : (ringKey seedB a).length = 32 := tagged_len _ _
  have sl : (saidB a b s).length = 32 := tagged_len _ _
  have mm := cfi_pure (h := h.new [.string (strOf (numB a 1)), .string (strOf (numB b 1)), .string (strOf s)]) hm (tagS_at (k := ringKey seedB a) (s := saidB a b s) (by rw [kl]; omega) (by rw [sl]; omega))
  have ad := bin_cat (a := numB a 1) (b := numB b 1) (by simp only [numB_len]; omega)
  have ad2 := bin_cat (a := numB a 1 ++ numB b 1) (b := numB s.length 4 ++ s) (by simp only [List.length_append, numB_len]; omega)
  have ad3 := bin_cat (a := numB a 1 ++ numB b 1 ++ (numB s.length 4 ++ s)) (b := mac (ringKey seedB a) (saidB a b s)) (by simp only [List.length_append, numB_len, mac_len]; omega)
  (repeat (first | refine wpk_seq ?_ | refine wpk_block ?_ | refine wpk_scope ?_ | refine wpk_skip ?_ | refine kont_code ?_ | refine kont_blk ?_ | refine kont_nil ?_ | refine wpk_exit ?_ | refine exit_code ?_ | refine exit_lp ?_ | refine exit_here ?_ | refine exit_there (by decide) ?_ | refine wpk_ret ?_ | ((first | refine wpk_ops ?_ | refine wpk_draw0 ?_ | refine wpk_drawS rfl rfl ?_ | refine wpk_drawC rfl ?_ | refine wpk_drawP rfl ?_ | refine wpk_condE ?_); simp only [y_law16_sealed.down, cintV_i, lemS.down, lemC.down, Int.reduceBEq, Nat.reduceAdd, Nat.reduceLeDiff, reduceIte, Nat.reduceEqDiff, Int.reduceLT, Int.reduceLE, Int.reduceGT, Int.reduceGE, Int.reduceEq, Int.reduceAdd, Int.reduceSub, Int.reduceMul, reduceCtorEq, lemH.down, ca, cb, na, nb, fill3s, ad, tx, ad2, kk, tg, mm, ad3])))
  exact ⟨.inr rfl, by (simp only [y_law16_sealed.down, cintV_i, lemS.down, lemC.down, Int.reduceBEq, Nat.reduceAdd, Nat.reduceLeDiff, reduceIte, Nat.reduceEqDiff, Int.reduceLT, Int.reduceLE, Int.reduceGT, Int.reduceGE, Int.reduceEq, Int.reduceAdd, Int.reduceSub, Int.reduceMul, reduceCtorEq]) <;> rfl, Grows.new⟩
theorem sealed16S_ok {args : List Value} {v : Value} (h : sealed16S args = some v) : args.length = 3 ∧ flatV v = true ∧ ∀ pr h, pr.prim 40 = some (pureG wnumS) → pr.prim 73 = some (pureG text3S) → pr.prim 39 = some (pureG key16S) → pr.prim 28 = some taggedG → pr.prim 19 = some (pureG tagS) → Comes pr x_law16_sealed args h v := by
  unfold sealed16S at h
  split at h
  · rename_i a b s
    split at h
    · rename_i hc
      cases h
      refine ⟨rfl, rfl, fun pr h h1 h2 h3 h4 h5 => ?_⟩
      have := sealed16_ok pr h1 h2 h3 h4 h5 a.toNat b.toNat s.data.toList (by omega) (by omega) hc.2.2.2.2 h
      rw [strOf_data, show ((a.toNat : Nat) : Int) = a by omega, show ((b.toNat : Nat) : Int) = b by omega] at this
      exact this
    · cases h
  · cases h
end Go.X
end

section
open Go Go.X
namespace Go.X
set_option linter.unusedVariables false
theorem numV_numB : ∀ (k n : Nat), n < 256 ^ k → numV (numB n k) = n
  | 0, n, h => by simp at h; subst h; rfl
  | k + 1, n, h => by
    rw [numB_succ, numV_snoc, numV_numB k (n / 256) (by rw [Nat.pow_succ] at h; omega)]
    simp
    omega
theorem numB_numV (b : List UInt8) : numB (numV b) b.length = b := by
  induction h : b.length generalizing b with
  | zero => simp at h; subst h; rfl
  | succ n ih =>
    obtain ⟨c, x, rfl⟩ : ∃ c x, b = c ++ [x] := by
      rcases List.eq_nil_or_concat b with rfl | ⟨c, x, e⟩
      · simp at h
      · exact ⟨c, x, by simpa using e⟩
    have hc : c.length = n := by simpa using h
    have hx := x.toNat_lt
    rw [numB_succ, numV_snoc, show (numV c * 256 + x.toNat) / 256 = numV c by omega, ih c hc]
    congr 2
    apply UInt8.toNat.inj
    simp
/-- the next bytes are there -/
theorem bytesR_fwd {s x y : List UInt8} {p n : Nat} (hp : s.drop p = x ++ y) (hn : x.length = n) (hx : p ≤ s.length) : bytesR ⟨s, p, 0⟩ (n : Int) = (⟨s, p + n, 0⟩, x) := by
  have hl := congrArg List.length hp
  simp only [List.length_drop, List.length_append] at hl
  unfold bytesR
  simp only
  rw [if_neg (by omega), if_neg (by omega), if_neg (by omega), Int.toNat_natCast, hp]
  subst hn
  simp
theorem bytesR_bwd {r : RS} {n : Nat} (h : (bytesR r (n : Int)).1.err = 0) (hp : r.pos ≤ r.s.length) : r.err = 0 ∧ r.pos + n ≤ r.s.length ∧ bytesR r (n : Int) = (⟨r.s, r.pos + n, 0⟩, (r.s.drop r.pos).take n) := by
  by_cases h0 : r.err = 0
  · unfold bytesR at h ⊢
    rw [if_neg (by omega), if_neg (by omega)] at h ⊢
    by_cases h2 : (r.s.length : Int) - r.pos < (n : Int)
    · rw [if_pos h2] at h; simp at h
    · rw [if_neg h2, Int.toNat_natCast, h0]
      exact ⟨rfl, by omega, rfl⟩
  · rw [bytesR_stop h0] at h
    exact absurd h h0
theorem drop_step {s x y : List UInt8} {p n : Nat} (h : s.drop p = x ++ y) (hn : x.length = n) : s.drop (p + n) = y := by
  have := congrArg (List.drop n) h
  rw [List.drop_drop] at this
  rw [this, ← hn]
  simp
theorem bytesR_err0 {r : RS} {n : Int} (h : (bytesR r n).1.err = 0) : r.err = 0 := by
  by_cases h0 : r.err = 0
  · exact h0
  · rw [bytesR_stop h0] at h; exact h
theorem countR_err0 {r : RS} {m : Nat} (h : (countR r m).1.err = 0) : (numberR r 4).1.err = 0 ∧ (numberR r 4).2 ≤ m ∧ countR r m = numberR r 4 := by
  unfold countR at h ⊢
  split
  · rename_i h0
    rw [if_pos h0] at h
    exact absurd h h0
  · rename_i h0
    rw [if_neg h0] at h
    split
    · rename_i h1
      rw [if_pos h1] at h
      simp at h
    · rename_i h1
      exact ⟨by omega, by omega, rfl⟩
theorem opened {s : List UInt8} {a b : Nat} {x t : List UInt8} (ha : a < 256) (hb : b < 256) (hx : x.length ≤ 1048576) (ht : t.length = 32) (hs : s = msgB a b x t) :
    (o1 s).2 = a ∧ (o2 s).2 = b ∧ (o3 s).2 = x ∧ (o4 s).2 = t ∧ (o5 s).err = 0 := by
  have hl : s.length = 38 + x.length := by rw [hs]; simp [msgB, numB_len, ht]; omega
  have d0 : s.drop 0 = numB a 1 ++ (numB b 1 ++ (numB x.length 4 ++ (x ++ t))) := by rw [hs]; simp [msgB]
  have d1 : s.drop 1 = numB b 1 ++ (numB x.length 4 ++ (x ++ t)) := drop_step (p := 0) d0 (numB_len _ _)
  have d2 : s.drop 2 = numB x.length 4 ++ (x ++ t) := drop_step (p := 1) d1 (numB_len _ _)
  have d6 : s.drop 6 = x ++ t := drop_step (p := 2) d2 (numB_len _ _)
  have d7 : s.drop (6 + x.length) = t ++ [] := by rw [List.append_nil]; exact drop_step d6 rfl
  have e1 : o1 s = (⟨s, 1, 0⟩, a) := by
    unfold o1 numberR
    rw [bytesR_fwd d0 (numB_len _ _) (by omega)]
    simp [numV_numB 1 a (by omega)]
  have e2 : o2 s = (⟨s, 2, 0⟩, b) := by
    unfold o2 numberR
    rw [e1, bytesR_fwd d1 (numB_len _ _) (by omega)]
    simp [numV_numB 1 b (by omega)]
  have e3 : countR ⟨s, 2, 0⟩ 1048576 = (⟨s, 6, 0⟩, x.length) := by
    unfold countR numberR
    rw [bytesR_fwd d2 (numB_len _ _) (by omega)]
    simp only [numV_numB 4 x.length (by omega)]
    rw [if_neg (by simp), if_neg (by omega)]
  have e4 : o3 s = (⟨s, 6 + x.length, 0⟩, x) := by
    unfold o3 textR
    rw [e2]
    simp only [e3]
    rw [bytesR_fwd d6 rfl (by omega)]
    simp
  have e5 : o4 s = (⟨s, 38 + x.length, 0⟩, t) := by
    unfold o4
    rw [e4]
    have := bytesR_fwd (n := 32) d7 ht (by omega)
    rw [show ((32 : Nat) : Int) = 32 from rfl] at this
    rw [this, show 6 + x.length + 32 = 38 + x.length by omega]
  refine ⟨by rw [e1], by rw [e2], by rw [e4], by rw [e5], ?_⟩
  unfold o5 endR
  rw [e5]
  rw [if_neg (fun h => by have := h.1; simp only at this; omega)]
theorem reopened {s : List UInt8} (h : (o5 s).err = 0) : s = msgB (o1 s).2 (o2 s).2 (o3 s).2 (o4 s).2 ∧ (o3 s).2.length ≤ 1048576 ∧ (o4 s).2.length = 32 := by
  have h4 : (o4 s).1.err = 0 ∧ (o4 s).1.s.length ≤ (o4 s).1.pos := by
    unfold o5 endR at h
    split at h
    · simp at h
    · rename_i hc
      exact ⟨h, by omega⟩
  have h3 : (o3 s).1.err = 0 := by
    have := h4.1
    unfold o4 at this
    exact bytesR_err0 this
  have ht : (bytesR (countR (o2 s).1 1048576).1 ((countR (o2 s).1 1048576).2 : Int)).1.err = 0 ∧ o3 s = bytesR (countR (o2 s).1 1048576).1 ((countR (o2 s).1 1048576).2 : Int) := by
    unfold o3 textR at h3 ⊢
    simp only at h3 ⊢
    by_cases hq : (bytesR (countR (o2 s).1 1048576).1 ((countR (o2 s).1 1048576).2 : Int)).1.err = 0
    · rw [if_neg (fun h => h hq)]
      exact ⟨hq, rfl⟩
    · rw [if_pos hq] at h3
      exact absurd h3 hq
  have hc := countR_err0 (bytesR_err0 ht.1)
  have h2 : (o2 s).1.err = 0 := by
    have := hc.1
    unfold numberR at this
    exact bytesR_err0 this
  have h1 : (o1 s).1.err = 0 := by
    have := h2
    unfold o2 numberR at this
    exact bytesR_err0 this
  have h1' := h1
  unfold o1 numberR at h1'
  obtain ⟨_, p1, e1⟩ := bytesR_bwd (r := ⟨s, 0, 0⟩) (n := 1) h1' (Nat.zero_le _)
  have f1 : o1 s = (⟨s, 1, 0⟩, numV ((s.drop 0).take 1)) := by
    unfold o1 numberR
    rw [e1]
  have h2' := h2
  unfold o2 numberR at h2'
  rw [f1] at h2'
  obtain ⟨_, p2, e2⟩ := bytesR_bwd (r := ⟨s, 1, 0⟩) (n := 1) h2' p1
  have f2 : o2 s = (⟨s, 2, 0⟩, numV ((s.drop 1).take 1)) := by
    unfold o2 numberR
    rw [f1]
    simp only
    rw [e2]
  rw [f2] at hc
  have hc1 := hc.1
  unfold numberR at hc1
  obtain ⟨_, p3, e3⟩ := bytesR_bwd (r := ⟨s, 2, 0⟩) (n := 4) hc1 p2
  have f3 : numberR ⟨s, 2, 0⟩ 4 = (⟨s, 6, 0⟩, numV ((s.drop 2).take 4)) := by
    unfold numberR
    rw [e3]
  rw [f3] at hc
  simp only at p1 p2 p3 hc
  rw [f2] at ht
  simp only at ht
  rw [hc.2.2] at ht
  obtain ⟨_, p4, e4⟩ := bytesR_bwd (r := ⟨s, 6, 0⟩) (n := numV ((s.drop 2).take 4)) ht.1 p3
  simp only at p4
  have f4 : o3 s = (⟨s, 6 + numV ((s.drop 2).take 4), 0⟩, (s.drop 6).take (numV ((s.drop 2).take 4))) := by
    rw [ht.2, e4]
  have h4' := h4.1
  unfold o4 at h4'
  rw [f4] at h4'
  obtain ⟨_, p5, e5⟩ := bytesR_bwd (r := ⟨s, 6 + numV ((s.drop 2).take 4), 0⟩) (n := 32) h4' p4
  simp only at p5 e5
  have f5 : o4 s = (⟨s, 6 + numV ((s.drop 2).take 4) + 32, 0⟩, (s.drop (6 + numV ((s.drop 2).take 4))).take 32) := by
    unfold o4
    rw [f4]
    exact e5
  have hlen := h4.2
  rw [f5] at hlen
  simp only at hlen
  have l1 : (s.take 1).length = 1 := by rw [List.length_take]; omega
  have l2 : ((s.drop 1).take 1).length = 1 := by rw [List.length_take, List.length_drop]; omega
  have l4 : ((s.drop 2).take 4).length = 4 := by rw [List.length_take, List.length_drop]; omega
  have b1 := numB_numV (s.take 1)
  have b2 := numB_numV ((s.drop 1).take 1)
  have b4 := numB_numV ((s.drop 2).take 4)
  rw [l1] at b1
  rw [l2] at b2
  rw [l4] at b4
  rw [f1, f2, f4, f5]
  generalize numV ((s.drop 2).take 4) = n at *
  have lx : ((s.drop 6).take n).length = n := by rw [List.length_take, List.length_drop]; omega
  have lt : ((s.drop (6 + n)).take 32).length = 32 := by rw [List.length_take, List.length_drop]; omega
  refine ⟨?_, by rw [lx]; exact hc.2.1, lt⟩
  unfold msgB
  simp only
  rw [lx, List.drop_zero, b1, b2, b4]
  have c1 : s = s.take 1 ++ s.drop 1 := (List.take_append_drop 1 s).symm
  have c2 : s.drop 1 = (s.drop 1).take 1 ++ s.drop 2 := by
    have := (List.take_append_drop 1 (s.drop 1)).symm
    rw [List.drop_drop] at this; exact this
  have c3 : s.drop 2 = (s.drop 2).take 4 ++ s.drop 6 := by
    have := (List.take_append_drop 4 (s.drop 2)).symm
    rw [List.drop_drop] at this; exact this
  have c4 : s.drop 6 = (s.drop 6).take n ++ s.drop (6 + n) := by
    have := (List.take_append_drop n (s.drop 6)).symm
    rw [List.drop_drop] at this; exact this
  have c5 : (s.drop (6 + n)).take 32 = s.drop (6 + n) := List.take_of_length_le (by rw [List.length_drop]; omega)
  rw [c5]
  calc s = s.take 1 ++ ((s.drop 1).take 1 ++ ((s.drop 2).take 4 ++ ((s.drop 6).take n ++ s.drop (6 + n)))) := by rw [← c4, ← c3, ← c2, ← c1]
    _ = _ := by simp only [List.append_assoc]
end Go.X
end

section
open Go Go.X
namespace Go.X
set_option linter.unusedVariables false
theorem keyP_in {n a : Nat} (ha : a < n) : keyP (ringKeys seedB n) (a : Int) = (ringKey seedB a, true) := by
  unfold keyP
  rw [ringKeys_len]
  simp only [Int.toNat_natCast]
  rw [ringKeys_get ha]
  simp
  omega
theorem keyP_out {n : Nat} {a : Int} (ha : (n : Int) ≤ a) : keyP (ringKeys seedB n) a = ([], false) := by
  unfold keyP
  rw [ringKeys_len]
  simp
  omega
/-- the tag of a message -/
def tagB (a b : Nat) (s : List UInt8) : List UInt8 := mac (ringKey seedB a) (saidB a b s)
theorem tagB_len (a b : Nat) (s : List UInt8) : (tagB a b s).length = 32 := mac_len _ _
theorem seal_good {n a b : Nat} {s : List UInt8} (ha : a < n) (ha2 : a < 16) (hb : b < 16) (hs : s.length ≤ 1048576) : sealP (ringKeys seedB n) (a : Int) (b : Int) s = (msgB a b s (tagB a b s), 0) := by
  unfold sealP tagP
  rw [if_neg (by unfold sealBad; omega), Int.toNat_natCast, Int.toNat_natCast, keyP_in ha]
  simp only [if_true]
  rw [if_neg (by simp)]
  have : hashB (tagB a b s) = tagB a b s := hashB_32 (tagB_len _ _ _)
  unfold tagB at *
  rw [this]
theorem check_iff {n a b : Nat} {s t : List UInt8} : checkP (ringKeys seedB n) (a : Int) (saidB a b s) t = true ↔ (a < n ∧ tagB a b s = t) := by
  unfold checkP
  by_cases hn : a < n
  · rw [keyP_in hn, Bool.true_and, beq_iff_eq]
    exact ⟨fun h => ⟨hn, h⟩, fun h => h.2⟩
  · rw [keyP_out (by omega)]
    simp [hn]
theorem open_good {n a b : Nat} {s t : List UInt8} (ha : a < 16) (hb : b < 256) (hs : s.length ≤ 1048576) (ht : t.length = 32) : openP (ringKeys seedB n) (b : Int) (msgB a b s t) = if a < n ∧ tagB a b s = t then (a, s, 0) else (0, [], 20) := by
  obtain ⟨h1, h2, h3, h4, h5⟩ := opened (a := a) (b := b) (x := s) (t := t) (by omega) hb hs ht rfl
  unfold openP
  rw [h5, h1, h2, h3, h4, if_neg (by omega), if_neg (by omega)]
  have hc : checkP (ringKeys seedB n) (a : Int) (saidB a b s) t = true ↔ (a < n ∧ tagB a b s = t) := check_iff
  by_cases h : a < n ∧ tagB a b s = t
  · rw [if_pos (hc.2 h), if_pos h]
  · rw [if_neg (fun q => h (hc.1 q)), if_neg h]
/-- what is opened was sealed -/
theorem open_back {n : Nat} {c : Int} {s : List UInt8} (h : (openP (ringKeys seedB n) c s).2.2 = 0) : ∃ b : Nat, c = (b : Int) ∧ b < 256 ∧ (openP (ringKeys seedB n) c s).1 < 16 ∧ (openP (ringKeys seedB n) c s).2.1.length ≤ 1048576 ∧ s = msgB (openP (ringKeys seedB n) c s).1 b (openP (ringKeys seedB n) c s).2.1 (tagB (openP (ringKeys seedB n) c s).1 b (openP (ringKeys seedB n) c s).2.1) := by
  have hlb : (o2 s).2 < 256 := numberR_lt _ (k := 1) (by decide)
  have hr := reopened (s := s)
  unfold openP at h ⊢
  generalize (o5 s).err = e at *
  generalize (o1 s).2 = x at *
  generalize (o2 s).2 = y at *
  generalize (o3 s).2 = w at *
  generalize (o4 s).2 = t at *
  by_cases h0 : e = 0
  · rw [if_neg (by omega)] at h ⊢
    obtain ⟨r1, r2, r3⟩ := hr h0
    by_cases h1 : (y : Int) ≠ c ∨ 16 ≤ x
    · rw [if_pos h1] at h; simp at h
    · rw [if_neg h1] at h ⊢
      by_cases h2 : checkP (ringKeys seedB n) (x : Int) (saidB x y w) t = true
      · rw [if_pos h2]
        have h3 := (check_iff.1 h2).2
        refine ⟨y, by omega, hlb, ?_, r2, ?_⟩
        · show x < 16
          omega
        · show s = msgB x y w (tagB x y w)
          rw [h3]
          exact r1
      · rw [if_neg h2] at h; simp at h
  · rw [if_pos h0] at h
    exact absurd h h0
theorem open_none {l : List (List UInt8)} {c : Int} {s : List UInt8} (h : (openP l c s).2.2 ≠ 0) : (openP l c s).1 = 0 ∧ (openP l c s).2.1 = [] := by
  unfold openP at h ⊢
  split
  · exact ⟨rfl, rfl⟩
  · split
    · exact ⟨rfl, rfl⟩
    · split
      · rename_i h0 h1 h2
        rw [if_neg h0, if_neg h1, if_pos h2] at h
        exact absurd rfl h
      · exact ⟨rfl, rfl⟩
end Go.X
end

section
open Go Go.X Go.Proofs Go.RowKit
namespace Go.X
set_option linter.unusedVariables false
def rtextS : List Value → Option Value
  | [.agg c, .int .i64 m] => match rsL c.toList with
    | some r => if 0 ≤ m ∧ m < 9223372036854775808 then some (.tuple #[RSv (textR r m.toNat).1, .string (strOf (textR r m.toNat).2)]) else none
    | none => none
  | _ => none
theorem rtextS_ok {args : List Value} {v : Value} (h : rtextS args = some v) : args.length = 2 ∧ flatV v = true ∧ ∀ pr h, pr.prim 37 = some (pureG rbytesS) → pr.prim 74 = some (pureG rcountS) → Comes pr x_ref03_Reader_Text args h v := by
  unfold rtextS at h
  split at h
  · rename_i c n
    split at h
    · rename_i r hr
      split at h
      · rename_i hc
        cases h
        rw [(agg_rs hr).1]
        refine ⟨rfl, flat_RS rfl, fun pr h hb hd => ?_⟩
        have := rText_ok pr hb hd r (agg_rs hr).2 n.toNat (by omega) h
        rw [show ((n.toNat : Nat) : Int) = n by omega] at this
        exact this
      · cases h
    · cases h
  · cases h
def rendS : List Value → Option Value
  | [.agg c] => match rsL c.toList with
    | some r => some (RSv (endR r))
    | none => none
  | _ => none
theorem rendS_ok {args : List Value} {v : Value} (h : rendS args = some v) : args.length = 1 ∧ flatV v = true ∧ ∀ pr h, Comes pr x_ref03_Reader_End args h v := by
  unfold rendS at h
  split at h
  · rename_i c
    split at h
    · rename_i r hr
      cases h
      rw [(agg_rs hr).1]
      exact ⟨rfl, rfl, fun pr h => rEnd_ok pr r (agg_rs hr).2 h⟩
    · cases h
  · cases h
def S1 : List (Nat × Prim) := (90, pureG wnumS) :: R7
def S2 : List (Nat × Prim) := (65, pureG saidS) :: S1
def S3 : List (Nat × Prim) := (30, sealG) :: S2
def S4 : List (Nat × Prim) := (33, openG) :: S3
def S5 : List (Nat × Prim) := (40, pureG wnumS) :: S4
def S6 : List (Nat × Prim) := (73, pureG text3S) :: S5
def S7 : List (Nat × Prim) := (37, pureG rbytesS) :: S6
def S8 : List (Nat × Prim) := (35, pureG rnumberS) :: S7
def S9 : List (Nat × Prim) := (74, pureG rcountS) :: S8
def S10 : List (Nat × Prim) := (36, pureG rtextS) :: S9
def S11 : List (Nat × Prim) := (38, pureG rendS) :: S10
def S12 : List (Nat × Prim) := (29, pureG fewS) :: S11
def S13 : List (Nat × Prim) := (39, pureG key16S) :: S12
def S14 : List (Nat × Prim) := (34, pureG sealed16S) :: S13
theorem num3S_ok {args : List Value} {v : Value} (h : wnumS args = some v) : args.length = 2 ∧ flatV v = true ∧ ∀ pr h, pr.prim 40 = none → pr.code 40 = some x_ref03_Number → Comes pr x_ref03_Number args h v := by
  unfold wnumS at h
  split at h
  · rename_i n k
    split at h
    · rename_i hc
      cases h
      refine ⟨rfl, rfl, fun pr h h1 h2 => ?_⟩
      have := num3_ok pr h1 h2 k.toNat n.toNat h (by omega) (by omega)
      rw [show (k.toNat : Int) = k by omega] at this
      have e : uw .u64 n.toNat = .int .u64 n := by unfold uw; rw [u64_bits, Nat.mod_eq_of_lt (by omega)]; congr 1; omega
      rw [e] at this
      exact this
    · cases h
  · cases h
theorem sk1 : XOK Try.prog (Tab Try.prog S1) := Tab.pure rk7 Try.func90 c_wire_Number fun args v h => ⟨(wnumS_ok h).1, (wnumS_ok h).2.1, fun g => (wnumS_ok h).2.2 _ g⟩
theorem sk2 : XOK Try.prog (Tab Try.prog S2) := Tab.pure sk1 Try.func65 c_seal_said fun args v h => ⟨(saidS_ok h).1, (saidS_ok h).2.1, fun g => (saidS_ok h).2.2 _ g rfl rfl⟩
theorem wire2 : WireTab (Tab Try.prog S2) := ⟨rfl, rfl, codeAt Try.func51 c_wire_NewWriter, rfl, codeAt Try.func91 c_wire_Writer_Bytes, rfl, codeAt Try.func66 c_wire_Writer_Number, rfl, codeAt Try.func92 c_wire_Writer_Count, rfl, codeAt Try.func67 c_wire_Writer_Text, rfl, codeAt Try.func68 c_wire_Writer_Hash, rfl, codeAt Try.func53 c_wire_Writer_All, rfl, codeAt Try.func54 c_wire_NewReader, rfl, codeAt Try.func69 c_wire_Reader_Number, rfl, codeAt Try.func93 c_wire_Reader_Bytes, rfl, codeAt Try.func94 c_wire_Reader_Count, rfl, codeAt Try.func70 c_wire_Reader_Text, rfl, codeAt Try.func71 c_wire_Reader_Hash, rfl, codeAt Try.func72 c_wire_Reader_End, rfl, codeAt Try.func84 c_wire_Reader_Fail, rfl, codeAt Try.func56 c_wire_Reader_Left, rfl, codeAt Try.func57 c_wire_Reader_Err, rfl, codeAt Try.func58 c_wire_Reader_At⟩
theorem sk3 : XOK Try.prog (Tab Try.prog S3) := Tab.read sk2 Try.func30 c_seal_Seal fun args v h h' hr => ⟨(sealG_ok hr).1, (sealG_ok hr).2.1, (sealG_ok hr).2.2.1, fun n wf => (sealG_ok hr).2.2.2 _ n wire2 rfl rfl⟩
theorem wire3 : WireTab (Tab Try.prog S3) := ⟨rfl, rfl, codeAt Try.func51 c_wire_NewWriter, rfl, codeAt Try.func91 c_wire_Writer_Bytes, rfl, codeAt Try.func66 c_wire_Writer_Number, rfl, codeAt Try.func92 c_wire_Writer_Count, rfl, codeAt Try.func67 c_wire_Writer_Text, rfl, codeAt Try.func68 c_wire_Writer_Hash, rfl, codeAt Try.func53 c_wire_Writer_All, rfl, codeAt Try.func54 c_wire_NewReader, rfl, codeAt Try.func69 c_wire_Reader_Number, rfl, codeAt Try.func93 c_wire_Reader_Bytes, rfl, codeAt Try.func94 c_wire_Reader_Count, rfl, codeAt Try.func70 c_wire_Reader_Text, rfl, codeAt Try.func71 c_wire_Reader_Hash, rfl, codeAt Try.func72 c_wire_Reader_End, rfl, codeAt Try.func84 c_wire_Reader_Fail, rfl, codeAt Try.func56 c_wire_Reader_Left, rfl, codeAt Try.func57 c_wire_Reader_Err, rfl, codeAt Try.func58 c_wire_Reader_At⟩
theorem sk4 : XOK Try.prog (Tab Try.prog S4) := Tab.read sk3 Try.func33 c_seal_Open fun args v h h' hr => ⟨(openG_ok hr).1, (openG_ok hr).2.1, (openG_ok hr).2.2.1, fun n wf => (openG_ok hr).2.2.2 _ n wire3 rfl rfl wf⟩
theorem sk5 : XOK Try.prog (Tab Try.prog S5) := Tab.pure sk4 Try.func40 c_ref03_Number fun args v h => ⟨(num3S_ok h).1, (num3S_ok h).2.1, fun g => (num3S_ok h).2.2 _ g rfl (codeAt Try.func40 c_ref03_Number)⟩
theorem sk6 : XOK Try.prog (Tab Try.prog S6) := Tab.pure sk5 Try.func73 c_ref03_Text fun args v h => ⟨(text3S_ok h).1, (text3S_ok h).2.1, fun g => (text3S_ok h).2.2 _ g rfl⟩
theorem sk7 : XOK Try.prog (Tab Try.prog S7) := Tab.pure sk6 Try.func37 c_ref03_Reader_Bytes fun args v h => ⟨(rbytesS_ok h).1, (rbytesS_ok h).2.1, fun g => (rbytesS_ok h).2.2 _ g⟩
theorem sk8 : XOK Try.prog (Tab Try.prog S8) := Tab.pure sk7 Try.func35 c_ref03_Reader_Number fun args v h => ⟨(rnumberS_ok h).1, (rnumberS_ok h).2.1, fun g => (rnumberS_ok h).2.2 _ g rfl⟩
theorem sk9 : XOK Try.prog (Tab Try.prog S9) := Tab.pure sk8 Try.func74 c_ref03_Reader_Count fun args v h => ⟨(rcountS_ok h).1, (rcountS_ok h).2.1, fun g => (rcountS_ok h).2.2 _ g rfl⟩
theorem sk10 : XOK Try.prog (Tab Try.prog S10) := Tab.pure sk9 Try.func36 c_ref03_Reader_Text fun args v h => ⟨(rtextS_ok h).1, (rtextS_ok h).2.1, fun g => (rtextS_ok h).2.2 _ g rfl rfl⟩
theorem sk11 : XOK Try.prog (Tab Try.prog S11) := Tab.pure sk10 Try.func38 c_ref03_Reader_End fun args v h => ⟨(rendS_ok h).1, (rendS_ok h).2.1, fun g => (rendS_ok h).2.2 _ g⟩
theorem sk12 : XOK Try.prog (Tab Try.prog S12) := Tab.pure sk11 Try.func29 c_law16_few fun args v h => ⟨(few16S_ok h).1, (few16S_ok h).2.1, fun g => (few16S_ok h).2.2 _ g⟩
theorem sk13 : XOK Try.prog (Tab Try.prog S13) := Tab.pure sk12 Try.func39 c_law16_key fun args v h => ⟨(key16S_ok h).1, (key16S_ok h).2.1, fun g => (key16S_ok h).2.2 _ g rfl⟩
theorem sk14 : XOK Try.prog (Tab Try.prog S14) := Tab.pure sk13 Try.func34 c_law16_sealed fun args v h => ⟨(sealed16S_ok h).1, (sealed16S_ok h).2.1, fun g => (sealed16S_ok h).2.2 _ g rfl rfl rfl rfl rfl⟩
end Go.X
end
