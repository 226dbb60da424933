/- Digests of parts, rings of keys. -/
import Derived.Test.YtmhkcnibbodjnaaXC
import Derived.Test.YtmhkcnibbodjnaaXD
import Derived.Test.YtmhkcnibbodjnaaXH
import Derived.Test.YtmhkcnibbodjnaaXI
set_option linter.unusedSimpArgs false
set_option linter.unusedVariables false
set_option maxHeartbeats 2000000
section
open Go Go.X
namespace Go.X
set_option linter.unusedVariables false
def zAV (n : Nat) : List UInt8 := [UInt8.ofNat (n / 16777216), UInt8.ofNat (n / 65536), UInt8.ofNat (n / 256), UInt8.ofNat n]
def zB6 (s : List UInt8) : List UInt8 := zAV s.length ++ s
def zm (l : List (List UInt8)) : List UInt8 := l.flatMap zB6
def tagged (p : UInt8) (l : List (List UInt8)) : List UInt8 := sha (p :: zm l)
theorem zEZ (p : UInt8) (l : List (List UInt8)) : (tagged p l).length = 32 := zBf _
def zAX (l : List (List UInt8)) : List Value := l.map fun s => .string (zB s)
theorem zUx {l : List (List UInt8)} : (zAX l).length = l.length := by simp [zAX]
theorem zUw {l : List (List UInt8)} {i : Nat} (hi : i < l.length) : (zAX l)[i]? = some (.string (zB (l.getD i []))) := by
  simp [zAX, List.getElem?_map, List.getElem?_eq_getElem hi, List.getD_eq_getElem?_getD]
def zCn : List Value → Option Value
  | [.int .i64 n] => if 0 ≤ n ∧ n < 9223372036854775808 then some (.string (zB (zAV n.toNat))) else none
  | _ => none
theorem fourS_at {n : Nat} (h : n < 9223372036854775808) : zCn [.int .i64 (n : Int)] = some (.string (zB (zAV n))) := by
  simp only [zCn]
  rw [if_pos (by omega)]
  simp
theorem zEt (n : Nat) : zV (zAV n) = [uw .u8 (n / 16777216), uw .u8 (n / 65536), uw .u8 (n / 256), uw .u8 n] := by
  simp only [← zBX]
  rfl
theorem fill4' {z : Value} {a b c d : Nat} : zt (List.replicate 4 z) [(0, 1, uw .u8 a), (1, 1, uw .u8 b), (2, 1, uw .u8 c), (3, 1, uw .u8 d)] = some [uw .u8 a, uw .u8 b, uw .u8 c, uw .u8 d] := by simp [zt, zD1, putN, List.replicate]
theorem shrI {k : IntKind} {n j : Nat} (hj : j ≤ 64) : binX .shr (.int .i64 (n : Int)) (.int k (OfNat.ofNat j)) = some (.int .i64 ((n / 2 ^ j : Nat) : Int)) := by
  have e : (OfNat.ofNat j : Int) = (j : Int) := rfl
  rw [e, zFp (by omega), Int.toNat_natCast, Nat.min_eq_left (show j ≤ IntKind.i64.bits from hj), Int.fdiv_eq_ediv_of_nonneg _ (by exact Int.le_of_lt (Int.pow_pos (by omega)))]
  simp
theorem four_ok (pr : Prog) (n : Nat) (hn : n < 9223372036854775808) (h : Heap) : Comes pr xq89 [.int .i64 (n : Int)] h (.string (zB (zAV n))) := by
  apply Comes.of
  unfold xq89
  dsimp only [zc]
  have c := fun n => zBU (k := .u8) (k' := .i64) zHD (n := n)
  have hO := Own.newSlice (h := h) (l := zV (zAV n)) (n := 4) (esz := 1) (sp := none) (by rw [zEt]; rfl) (.inl rfl)
  have s24 := shrI (k := .u64) (n := n) (j := 24) (by decide)
  have s16 := shrI (k := .u64) (n := n) (j := 16) (by decide)
  have s8 := shrI (k := .u64) (n := n) (j := 8) (by decide)
  simp only [Nat.reducePow] at s24 s16 s8
  have hb := hO.cb2s
  rw [zEt] at hb
  (repeat (first | refine zS ?_ | refine zL ?_ | refine zR ?_ | refine zE ?_ | refine zC ?_ | refine zJ ?_ | refine zK ?_ | refine zP ?_ | refine zF ?_ | refine zH ?_ | refine zG ?_ | refine zI (by decide) ?_ | refine zQ ?_ | ((first | refine zD ?_ | refine zN ?_ | refine zT rfl rfl ?_ | refine zO rfl ?_ | refine zM ?_); simp only [yq89.down, zA, lemS.down, lemC.down, Int.reduceBEq, Nat.reduceAdd, Nat.reduceLeDiff, reduceIte, Nat.reduceEqDiff, Int.reduceLT, Int.reduceLE, Int.reduceGT, Int.reduceGE, Int.reduceEq, Int.reduceAdd, Int.reduceSub, Int.reduceMul, reduceCtorEq, lemH.down, lemW.down, s24, s16, s8, c, fill4', hb])))
  exact ⟨.inr rfl, by simp only [yq89.down, zA, lemS.down, lemC.down, Int.reduceBEq, Nat.reduceAdd, Nat.reduceLeDiff, reduceIte, Nat.reduceEqDiff, Int.reduceLT, Int.reduceLE, Int.reduceGT, Int.reduceGE, Int.reduceEq, Int.reduceAdd, Int.reduceSub, Int.reduceMul, reduceCtorEq], Grows.new⟩
end Go.X
end
section
open Go Go.X
namespace Go.X
set_option linter.unusedVariables false
theorem st_app (b s : List UInt8) : zl ((b.drop (64 * (b.length / 64)) ++ s).length / 64) (zl (b.length / 64) Sha.H0 b) (b.drop (64 * (b.length / 64)) ++ s) = zl ((b ++ s).length / 64) Sha.H0 (b ++ s) ∧
    (b.drop (64 * (b.length / 64)) ++ s).drop (64 * ((b.drop (64 * (b.length / 64)) ++ s).length / 64)) = (b ++ s).drop (64 * ((b ++ s).length / 64)) := by
  have hd : (b ++ s).drop (64 * (b.length / 64)) = b.drop (64 * (b.length / 64)) ++ s := List.drop_append_of_le_length (by omega)
  have hl : (b.drop (64 * (b.length / 64)) ++ s).length = (b ++ s).length - 64 * (b.length / 64) := by rw [← hd, List.length_drop]
  have hn : (b ++ s).length / 64 = b.length / 64 + (b.drop (64 * (b.length / 64)) ++ s).length / 64 := by
    rw [hl, List.length_append]; omega
  constructor
  · rw [hn, zFi, zEj (b.length / 64) Sha.H0 b s (by omega), hd]
  · rw [hn, Nat.mul_add, ← List.drop_drop, hd]
def DigB (h : Heap) (N D : Nat) (b : List UInt8) : Prop := Dig h N D (zl (b.length / 64) Sha.H0 b) (b.drop (64 * (b.length / 64))) b.length
theorem New_B {pr : Prog} (T : zBv pr) (h : Heap) : ∃ v h', cfi pr 85 [] h = some (v, h') ∧ v = .pointer (some ⟨h.next, 0, none⟩) ∧ DigB h' h.next h.next [] ∧ Grows h h' := zIS pr T.begin T.new T.newC h
theorem zFh {pr : Prog} (T : zBv pr) {h : Heap} {N D : Nat} {b : List UInt8} (hd : DigB h N D b) (s : List UInt8) (hroom : s.length + 64 ≤ zU) :
    ∃ v h', cfi pr 86 [.pointer (some ⟨D, 0, none⟩), .string (zB s)] h = some (v, h') ∧ v = .tuple #[] ∧ DigB h' N D (b ++ s) ∧ Keeps (fun A => N ≤ A) h h' := by
  obtain ⟨v, h', e, hv, d, k⟩ := zIW pr T.right T.words T.consts T.blk T.blkC T.wr T.wrC h N D _ _ _ s hd (by rw [List.length_drop]; omega)
  rw [(st_app b s).1, (st_app b s).2, ← List.length_append] at d
  exact ⟨v, h', e, hv, d, k⟩
theorem Sum_B {pr : Prog} (T : zBv pr) {h : Heap} {N D : Nat} {b : List UInt8} (hd : DigB h N D b) : ∃ v h', cfi pr 87 [.pointer (some ⟨D, 0, none⟩)] h = some (v, h') ∧ v = .string (zB (sha b)) ∧ Grows h h' := by
  have := zIU pr T.right T.words T.consts T.blk T.blkC T.sum T.sumC h N D _ _ _ hd (by rw [List.length_drop]; have : zU = 140737488355328 := rfl; omega)
  rw [zKQ] at this
  exact this
def zDf : List Value → Option (List (List UInt8))
  | [] => some []
  | .string s :: r => (match zDf r with | some l => some (s.data.toList :: l) | none => none)
  | _ :: _ => none
theorem zKe : ∀ l : List (List UInt8), zDf (zAX l) = some l
  | [] => rfl
  | s :: l => by
    have := zKe l
    unfold zAX at this ⊢
    simp only [List.map_cons, zDf, this, zAh]
theorem zKf : ∀ {cs : List Value} {l : List (List UInt8)}, zDf cs = some l → cs = zAX l
  | [], l, h => by cases h; rfl
  | c :: cs, l, h => by
    unfold zDf at h
    split at h
    · rename_i heq; cases heq
    · rename_i s r heq
      cases heq
      split at h
      · rename_i q hq
        cases h
        rw [zKf hq]
        simp only [zAX, List.map_cons]
        rw [show zB s.data.toList = s from zCZ s]
      · cases h
    · cases h
def zBA (h : Heap) : Value → Option (List (List UInt8))
  | .slice none n _ => if n = 0 then some [] else none
  | .slice (some a) n _ => if n = 0 then some [] else (match h.loadN a n with | some cs => zDf cs | none => none)
  | _ => none
theorem Own.strs {h : Heap} {S : Nat → Prop} {v : Value} {n : Nat} {l : List (List UInt8)} (ho : Own h S 1 v n (zAX l)) : zBA h v = some l := by
  obtain ⟨a, cap, rfl, hs⟩ := ho.shape
  by_cases h0 : n = 0
  · subst h0
    have := ho.nil_of
    obtain rfl : l = [] := by cases l with | nil => rfl | cons x l => simp [zAX] at this
    cases a <;> simp [zBA]
  · obtain ⟨B, off, sp, rfl, h1, _⟩ := hs h0
    simp only [zBA]
    rw [if_neg h0]
    rw [Nat.mul_one] at h1
    simp only [h1, zKe]
theorem zE0 {h : Heap} {a : Addr} {n : Nat} {l : List Value} (hl : h.loadN a n = some l) : l.length = n := by
  unfold Heap.loadN at hl
  split at hl
  · rename_i c hc
    unfold zAo at hl
    cases hb : (a.off + n).ble c.cells.length with
    | false => rw [hb] at hl; cases hl
    | true =>
      rw [hb] at hl
      cases hl
      have := Nat.le_of_ble_eq_true hb
      simp; omega
  · cases hl
theorem zFR {h : Heap} {v : Value} {l : List (List UInt8)} (hs : zBA h v = some l) : ∃ a cap, v = .slice a l.length cap ∧ ∀ i, i < l.length → ∃ B o, (∀ k : IntKind, zAn 1 v (.int k (i : Int)) = some (.pointer (some ⟨B, o, none⟩))) ∧ h.load ⟨B, o, none⟩ = some (.string (zB (l.getD i []))) := by
  unfold zBA at hs
  split at hs
  · rename_i n c
    split at hs
    · rename_i h0
      cases hs
      subst h0
      exact ⟨none, c, rfl, fun i hi => by simp at hi⟩
    · cases hs
  · rename_i a n c
    split at hs
    · rename_i h0
      cases hs
      subst h0
      exact ⟨some a, c, rfl, fun i hi => by simp at hi⟩
    · split at hs
      · rename_i cs hcs
        obtain rfl := zKf hs
        have hn : l.length = n := by
          have := zE0 hcs
          rw [zUx] at this
          exact this
        subst hn
        exact ⟨some a, c, rfl, fun i hi => ⟨a.block, a.off + i, fun k => zCM hi, zEI hcs (zUw hi)⟩⟩
      · cases hs
  · cases hs
def zBS : Prim := fun args h => match args with
  | [.int .u8 p, v] => (match zBA h v with
    | some l => if 0 ≤ p ∧ p < 256 ∧ (zm l).length + 1000 ≤ zU then some (.string (zB (tagged (UInt8.ofNat p.toNat) l)), h) else none
    | none => none)
  | _ => none
theorem zDi {h : Heap} {v : Value} {l : List (List UInt8)} {p : Nat} (hs : zBA h v = some l) (hp : p < 256) (hr : (zm l).length + 1000 ≤ zU) : zBS [.int .u8 (OfNat.ofNat p), v] h = some (.string (zB (tagged (UInt8.ofNat p) l)), h) := by
  have e : (OfNat.ofNat p : Int) = (p : Int) := rfl
  simp only [zBS, hs, e]
  rw [if_pos ⟨by omega, by omega, hr⟩]
  simp
theorem zFA {l : List (List UInt8)} {i : Nat} (hi : i < l.length) : zm (l.take (i + 1)) = zm (l.take i) ++ zAV (l.getD i []).length ++ l.getD i [] := by
  unfold zm
  rw [List.take_succ_eq_append_getElem hi, List.flatMap_append, List.flatMap_cons, List.flatMap_nil, List.append_nil, List.append_assoc]
  simp [zB6, List.getD_eq_getElem?_getD, List.getElem?_eq_getElem hi]
theorem zJ1 {l : List (List UInt8)} {i : Nat} (hi : i < l.length) : (l.getD i []).length + 4 ≤ (zm l).length := by
  have h1 := zFA hi
  have h2 : zm l = zm (l.take (i + 1)) ++ zm (l.drop (i + 1)) := by
    unfold zm; rw [← List.flatMap_append, List.take_append_drop]
  rw [h2, h1]
  simp [zAV]
  omega
theorem zJ3 {l : List (List UInt8)} : l.length * 4 ≤ (zm l).length := by
  induction l with
  | nil => simp
  | cons s l ih =>
    unfold zm at ih ⊢
    simp only [List.flatMap_cons, List.length_append, List.length_cons, zB6, zAV] at ih ⊢
    simp only [List.length_nil]
    omega
end Go.X
end
section
open Go Go.X
namespace Go.X
set_option linter.unusedVariables false
theorem zDE {p : Nat} (hp : p < 256) {h : Heap} : zBE (h.new [uw .u8 p]) (.slice (some ⟨h.next, 0, none⟩) 1 1) = some (.string (zB [UInt8.ofNat p])) := by
  have hO := Own.newSlice (h := h) (l := zV [UInt8.ofNat p]) (n := 1) (esz := 1) (sp := none) rfl (.inl rfl)
  have := hO.cb2s
  rw [zBX] at this
  exact this
theorem zXH (pr : Prog) (T : zBv pr) (hf : pr.prim 89 = some (za zCn)) (p : Nat) (hp : p < 256) (h : Heap) (wf : HWF h) (v : Value) (l : List (List UInt8)) (hs : zBA h v = some l) (hr : (zm l).length + 1000 ≤ zU) :
    Comes pr xq64 [uw .u8 p, v] h (.string (zB (tagged (UInt8.ofNat p) l))) := by
  apply Comes.of
  unfold xq64
  dsimp only [zc]
  have hr64 : zU = 140737488355328 := rfl
  obtain ⟨a, cap, rfl, hel⟩ := zFR hs
  obtain ⟨_, h1, e1, rfl, d1, g1⟩ := New_B T h
  have g2 : Grows h (h1.new [uw .u8 p]) := g1.trans Grows.new
  obtain ⟨_, h3, e3, rfl, d3, k3⟩ := zFh T (d1.keep (W := zB5) (Grows.new (l := [uw .u8 p])).keeps (fun _ _ => id)) [UInt8.ofNat p] (by simp; omega)
  have g3 := g2.then k3 (fun A hA => by omega)
  (repeat (first | refine zS ?_ | refine zL ?_ | refine zR ?_ | refine zE ?_ | refine zC ?_ | refine zJ ?_ | refine zK ?_ | refine zP ?_ | refine zF ?_ | refine zH ?_ | refine zG ?_ | refine zI (by decide) ?_ | refine zQ ?_ | ((first | refine zD ?_ | refine zN ?_ | refine zT rfl rfl ?_ | refine zO rfl ?_ | refine zM ?_); simp only [yq64.down, zA, lemS.down, lemC.down, Int.reduceBEq, Nat.reduceAdd, Nat.reduceLeDiff, reduceIte, Nat.reduceEqDiff, Int.reduceLT, Int.reduceLE, Int.reduceGT, Int.reduceGE, Int.reduceEq, Int.reduceAdd, Int.reduceSub, Int.reduceMul, reduceCtorEq, lemH.down, lemW.down, e1, zDE hp, e3])))
  refine zo (fun m t g => ∃ i, m = l.length - i ∧ i ≤ l.length ∧ DigB g h.next h.next (UInt8.ofNat p :: zm (l.take i)) ∧ Grows h g ∧ t.get 5 = .pointer (some ⟨h.next, 0, none⟩) ∧ t.get 14 = .slice a l.length cap ∧ t.get 15 = .int .i64 (l.length : Int) ∧ t.get 16 = .int .i64 (i : Int)) ?_ l.length _ _ ⟨0, rfl, by omega, by simpa [zm] using d3, g3, by simp only [yq64.down, zA, lemS.down, lemC.down, Int.reduceBEq, Nat.reduceAdd, Nat.reduceLeDiff, reduceIte, Nat.reduceEqDiff, Int.reduceLT, Int.reduceLE, Int.reduceGT, Int.reduceGE, Int.reduceEq, Int.reduceAdd, Int.reduceSub, Int.reduceMul, reduceCtorEq], by simp only [yq64.down, zA, lemS.down, lemC.down, Int.reduceBEq, Nat.reduceAdd, Nat.reduceLeDiff, reduceIte, Nat.reduceEqDiff, Int.reduceLT, Int.reduceLE, Int.reduceGT, Int.reduceGE, Int.reduceEq, Int.reduceAdd, Int.reduceSub, Int.reduceMul, reduceCtorEq], by simp only [yq64.down, zA, lemS.down, lemC.down, Int.reduceBEq, Nat.reduceAdd, Nat.reduceLeDiff, reduceIte, Nat.reduceEqDiff, Int.reduceLT, Int.reduceLE, Int.reduceGT, Int.reduceGE, Int.reduceEq, Int.reduceAdd, Int.reduceSub, Int.reduceMul, reduceCtorEq], by (simp only [yq64.down, zA, lemS.down, lemC.down, Int.reduceBEq, Nat.reduceAdd, Nat.reduceLeDiff, reduceIte, Nat.reduceEqDiff, Int.reduceLT, Int.reduceLE, Int.reduceGT, Int.reduceGE, Int.reduceEq, Int.reduceAdd, Int.reduceSub, Int.reduceMul, reduceCtorEq]) <;> rfl⟩
  rintro m t g ⟨i, rfl, hi, gd, gg, t5, t14, t15, t16⟩ hnext
  refine xq64_9k ?_
  dsimp only [zIB]
  (repeat (first | refine zS ?_ | refine zL ?_ | refine zR ?_ | refine zE ?_ | refine zC ?_ | refine zJ ?_ | refine zK ?_ | refine zP ?_ | refine zF ?_ | refine zH ?_ | refine zG ?_ | refine zI (by decide) ?_ | refine zQ ?_ | ((first | refine zD ?_ | refine zN ?_ | refine zT rfl rfl ?_ | refine zO rfl ?_ | refine zM ?_); simp only [yq64.down, zA, lemS.down, lemC.down, Int.reduceBEq, Nat.reduceAdd, Nat.reduceLeDiff, reduceIte, Nat.reduceEqDiff, Int.reduceLT, Int.reduceLE, Int.reduceGT, Int.reduceGE, Int.reduceEq, Int.reduceAdd, Int.reduceSub, Int.reduceMul, reduceCtorEq, lemH.down, lemW.down, t5, t14, t15, t16])))
  refine ⟨fun hlt => ?_, fun hge => ?_⟩
  · have hi' : i < l.length := by omega
    have hpl := zJ1 hi'
    have hpc := zJ3 (l := l)
    have ww : IntKind.i64.wrap ((i : Int) + 1) = ((i + 1 : Nat) : Int) := by rw [wrap_i64 (by omega) (by omega)]; omega
    obtain ⟨B, o, ia, ld⟩ := hel i hi'
    have ld := gg.load wf ld
    have f4 := zf (h := g) hf (fourS_at (n := (l.getD i []).length) (by omega))
    obtain ⟨_, h4, e4, rfl, d4, k4⟩ := zFh T gd (zAV (l.getD i []).length) (by simp [zAV]; omega)
    obtain ⟨_, h5, e5, rfl, d5, k5⟩ := zFh T d4 (l.getD i []) (by omega)
    (repeat (first | refine zS ?_ | refine zL ?_ | refine zR ?_ | refine zE ?_ | refine zC ?_ | refine zJ ?_ | refine zK ?_ | refine zP ?_ | refine zF ?_ | refine zH ?_ | refine zG ?_ | refine zI (by decide) ?_ | refine zQ ?_ | ((first | refine zD ?_ | refine zN ?_ | refine zT rfl rfl ?_ | refine zO rfl ?_ | refine zM ?_); simp only [yq64.down, zA, lemS.down, lemC.down, Int.reduceBEq, Nat.reduceAdd, Nat.reduceLeDiff, reduceIte, Nat.reduceEqDiff, Int.reduceLT, Int.reduceLE, Int.reduceGT, Int.reduceGE, Int.reduceEq, Int.reduceAdd, Int.reduceSub, Int.reduceMul, reduceCtorEq, lemH.down, lemW.down, t5, t14, t15, t16, zAG, ia, ld, f4, e4, e5, ww])))
    refine hnext (l.length - (i + 1)) _ _ (by omega) ⟨i + 1, rfl, by omega, ?_, (gg.then k4 (fun A hA => by omega)).then k5 (fun A hA => by omega), by simp only [yq64.down, zA, lemS.down, lemC.down, Int.reduceBEq, Nat.reduceAdd, Nat.reduceLeDiff, reduceIte, Nat.reduceEqDiff, Int.reduceLT, Int.reduceLE, Int.reduceGT, Int.reduceGE, Int.reduceEq, Int.reduceAdd, Int.reduceSub, Int.reduceMul, reduceCtorEq, t5], by simp only [yq64.down, zA, lemS.down, lemC.down, Int.reduceBEq, Nat.reduceAdd, Nat.reduceLeDiff, reduceIte, Nat.reduceEqDiff, Int.reduceLT, Int.reduceLE, Int.reduceGT, Int.reduceGE, Int.reduceEq, Int.reduceAdd, Int.reduceSub, Int.reduceMul, reduceCtorEq, t14], by simp only [yq64.down, zA, lemS.down, lemC.down, Int.reduceBEq, Nat.reduceAdd, Nat.reduceLeDiff, reduceIte, Nat.reduceEqDiff, Int.reduceLT, Int.reduceLE, Int.reduceGT, Int.reduceGE, Int.reduceEq, Int.reduceAdd, Int.reduceSub, Int.reduceMul, reduceCtorEq, t15], by simp only [yq64.down, zA, lemS.down, lemC.down, Int.reduceBEq, Nat.reduceAdd, Nat.reduceLeDiff, reduceIte, Nat.reduceEqDiff, Int.reduceLT, Int.reduceLE, Int.reduceGT, Int.reduceGE, Int.reduceEq, Int.reduceAdd, Int.reduceSub, Int.reduceMul, reduceCtorEq]⟩
    rw [zFA hi']
    simpa using d5
  · obtain rfl : i = l.length := by omega
    rw [List.take_length] at gd
    obtain ⟨_, h6, e6, rfl, g6⟩ := Sum_B T gd
    (repeat (first | refine zS ?_ | refine zL ?_ | refine zR ?_ | refine zE ?_ | refine zC ?_ | refine zJ ?_ | refine zK ?_ | refine zP ?_ | refine zF ?_ | refine zH ?_ | refine zG ?_ | refine zI (by decide) ?_ | refine zQ ?_ | ((first | refine zD ?_ | refine zN ?_ | refine zT rfl rfl ?_ | refine zO rfl ?_ | refine zM ?_); simp only [yq64.down, zA, lemS.down, lemC.down, Int.reduceBEq, Nat.reduceAdd, Nat.reduceLeDiff, reduceIte, Nat.reduceEqDiff, Int.reduceLT, Int.reduceLE, Int.reduceGT, Int.reduceGE, Int.reduceEq, Int.reduceAdd, Int.reduceSub, Int.reduceMul, reduceCtorEq, lemH.down, lemW.down, t5, t14, t15, t16, e6])))
    exact ⟨.inr rfl, by (simp only [yq64.down, zA, lemS.down, lemC.down, Int.reduceBEq, Nat.reduceAdd, Nat.reduceLeDiff, reduceIte, Nat.reduceEqDiff, Int.reduceLT, Int.reduceLE, Int.reduceGT, Int.reduceGE, Int.reduceEq, Int.reduceAdd, Int.reduceSub, Int.reduceMul, reduceCtorEq]) <;> rfl, gg.trans g6⟩
theorem zWu (pr : Prog) (hs9 : pr.prim 18 = some (za shaS)) (p : Nat) (hp : p < 256) (h : Heap) (wf : HWF h) (v : Value) (l : List (List UInt8)) (hs : zBA h v = some l) (hr : (zm l).length + 1000 ≤ zU) :
    Comes pr xq28 [uw .u8 p, v] h (.string (zB (tagged (UInt8.ofNat p) l))) := by
  apply Comes.of
  unfold xq28
  dsimp only [zc]
  have hr64 : zU = 140737488355328 := rfl
  obtain ⟨a, cap, rfl, hel⟩ := zFR hs
  have g1 : Grows h (h.new [uw .u8 p]) := Grows.new
  (repeat (first | refine zS ?_ | refine zL ?_ | refine zR ?_ | refine zE ?_ | refine zC ?_ | refine zJ ?_ | refine zK ?_ | refine zP ?_ | refine zF ?_ | refine zH ?_ | refine zG ?_ | refine zI (by decide) ?_ | refine zQ ?_ | ((first | refine zD ?_ | refine zN ?_ | refine zT rfl rfl ?_ | refine zO rfl ?_ | refine zM ?_); simp only [yq28.down, zA, lemS.down, lemC.down, Int.reduceBEq, Nat.reduceAdd, Nat.reduceLeDiff, reduceIte, Nat.reduceEqDiff, Int.reduceLT, Int.reduceLE, Int.reduceGT, Int.reduceGE, Int.reduceEq, Int.reduceAdd, Int.reduceSub, Int.reduceMul, reduceCtorEq, lemH.down, lemW.down, zDE hp])))
  generalize h.new [uw .u8 p] = h1 at *
  refine zo (fun m t g => ∃ i, m = l.length - i ∧ i ≤ l.length ∧ Grows h g ∧ t.get 1 = .slice a l.length cap ∧ t.get 5 = .string (zB (UInt8.ofNat p :: zm (l.take i))) ∧ t.get 6 = .int .i64 (i : Int)) ?_ l.length _ _ ⟨0, rfl, by omega, g1, by simp only [yq28.down, zA, lemS.down, lemC.down, Int.reduceBEq, Nat.reduceAdd, Nat.reduceLeDiff, reduceIte, Nat.reduceEqDiff, Int.reduceLT, Int.reduceLE, Int.reduceGT, Int.reduceGE, Int.reduceEq, Int.reduceAdd, Int.reduceSub, Int.reduceMul, reduceCtorEq], by (simp only [yq28.down, zA, lemS.down, lemC.down, Int.reduceBEq, Nat.reduceAdd, Nat.reduceLeDiff, reduceIte, Nat.reduceEqDiff, Int.reduceLT, Int.reduceLE, Int.reduceGT, Int.reduceGE, Int.reduceEq, Int.reduceAdd, Int.reduceSub, Int.reduceMul, reduceCtorEq]) <;> rfl, by (simp only [yq28.down, zA, lemS.down, lemC.down, Int.reduceBEq, Nat.reduceAdd, Nat.reduceLeDiff, reduceIte, Nat.reduceEqDiff, Int.reduceLT, Int.reduceLE, Int.reduceGT, Int.reduceGE, Int.reduceEq, Int.reduceAdd, Int.reduceSub, Int.reduceMul, reduceCtorEq]) <;> rfl⟩
  rintro m t g ⟨i, rfl, hi, gg, t1, t5, t6⟩ hnext
  refine xq28_7k ?_
  dsimp only [zH1]
  (repeat (first | refine zS ?_ | refine zL ?_ | refine zR ?_ | refine zE ?_ | refine zC ?_ | refine zJ ?_ | refine zK ?_ | refine zP ?_ | refine zF ?_ | refine zH ?_ | refine zG ?_ | refine zI (by decide) ?_ | refine zQ ?_ | ((first | refine zD ?_ | refine zN ?_ | refine zT rfl rfl ?_ | refine zO rfl ?_ | refine zM ?_); simp only [yq28.down, zA, lemS.down, lemC.down, Int.reduceBEq, Nat.reduceAdd, Nat.reduceLeDiff, reduceIte, Nat.reduceEqDiff, Int.reduceLT, Int.reduceLE, Int.reduceGT, Int.reduceGE, Int.reduceEq, Int.reduceAdd, Int.reduceSub, Int.reduceMul, reduceCtorEq, lemH.down, lemW.down, t1, t5, t6])))
  have hple : (zm (l.take i)).length ≤ (zm l).length := by
    have h2 : zm l = zm (l.take i) ++ zm (l.drop i) := by
      unfold zm; rw [← List.flatMap_append, List.take_append_drop]
    rw [h2]; simp
  refine ⟨fun hlt => ?_, fun hge => ?_⟩
  · have hi' : i < l.length := by omega
    have hpl := zJ1 hi'
    have hpc := zJ3 (l := l)
    have ww : IntKind.i64.wrap ((i : Int) + 1) = ((i + 1 : Nat) : Int) := by rw [wrap_i64 (by omega) (by omega)]; omega
    obtain ⟨B, o, ia, ld⟩ := hel i hi'
    have ld0 := gg.load wf ld
    have q24 := zFB (k := .i64) (a := (l.getD i []).length) (b := 16777216) (by decide)
    have q16 := zFB (k := .i64) (a := (l.getD i []).length) (b := 65536) (by decide)
    have q8 := zFB (k := .i64) (a := (l.getD i []).length) (b := 256) (by decide)
    rw [wrap_i64 (by omega) (by omega)] at q24 q16 q8
    simp only [Int.cast_ofNat_Int] at q24 q16 q8
    have c := fun n => zBU (k := .u8) (k' := .i64) zHD (n := n)
    have hO := Own.newSlice (h := g) (l := zV (zAV (l.getD i []).length)) (n := 4) (esz := 1) (sp := none) (by rw [zEt]; rfl) (.inl rfl)
    have hb := hO.cb2s
    have ld2 := (gg.trans (Grows.new (l := zV (zAV (l.getD i []).length)))).load wf ld
    rw [zEt] at hb ld2
    have fl : ∀ n, (zAV n).length = 4 := fun _ => rfl
    have cat1 := zA4 (a := zAV (l.getD i []).length) (b := l.getD i []) (by rw [fl]; omega)
    have cat2 := zA4 (a := UInt8.ofNat p :: zm (l.take i)) (b := zAV (l.getD i []).length ++ l.getD i []) (by
      have h3 : (zm (l.take i)).length + 4 + (l.getD i []).length ≤ (zm l).length := by
        have h2 : zm l = zm (l.take (i + 1)) ++ zm (l.drop (i + 1)) := by
          unfold zm; rw [← List.flatMap_append, List.take_append_drop]
        rw [h2, zFA hi', List.length_append, List.length_append, List.length_append, fl]
        omega
      rw [List.length_append, List.length_cons, fl]; omega)
    (repeat (first | refine zS ?_ | refine zL ?_ | refine zR ?_ | refine zE ?_ | refine zC ?_ | refine zJ ?_ | refine zK ?_ | refine zP ?_ | refine zF ?_ | refine zH ?_ | refine zG ?_ | refine zI (by decide) ?_ | refine zQ ?_ | ((first | refine zD ?_ | refine zN ?_ | refine zT rfl rfl ?_ | refine zO rfl ?_ | refine zM ?_); simp only [yq28.down, zA, lemS.down, lemC.down, Int.reduceBEq, Nat.reduceAdd, Nat.reduceLeDiff, reduceIte, Nat.reduceEqDiff, Int.reduceLT, Int.reduceLE, Int.reduceGT, Int.reduceGE, Int.reduceEq, Int.reduceAdd, Int.reduceSub, Int.reduceMul, reduceCtorEq, lemH.down, lemW.down, t1, t5, t6, zAG, ia, ld0, q24, q16, q8, c, fill4', hb, ld2, cat1, cat2, ww])))
    refine hnext (l.length - (i + 1)) _ _ (by omega) ⟨i + 1, rfl, by omega, gg.trans Grows.new, by simp only [yq28.down, zA, lemS.down, lemC.down, Int.reduceBEq, Nat.reduceAdd, Nat.reduceLeDiff, reduceIte, Nat.reduceEqDiff, Int.reduceLT, Int.reduceLE, Int.reduceGT, Int.reduceGE, Int.reduceEq, Int.reduceAdd, Int.reduceSub, Int.reduceMul, reduceCtorEq, t1], ?_, by simp only [yq28.down, zA, lemS.down, lemC.down, Int.reduceBEq, Nat.reduceAdd, Nat.reduceLeDiff, reduceIte, Nat.reduceEqDiff, Int.reduceLT, Int.reduceLE, Int.reduceGT, Int.reduceGE, Int.reduceEq, Int.reduceAdd, Int.reduceSub, Int.reduceMul, reduceCtorEq]⟩
    simp only [yq28.down, zA, lemS.down, lemC.down, Int.reduceBEq, Nat.reduceAdd, Nat.reduceLeDiff, reduceIte, Nat.reduceEqDiff, Int.reduceLT, Int.reduceLE, Int.reduceGT, Int.reduceGE, Int.reduceEq, Int.reduceAdd, Int.reduceSub, Int.reduceMul, reduceCtorEq]
    rw [zFA hi']
    simp
  · obtain rfl : i = l.length := by omega
    rw [List.take_length] at t5
    have sm := zf (h := g) hs9 (zCX (s := UInt8.ofNat p :: zm l) (by simp; omega))
    (repeat (first | refine zS ?_ | refine zL ?_ | refine zR ?_ | refine zE ?_ | refine zC ?_ | refine zJ ?_ | refine zK ?_ | refine zP ?_ | refine zF ?_ | refine zH ?_ | refine zG ?_ | refine zI (by decide) ?_ | refine zQ ?_ | ((first | refine zD ?_ | refine zN ?_ | refine zT rfl rfl ?_ | refine zO rfl ?_ | refine zM ?_); simp only [yq28.down, zA, lemS.down, lemC.down, Int.reduceBEq, Nat.reduceAdd, Nat.reduceLeDiff, reduceIte, Nat.reduceEqDiff, Int.reduceLT, Int.reduceLE, Int.reduceGT, Int.reduceGE, Int.reduceEq, Int.reduceAdd, Int.reduceSub, Int.reduceMul, reduceCtorEq, lemH.down, lemW.down, t1, t5, t6, sm])))
    exact ⟨.inr rfl, by (simp only [yq28.down, zA, lemS.down, lemC.down, Int.reduceBEq, Nat.reduceAdd, Nat.reduceLeDiff, reduceIte, Nat.reduceEqDiff, Int.reduceLT, Int.reduceLE, Int.reduceGT, Int.reduceGE, Int.reduceEq, Int.reduceAdd, Int.reduceSub, Int.reduceMul, reduceCtorEq]) <;> rfl, gg⟩
end Go.X
end
section
open Go Go.X
namespace Go.X
set_option linter.unusedVariables false
def zy (h : Heap) (a : Addr) : Option (List (List UInt8)) := match h.load a with | some v => zBA h v | none => none
def keyP (l : List (List UInt8)) (i : Int) : List UInt8 × Bool := if 0 ≤ i ∧ i < l.length then (l.getD i.toNat [], true) else ([], false)
def keyG : Prim := fun args h => match args with
  | [.pointer none, .int .i64 _] => some (.tuple #[.string (zB []), .bool false], h)
  | [.pointer (some a), .int .i64 i] => (match zy h a with
    | some l => some (.tuple #[.string (zB (keyP l i).1), .bool (keyP l i).2], h)
    | none => none)
  | _ => none
theorem zJe {h : Heap} {a : Addr} {l : List (List UInt8)} {i : Int} (hr : zy h a = some l) : keyG [.pointer (some a), .int .i64 i] h = some (.tuple #[.string (zB (keyP l i).1), .bool (keyP l i).2], h) := by simp only [keyG, hr]
theorem zGn {h : Heap} {a : Addr} {l : List (List UInt8)} (hr : zy h a = some l) : ∃ v, h.load a = some v ∧ zBA h v = some l := by
  unfold zy at hr
  split at hr
  · rename_i v hv; exact ⟨v, hv, hr⟩
  · cases hr
theorem key_ok (pr : Prog) (h : Heap) (a : Addr) (l : List (List UInt8)) (i : Int) (hr : zy h a = some l) : Comes pr xq23 [.pointer (some a), .int .i64 i] h (.tuple #[.string (zB (keyP l i).1), .bool (keyP l i).2]) := by
  apply Comes.of
  unfold xq23
  dsimp only [zc]
  obtain ⟨v, hv, hs⟩ := zGn hr
  obtain ⟨b, cap, rfl, hel⟩ := zFR hs
  have ld : ∀ sp, h.load ⟨a.block, a.off, sp⟩ = some (.slice b l.length cap) := fun sp => hv
  by_cases hi : i < 0
  · have d1 : decide (i < 0) = true := by simpa using hi
    (repeat (first | refine zS ?_ | refine zL ?_ | refine zR ?_ | refine zE ?_ | refine zC ?_ | refine zJ ?_ | refine zK ?_ | refine zP ?_ | refine zF ?_ | refine zH ?_ | refine zG ?_ | refine zI (by decide) ?_ | refine zQ ?_ | ((first | refine zD ?_ | refine zN ?_ | refine zT rfl rfl ?_ | refine zO rfl ?_ | refine zM ?_); simp only [yq23.down, zA, lemS.down, lemC.down, Int.reduceBEq, Nat.reduceAdd, Nat.reduceLeDiff, reduceIte, Nat.reduceEqDiff, Int.reduceLT, Int.reduceLE, Int.reduceGT, Int.reduceGE, Int.reduceEq, Int.reduceAdd, Int.reduceSub, Int.reduceMul, reduceCtorEq, lemH.down, zB1, d1])))
    refine ⟨.inr rfl, ?_, Grows.refl h⟩
    simp only [yq23.down, zA, lemS.down, lemC.down, Int.reduceBEq, Nat.reduceAdd, Nat.reduceLeDiff, reduceIte, Nat.reduceEqDiff, Int.reduceLT, Int.reduceLE, Int.reduceGT, Int.reduceGE, Int.reduceEq, Int.reduceAdd, Int.reduceSub, Int.reduceMul, reduceCtorEq]
    unfold keyP
    rw [if_neg (by omega)]
  · have d1 : decide (i < 0) = false := by simpa using hi
    (repeat (first | refine zS ?_ | refine zL ?_ | refine zR ?_ | refine zE ?_ | refine zC ?_ | refine zJ ?_ | refine zK ?_ | refine zP ?_ | refine zF ?_ | refine zH ?_ | refine zG ?_ | refine zI (by decide) ?_ | refine zQ ?_ | ((first | refine zD ?_ | refine zN ?_ | refine zT rfl rfl ?_ | refine zO rfl ?_ | refine zM ?_); simp only [yq23.down, zA, lemS.down, lemC.down, Int.reduceBEq, Nat.reduceAdd, Nat.reduceLeDiff, reduceIte, Nat.reduceEqDiff, Int.reduceLT, Int.reduceLE, Int.reduceGT, Int.reduceGE, Int.reduceEq, Int.reduceAdd, Int.reduceSub, Int.reduceMul, reduceCtorEq, lemH.down, zB1, d1, Nat.add_zero, ld])))
    refine ⟨fun hge => ?_, fun hlt => ?_⟩
    · (repeat (first | refine zS ?_ | refine zL ?_ | refine zR ?_ | refine zE ?_ | refine zC ?_ | refine zJ ?_ | refine zK ?_ | refine zP ?_ | refine zF ?_ | refine zH ?_ | refine zG ?_ | refine zI (by decide) ?_ | refine zQ ?_ | ((first | refine zD ?_ | refine zN ?_ | refine zT rfl rfl ?_ | refine zO rfl ?_ | refine zM ?_); simp only [yq23.down, zA, lemS.down, lemC.down, Int.reduceBEq, Nat.reduceAdd, Nat.reduceLeDiff, reduceIte, Nat.reduceEqDiff, Int.reduceLT, Int.reduceLE, Int.reduceGT, Int.reduceGE, Int.reduceEq, Int.reduceAdd, Int.reduceSub, Int.reduceMul, reduceCtorEq, lemH.down])))
      refine ⟨.inr rfl, ?_, Grows.refl h⟩
      simp only [yq23.down, zA, lemS.down, lemC.down, Int.reduceBEq, Nat.reduceAdd, Nat.reduceLeDiff, reduceIte, Nat.reduceEqDiff, Int.reduceLT, Int.reduceLE, Int.reduceGT, Int.reduceGE, Int.reduceEq, Int.reduceAdd, Int.reduceSub, Int.reduceMul, reduceCtorEq]
      unfold keyP
      rw [if_neg (by omega)]
    · obtain ⟨n, rfl⟩ : ∃ n : Nat, i = (n : Int) := ⟨i.toNat, by omega⟩
      obtain ⟨B, o, ia, lo⟩ := hel n (by omega)
      (repeat (first | refine zS ?_ | refine zL ?_ | refine zR ?_ | refine zE ?_ | refine zC ?_ | refine zJ ?_ | refine zK ?_ | refine zP ?_ | refine zF ?_ | refine zH ?_ | refine zG ?_ | refine zI (by decide) ?_ | refine zQ ?_ | ((first | refine zD ?_ | refine zN ?_ | refine zT rfl rfl ?_ | refine zO rfl ?_ | refine zM ?_); simp only [yq23.down, zA, lemS.down, lemC.down, Int.reduceBEq, Nat.reduceAdd, Nat.reduceLeDiff, reduceIte, Nat.reduceEqDiff, Int.reduceLT, Int.reduceLE, Int.reduceGT, Int.reduceGE, Int.reduceEq, Int.reduceAdd, Int.reduceSub, Int.reduceMul, reduceCtorEq, lemH.down, Nat.add_zero, ld, zAG, ia, lo])))
      refine ⟨.inr rfl, ?_, Grows.refl h⟩
      simp only [yq23.down, zA, lemS.down, lemC.down, Int.reduceBEq, Nat.reduceAdd, Nat.reduceLeDiff, reduceIte, Nat.reduceEqDiff, Int.reduceLT, Int.reduceLE, Int.reduceGT, Int.reduceGE, Int.reduceEq, Int.reduceAdd, Int.reduceSub, Int.reduceMul, reduceCtorEq]
      unfold keyP
      rw [if_pos (by omega)]
      rfl
def zGp : Prim := fun args h => match args with
  | [.pointer none] => some (.int .i64 0, h)
  | [.pointer (some a)] => (match zy h a with | some l => some (.int .i64 (l.length : Int), h) | none => none)
  | _ => none
theorem zWo (pr : Prog) (h : Heap) (a : Addr) (l : List (List UInt8)) (hr : zy h a = some l) : Comes pr xq25 [.pointer (some a)] h (.int .i64 (l.length : Int)) := by
  apply Comes.of
  unfold xq25
  dsimp only [zc]
  obtain ⟨v, hv, hs⟩ := zGn hr
  obtain ⟨b, cap, rfl, hel⟩ := zFR hs
  have ld : ∀ sp, h.load ⟨a.block, a.off, sp⟩ = some (.slice b l.length cap) := fun sp => hv
  (repeat (first | refine zS ?_ | refine zL ?_ | refine zR ?_ | refine zE ?_ | refine zC ?_ | refine zJ ?_ | refine zK ?_ | refine zP ?_ | refine zF ?_ | refine zH ?_ | refine zG ?_ | refine zI (by decide) ?_ | refine zQ ?_ | ((first | refine zD ?_ | refine zN ?_ | refine zT rfl rfl ?_ | refine zO rfl ?_ | refine zM ?_); simp only [yq25.down, zA, lemS.down, lemC.down, Int.reduceBEq, Nat.reduceAdd, Nat.reduceLeDiff, reduceIte, Nat.reduceEqDiff, Int.reduceLT, Int.reduceLE, Int.reduceGT, Int.reduceGE, Int.reduceEq, Int.reduceAdd, Int.reduceSub, Int.reduceMul, reduceCtorEq, lemH.down, zB1, Nat.add_zero, ld])))
  exact ⟨.inr rfl, by simp only [yq25.down, zA, lemS.down, lemC.down, Int.reduceBEq, Nat.reduceAdd, Nat.reduceLeDiff, reduceIte, Nat.reduceEqDiff, Int.reduceLT, Int.reduceLE, Int.reduceGT, Int.reduceGE, Int.reduceEq, Int.reduceAdd, Int.reduceSub, Int.reduceMul, reduceCtorEq], Grows.refl h⟩
def zAW (l : List (List UInt8)) : Bool := l.all fun k => Nat.ble (k.length + 400) zU
theorem zJi {l : List (List UInt8)} (h : zAW l = true) (i : Nat) : (l.getD i []).length + 400 ≤ zU := by
  unfold zAW at h
  rw [List.all_eq_true] at h
  by_cases hi : i < l.length
  · have := h (l.getD i []) (by simp [List.getD_eq_getElem?_getD, List.getElem?_eq_getElem hi])
    exact Nat.le_of_ble_eq_true this
  · rw [List.getD_eq_getElem?_getD, List.getElem?_eq_none (by omega)]
    decide
def tagP (l : List (List UInt8)) (i : Int) (s : List UInt8) : List UInt8 × Nat := if (keyP l i).2 then (mac (keyP l i).1 s, 0) else ([], 2)
def zDX : Prim := fun args h => match args with
  | [.pointer none, .int .i64 _, .string _] => some (.tuple #[.string (zB []), .int .i64 2], h)
  | [.pointer (some a), .int .i64 i, .string s] => (match zy h a with
    | some l => if zAW l = true ∧ s.data.toList.length + 500 ≤ zU then some (.tuple #[.string (zB (tagP l i s.data.toList).1), .int .i64 ((tagP l i s.data.toList).2 : Int)], h) else none
    | none => none)
  | _ => none
theorem zWp {h : Heap} {a : Addr} {l : List (List UInt8)} {i : Int} {s : List UInt8} (hr : zy h a = some l) (hk : zAW l = true) (hs : s.length + 500 ≤ zU) : zDX [.pointer (some a), .int .i64 i, .string (zB s)] h = some (.tuple #[.string (zB (tagP l i s).1), .int .i64 ((tagP l i s).2 : Int)], h) := by
  simp only [zDX, hr, zAh]
  rw [if_pos ⟨hk, hs⟩]
theorem zWq (pr : Prog) (hp : pr.prim 23 = some keyG) (ht : pr.prim 17 = some (za tagS)) (h : Heap) (a : Addr) (l : List (List UInt8)) (i : Int) (s : List UInt8) (hr : zy h a = some l) (hk : zAW l = true) (hs : s.length + 500 ≤ zU) :
    Comes pr xq24 [.pointer (some a), .int .i64 i, .string (zB s)] h (.tuple #[.string (zB (tagP l i s).1), .int .i64 ((tagP l i s).2 : Int)]) := by
  apply Comes.of
  unfold xq24
  dsimp only [zc]
  have k1 := zq hp (zJe (i := i) hr)
  (repeat (first | refine zS ?_ | refine zL ?_ | refine zR ?_ | refine zE ?_ | refine zC ?_ | refine zJ ?_ | refine zK ?_ | refine zP ?_ | refine zF ?_ | refine zH ?_ | refine zG ?_ | refine zI (by decide) ?_ | refine zQ ?_ | ((first | refine zD ?_ | refine zN ?_ | refine zT rfl rfl ?_ | refine zO rfl ?_ | refine zM ?_); simp only [yq24.down, zA, lemS.down, lemC.down, Int.reduceBEq, Nat.reduceAdd, Nat.reduceLeDiff, reduceIte, Nat.reduceEqDiff, Int.reduceLT, Int.reduceLE, Int.reduceGT, Int.reduceGE, Int.reduceEq, Int.reduceAdd, Int.reduceSub, Int.reduceMul, reduceCtorEq, k1])))
  unfold tagP
  refine ⟨fun hc => ?_, fun hc => ?_⟩
  · (repeat (first | refine zS ?_ | refine zL ?_ | refine zR ?_ | refine zE ?_ | refine zC ?_ | refine zJ ?_ | refine zK ?_ | refine zP ?_ | refine zF ?_ | refine zH ?_ | refine zG ?_ | refine zI (by decide) ?_ | refine zQ ?_ | ((first | refine zD ?_ | refine zN ?_ | refine zT rfl rfl ?_ | refine zO rfl ?_ | refine zM ?_); simp only [yq24.down, zA, lemS.down, lemC.down, Int.reduceBEq, Nat.reduceAdd, Nat.reduceLeDiff, reduceIte, Nat.reduceEqDiff, Int.reduceLT, Int.reduceLE, Int.reduceGT, Int.reduceGE, Int.reduceEq, Int.reduceAdd, Int.reduceSub, Int.reduceMul, reduceCtorEq])))
    refine ⟨.inr rfl, ?_, Grows.refl h⟩
    (simp only [yq24.down, zA, lemS.down, lemC.down, Int.reduceBEq, Nat.reduceAdd, Nat.reduceLeDiff, reduceIte, Nat.reduceEqDiff, Int.reduceLT, Int.reduceLE, Int.reduceGT, Int.reduceGE, Int.reduceEq, Int.reduceAdd, Int.reduceSub, Int.reduceMul, reduceCtorEq, hc]) <;> rfl
  · have hkl : (keyP l i).1.length + 400 ≤ zU := by
      unfold keyP; split
      · exact zJi hk _
      · decide
    (repeat (first | refine zS ?_ | refine zL ?_ | refine zR ?_ | refine zE ?_ | refine zC ?_ | refine zJ ?_ | refine zK ?_ | refine zP ?_ | refine zF ?_ | refine zH ?_ | refine zG ?_ | refine zI (by decide) ?_ | refine zQ ?_ | ((first | refine zD ?_ | refine zN ?_ | refine zT rfl rfl ?_ | refine zO rfl ?_ | refine zM ?_); simp only [yq24.down, zA, lemS.down, lemC.down, Int.reduceBEq, Nat.reduceAdd, Nat.reduceLeDiff, reduceIte, Nat.reduceEqDiff, Int.reduceLT, Int.reduceLE, Int.reduceGT, Int.reduceGE, Int.reduceEq, Int.reduceAdd, Int.reduceSub, Int.reduceMul, reduceCtorEq, zf ht (zG8 (k := (keyP l i).1) (s := s) hkl hs)])))
    refine ⟨.inr rfl, ?_, Grows.refl h⟩
    (simp only [yq24.down, zA, lemS.down, lemC.down, Int.reduceBEq, Nat.reduceAdd, Nat.reduceLeDiff, reduceIte, Nat.reduceEqDiff, Int.reduceLT, Int.reduceLE, Int.reduceGT, Int.reduceGE, Int.reduceEq, Int.reduceAdd, Int.reduceSub, Int.reduceMul, reduceCtorEq, hc]) <;> rfl
def zCg (l : List (List UInt8)) (i : Int) (s t : List UInt8) : Bool := (keyP l i).2 && (mac (keyP l i).1 s == t)
def zDW : Prim := fun args h => match args with
  | [.pointer none, .int .i64 _, .string _, .string _] => some (.bool false, h)
  | [.pointer (some a), .int .i64 i, .string s, .string t] => (match zy h a with
    | some l => if zAW l = true ∧ s.data.toList.length + 500 ≤ zU then some (.bool (zCg l i s.data.toList t.data.toList), h) else none
    | none => none)
  | _ => none
theorem zWk {h : Heap} {a : Addr} {l : List (List UInt8)} {i : Int} {s t : List UInt8} (hr : zy h a = some l) (hk : zAW l = true) (hs : s.length + 500 ≤ zU) : zDW [.pointer (some a), .int .i64 i, .string (zB s), .string (zB t)] h = some (.bool (zCg l i s t), h) := by
  simp only [zDW, hr, zAh]
  rw [if_pos ⟨hk, hs⟩]
theorem zWl (pr : Prog) (hp : pr.prim 23 = some keyG) (ht : pr.prim 20 = some (za zCh)) (h : Heap) (a : Addr) (l : List (List UInt8)) (i : Int) (s t : List UInt8) (hr : zy h a = some l) (hk : zAW l = true) (hs : s.length + 500 ≤ zU) :
    Comes pr xq26 [.pointer (some a), .int .i64 i, .string (zB s), .string (zB t)] h (.bool (zCg l i s t)) := by
  apply Comes.of
  unfold xq26
  dsimp only [zc]
  have k1 := zq hp (zJe (i := i) hr)
  have hkl : (keyP l i).1.length + 400 ≤ zU := by
    unfold keyP; split
    · exact zJi hk _
    · decide
  have c1 := zf (h := h) ht (zVD (k := (keyP l i).1) (s := s) (t := t) hkl hs)
  unfold zCg
  cases hc : (keyP l i).2
  · (repeat (first | refine zS ?_ | refine zL ?_ | refine zR ?_ | refine zE ?_ | refine zC ?_ | refine zJ ?_ | refine zK ?_ | refine zP ?_ | refine zF ?_ | refine zH ?_ | refine zG ?_ | refine zI (by decide) ?_ | refine zQ ?_ | ((first | refine zD ?_ | refine zN ?_ | refine zT rfl rfl ?_ | refine zO rfl ?_ | refine zM ?_); simp only [yq26.down, zA, lemS.down, lemC.down, Int.reduceBEq, Nat.reduceAdd, Nat.reduceLeDiff, reduceIte, Nat.reduceEqDiff, Int.reduceLT, Int.reduceLE, Int.reduceGT, Int.reduceGE, Int.reduceEq, Int.reduceAdd, Int.reduceSub, Int.reduceMul, reduceCtorEq, k1, hc])))
    exact ⟨.inr rfl, by (simp only [yq26.down, zA, lemS.down, lemC.down, Int.reduceBEq, Nat.reduceAdd, Nat.reduceLeDiff, reduceIte, Nat.reduceEqDiff, Int.reduceLT, Int.reduceLE, Int.reduceGT, Int.reduceGE, Int.reduceEq, Int.reduceAdd, Int.reduceSub, Int.reduceMul, reduceCtorEq]) <;> rfl, Grows.refl h⟩
  · (repeat (first | refine zS ?_ | refine zL ?_ | refine zR ?_ | refine zE ?_ | refine zC ?_ | refine zJ ?_ | refine zK ?_ | refine zP ?_ | refine zF ?_ | refine zH ?_ | refine zG ?_ | refine zI (by decide) ?_ | refine zQ ?_ | ((first | refine zD ?_ | refine zN ?_ | refine zT rfl rfl ?_ | refine zO rfl ?_ | refine zM ?_); simp only [yq26.down, zA, lemS.down, lemC.down, Int.reduceBEq, Nat.reduceAdd, Nat.reduceLeDiff, reduceIte, Nat.reduceEqDiff, Int.reduceLT, Int.reduceLE, Int.reduceGT, Int.reduceGE, Int.reduceEq, Int.reduceAdd, Int.reduceSub, Int.reduceMul, reduceCtorEq, k1, hc, c1])))
    exact ⟨.inr rfl, by (simp only [yq26.down, zA, lemS.down, lemC.down, Int.reduceBEq, Nat.reduceAdd, Nat.reduceLeDiff, reduceIte, Nat.reduceEqDiff, Int.reduceLT, Int.reduceLE, Int.reduceGT, Int.reduceGE, Int.reduceEq, Int.reduceAdd, Int.reduceSub, Int.reduceMul, reduceCtorEq]) <;> rfl, Grows.refl h⟩
end Go.X
end
section
open Go Go.X
namespace Go.X
set_option linter.unusedVariables false
def zA1 (s : List UInt8) (i : Nat) : List UInt8 := tagged 75 [s, [UInt8.ofNat i]]
def zBH (s : List UInt8) (n : Nat) : List (List UInt8) := (List.range n).map (zA1 s)
theorem zKF (s : List UInt8) (n : Nat) : (zBH s n).length = n := by simp [zBH]
theorem zWm {s : List UInt8} {n i : Nat} (hi : i < n) : (zBH s n).getD i [] = zA1 s i := by
  simp [zBH, List.getD_eq_getElem?_getD, List.getElem?_map, hi]
theorem zWn (s : List UInt8) (n : Nat) : zAW (zBH s n) = true := by
  unfold zAW zBH
  rw [List.all_eq_true]
  intro k hk
  obtain ⟨i, _, rfl⟩ := List.mem_map.1 hk
  refine Nat.ble_eq_true_of_le ?_
  unfold zA1
  rw [zEZ]; decide
theorem fill2s {z w : Value} {a b : ByteArray} : zt [z, w] [(0, 1, .string a), (1, 1, .string b)] = some [.string a, .string b] := by simp [zt, zI3, putN]
theorem zKn {h : Heap} {a b : List UInt8} : zBA (h.new [.string (zB a), .string (zB b)]) (.slice (some ⟨h.next, 0, none⟩) 2 2) = some [a, b] :=
  (Own.newSlice (h := h) (l := zAX [a, b]) (n := 2) (esz := 1) (sp := none) rfl (.inl rfl)).strs
theorem zUv {a b : List (List UInt8)} : zAX (a ++ b) = zAX a ++ zAX b := by simp [zAX]
theorem zUQ (pr : Prog) (ht : pr.prim 64 = some zBS) (hn : pr.prim 27 = none) (hc : pr.code 27 = some xq27) (h : Heap) (s : List UInt8) (n : Nat) (hb : n ≤ 16) (hs : s.length + 2000 ≤ zU) :
    ∃ v h', cfi pr 27 [.string (zB s), .int .i64 (n : Int)] h = some (v, h') ∧ v = .tuple #[.pointer (some ⟨h.next, 0, none⟩), .int .i64 0] ∧ (∃ w, Var h' h.next [w] ∧ Own h' (fun A => h.next ≤ A ∧ A ≠ h.next) 1 w n (zAX (zBH s n))) ∧ Grows h h' := by
  refine zAg hn hc rfl ?_
  unfold xq27
  dsimp only [zc]
  refine wpk.out (k := []) ?_
  have hr64 : zU = 140737488355328 := rfl
  have d1 : decide ((n : Int) < 0) = false := by simp
  have d2 : decide ((n : Int) > 16) = false := by simp; omega
  have hz : aggV (zt [.slice none 0 0] []) = some (.agg [Value.slice none 0 0].toArray) := rfl
  (repeat (first | refine zS ?_ | refine zL ?_ | refine zR ?_ | refine zE ?_ | refine zC ?_ | refine zJ ?_ | refine zK ?_ | refine zP ?_ | refine zF ?_ | refine zH ?_ | refine zG ?_ | refine zI (by decide) ?_ | refine zQ ?_ | ((first | refine zD ?_ | refine zN ?_ | refine zT rfl rfl ?_ | refine zO rfl ?_ | refine zM ?_); simp only [yq27.down, zA, lemS.down, lemC.down, Int.reduceBEq, Nat.reduceAdd, Nat.reduceLeDiff, reduceIte, Nat.reduceEqDiff, Int.reduceLT, Int.reduceLE, Int.reduceGT, Int.reduceGE, Int.reduceEq, Int.reduceAdd, Int.reduceSub, Int.reduceMul, reduceCtorEq, lemH.down, d1, d2, hz])))
  refine zo (fun m t g => ∃ i w, m = n - i ∧ i ≤ n ∧ Var g h.next [w] ∧ Own g (fun A => h.next ≤ A ∧ A ≠ h.next) 1 w i (zAX (zBH s i)) ∧ Grows h g ∧ t.get 0 = .string (zB s) ∧ t.get 6 = .pointer (some ⟨h.next, 0, none⟩) ∧ t.get 16 = .int .i64 (n : Int) ∧ t.get 17 = .int .i64 (i : Int)) ?_ n _ _ ⟨0, _, rfl, by omega, Var.new_self, Own.nil, Grows.new, by simp only [yq27.down, zA, lemS.down, lemC.down, Int.reduceBEq, Nat.reduceAdd, Nat.reduceLeDiff, reduceIte, Nat.reduceEqDiff, Int.reduceLT, Int.reduceLE, Int.reduceGT, Int.reduceGE, Int.reduceEq, Int.reduceAdd, Int.reduceSub, Int.reduceMul, reduceCtorEq], by simp only [yq27.down, zA, lemS.down, lemC.down, Int.reduceBEq, Nat.reduceAdd, Nat.reduceLeDiff, reduceIte, Nat.reduceEqDiff, Int.reduceLT, Int.reduceLE, Int.reduceGT, Int.reduceGE, Int.reduceEq, Int.reduceAdd, Int.reduceSub, Int.reduceMul, reduceCtorEq], by simp only [yq27.down, zA, lemS.down, lemC.down, Int.reduceBEq, Nat.reduceAdd, Nat.reduceLeDiff, reduceIte, Nat.reduceEqDiff, Int.reduceLT, Int.reduceLE, Int.reduceGT, Int.reduceGE, Int.reduceEq, Int.reduceAdd, Int.reduceSub, Int.reduceMul, reduceCtorEq], by (simp only [yq27.down, zA, lemS.down, lemC.down, Int.reduceBEq, Nat.reduceAdd, Nat.reduceLeDiff, reduceIte, Nat.reduceEqDiff, Int.reduceLT, Int.reduceLE, Int.reduceGT, Int.reduceGE, Int.reduceEq, Int.reduceAdd, Int.reduceSub, Int.reduceMul, reduceCtorEq]) <;> rfl⟩
  rintro m t g ⟨i, w, rfl, hi, gV, gO, gg, t0, t6, t16, t17⟩ hnext
  refine xq27_9k ?_
  dsimp only [zH0]
  (repeat (first | refine zS ?_ | refine zL ?_ | refine zR ?_ | refine zE ?_ | refine zC ?_ | refine zJ ?_ | refine zK ?_ | refine zP ?_ | refine zF ?_ | refine zH ?_ | refine zG ?_ | refine zI (by decide) ?_ | refine zQ ?_ | ((first | refine zD ?_ | refine zN ?_ | refine zT rfl rfl ?_ | refine zO rfl ?_ | refine zM ?_); simp only [yq27.down, zA, lemS.down, lemC.down, Int.reduceBEq, Nat.reduceAdd, Nat.reduceLeDiff, reduceIte, Nat.reduceEqDiff, Int.reduceLT, Int.reduceLE, Int.reduceGT, Int.reduceGE, Int.reduceEq, Int.reduceAdd, Int.reduceSub, Int.reduceMul, reduceCtorEq, lemH.down, lemW.down, t0, t6, t16, t17])))
  refine ⟨fun hlt => ?_, fun hge => ?_⟩
  · have hi' : i < n := by omega
    have hlt2 : h.next < g.next := gV.1
    have ww : IntKind.i64.wrap ((i : Int) + 1) = ((i + 1 : Nat) : Int) := by rw [wrap_i64 (by omega) (by omega)]; omega
    have c := zBU (k := .u8) (k' := .i64) zHD (n := i)
    have bc := zDE (p := i) (by omega) (h := g)
    have gV1 := gV.new_old (m := [uw .u8 i])
    have gV2 := gV1.new_old (m := [.string (zB s), .string (zB [UInt8.ofNat i])])
    have gV3 := gV2.new_old (m := [.string (zB (zA1 s i))])
    have bc2 : zBE ((g.new [uw .u8 i]).new [.string (zB s), .string (zB [UInt8.ofNat i])]) (.slice (some ⟨g.next, 0, none⟩) 1 1) = some (.string (zB [UInt8.ofNat i])) := by
      have hO := (Own.newSlice (h := g) (l := zV [UInt8.ofNat i]) (n := 1) (esz := 1) (sp := none) rfl (.inl rfl)).grow (Grows.new (l := [.string (zB s), .string (zB [UInt8.ofNat i])]))
      have := hO.cb2s
      rw [zBX] at this
      exact this
    have ts := zKn (h := g.new [uw .u8 i]) (a := s) (b := [UInt8.ofNat i])
    rw [zDR] at ts
    have tg := zq ht (zDi (p := 75) ts (by decide) (by simp [zm, zB6, zAV]; omega))
    have tg : cfi pr 64 [.int .u8 75, .slice (some ⟨g.next + 1, 0, none⟩) 2 2] ((g.new [uw .u8 i]).new [.string (zB s), .string (zB [UInt8.ofNat i])]) = some (.string (zB (zA1 s i)), (g.new [uw .u8 i]).new [.string (zB s), .string (zB [UInt8.ofNat i])]) := tg
    have gO3 := ((gO.grow (Grows.new (l := [uw .u8 i]))).grow (Grows.new (l := [.string (zB s), .string (zB [UInt8.ofNat i])]))).grow (Grows.new (l := [.string (zB (zA1 s i))]))
    have hs1 := (Var.new_self (h := (g.new [uw .u8 i]).new [.string (zB s), .string (zB [UInt8.ofNat i])]) (l := [.string (zB (zA1 s i))])).src (n := 1) (esz := 1) (bytes := 16) (s := w) (sp := none) (c := 1) rfl (by decide)
    obtain ⟨w', g4, e4, gO4, k4⟩ := gO3.append (bytes := 16) (m := 1) (new := [.string (zB (zA1 s i))]) rfl rfl (by decide) (by decide) (by omega)
    rw [e4, zDR, zDR] at hs1
    have gV4 := gV3.keep k4 (fun e => e.2 rfl)
    have st := gO4.store (i := 0) gV4 (by simp)
    simp only [List.set_cons_zero] at st
    (repeat (first | refine zS ?_ | refine zL ?_ | refine zR ?_ | refine zE ?_ | refine zC ?_ | refine zJ ?_ | refine zK ?_ | refine zP ?_ | refine zF ?_ | refine zH ?_ | refine zG ?_ | refine zI (by decide) ?_ | refine zQ ?_ | ((first | refine zD ?_ | refine zN ?_ | refine zT rfl rfl ?_ | refine zO rfl ?_ | refine zM ?_); simp only [yq27.down, zA, lemS.down, lemC.down, Int.reduceBEq, Nat.reduceAdd, Nat.reduceLeDiff, reduceIte, Nat.reduceEqDiff, Int.reduceLT, Int.reduceLE, Int.reduceGT, Int.reduceGE, Int.reduceEq, Int.reduceAdd, Int.reduceSub, Int.reduceMul, reduceCtorEq, lemH.down, lemW.down, t0, t6, t16, t17, c, fill2s, bc, bc2, gV.load, gV1.load, gV2.load, gV3.load, List.getElem?_cons_zero, tg, hs1, st])))
    refine ⟨⟨?_, ?_⟩, ?_, ?_⟩
    · (refine zAa rfl rfl rfl ?_ ?_ <;> simp only [yq27.down, zA, lemS.down, lemC.down, Int.reduceBEq, Nat.reduceAdd, Nat.reduceLeDiff, reduceIte, Nat.reduceEqDiff, Int.reduceLT, Int.reduceLE, Int.reduceGT, Int.reduceGE, Int.reduceEq, Int.reduceAdd, Int.reduceSub, Int.reduceMul, reduceCtorEq, lemH.down, t6, gV.load, gV1.load, gV2.load, List.getElem?_cons_zero, zAH, zAE, zAI, zAF, zAD, Option.isSome_some])
    · (refine zAa rfl rfl rfl ?_ ?_ <;> simp only [yq27.down, zA, lemS.down, lemC.down, Int.reduceBEq, Nat.reduceAdd, Nat.reduceLeDiff, reduceIte, Nat.reduceEqDiff, Int.reduceLT, Int.reduceLE, Int.reduceGT, Int.reduceGE, Int.reduceEq, Int.reduceAdd, Int.reduceSub, Int.reduceMul, reduceCtorEq, lemH.down, bc, bc2, zAH, zAE, zAI, zAF, zAD, Option.isSome_some])
    · (refine zAa rfl rfl rfl ?_ ?_ <;> simp only [yq27.down, zA, lemS.down, lemC.down, Int.reduceBEq, Nat.reduceAdd, Nat.reduceLeDiff, reduceIte, Nat.reduceEqDiff, Int.reduceLT, Int.reduceLE, Int.reduceGT, Int.reduceGE, Int.reduceEq, Int.reduceAdd, Int.reduceSub, Int.reduceMul, reduceCtorEq, lemH.down, t6, gV.load, gV3.load, List.getElem?_cons_zero, zAH, zAE, zAI, zAF, zAD, Option.isSome_some])
    (repeat (first | refine zS ?_ | refine zL ?_ | refine zR ?_ | refine zE ?_ | refine zC ?_ | refine zJ ?_ | refine zK ?_ | refine zP ?_ | refine zF ?_ | refine zH ?_ | refine zG ?_ | refine zI (by decide) ?_ | refine zQ ?_ | ((first | refine zD ?_ | refine zN ?_ | refine zT rfl rfl ?_ | refine zO rfl ?_ | refine zM ?_); simp only [yq27.down, zA, lemS.down, lemC.down, Int.reduceBEq, Nat.reduceAdd, Nat.reduceLeDiff, reduceIte, Nat.reduceEqDiff, Int.reduceLT, Int.reduceLE, Int.reduceGT, Int.reduceGE, Int.reduceEq, Int.reduceAdd, Int.reduceSub, Int.reduceMul, reduceCtorEq, lemH.down, lemW.down, t0, t6, t16, t17, ww])))
    refine hnext (n - (i + 1)) _ _ (by omega) ⟨i + 1, w', rfl, by omega, gV4.wr, ?_, ?_, by simp only [yq27.down, zA, lemS.down, lemC.down, Int.reduceBEq, Nat.reduceAdd, Nat.reduceLeDiff, reduceIte, Nat.reduceEqDiff, Int.reduceLT, Int.reduceLE, Int.reduceGT, Int.reduceGE, Int.reduceEq, Int.reduceAdd, Int.reduceSub, Int.reduceMul, reduceCtorEq, t0], by simp only [yq27.down, zA, lemS.down, lemC.down, Int.reduceBEq, Nat.reduceAdd, Nat.reduceLeDiff, reduceIte, Nat.reduceEqDiff, Int.reduceLT, Int.reduceLE, Int.reduceGT, Int.reduceGE, Int.reduceEq, Int.reduceAdd, Int.reduceSub, Int.reduceMul, reduceCtorEq, t6], by simp only [yq27.down, zA, lemS.down, lemC.down, Int.reduceBEq, Nat.reduceAdd, Nat.reduceLeDiff, reduceIte, Nat.reduceEqDiff, Int.reduceLT, Int.reduceLE, Int.reduceGT, Int.reduceGE, Int.reduceEq, Int.reduceAdd, Int.reduceSub, Int.reduceMul, reduceCtorEq, t16], by simp only [yq27.down, zA, lemS.down, lemC.down, Int.reduceBEq, Nat.reduceAdd, Nat.reduceLeDiff, reduceIte, Nat.reduceEqDiff, Int.reduceLT, Int.reduceLE, Int.reduceGT, Int.reduceGE, Int.reduceEq, Int.reduceAdd, Int.reduceSub, Int.reduceMul, reduceCtorEq]⟩
    · have e : zAX (zBH s (i + 1)) = zAX (zBH s i) ++ [.string (zB (zA1 s i))] := by
        unfold zBH
        rw [List.range_succ, List.map_append, zUv]
        rfl
      rw [e]
      refine (gO4.mono fun A hA => ?_).keep Keeps.wr (fun A hA => hA.2)
      rcases hA with hA | hA
      · exact hA
      · simp only [zDR] at hA
        exact ⟨by omega, by omega⟩
    · have g3 : Grows h (((g.new [uw .u8 i]).new [.string (zB s), .string (zB [UInt8.ofNat i])]).new [.string (zB (zA1 s i))]) := ((gg.trans Grows.new).trans Grows.new).trans Grows.new
      exact (g3.then k4 (fun A hA hS => by omega)).wr (Nat.le_refl _)
  · obtain rfl : i = n := by omega
    (repeat (first | refine zS ?_ | refine zL ?_ | refine zR ?_ | refine zE ?_ | refine zC ?_ | refine zJ ?_ | refine zK ?_ | refine zP ?_ | refine zF ?_ | refine zH ?_ | refine zG ?_ | refine zI (by decide) ?_ | refine zQ ?_ | ((first | refine zD ?_ | refine zN ?_ | refine zT rfl rfl ?_ | refine zO rfl ?_ | refine zM ?_); simp only [yq27.down, zA, lemS.down, lemC.down, Int.reduceBEq, Nat.reduceAdd, Nat.reduceLeDiff, reduceIte, Nat.reduceEqDiff, Int.reduceLT, Int.reduceLE, Int.reduceGT, Int.reduceGE, Int.reduceEq, Int.reduceAdd, Int.reduceSub, Int.reduceMul, reduceCtorEq, lemH.down, lemW.down, t0, t6, t16, t17])))
    exact ⟨.inr rfl, _, rfl, by simp only [yq27.down, zA, lemS.down, lemC.down, Int.reduceBEq, Nat.reduceAdd, Nat.reduceLeDiff, reduceIte, Nat.reduceEqDiff, Int.reduceLT, Int.reduceLE, Int.reduceGT, Int.reduceGE, Int.reduceEq, Int.reduceAdd, Int.reduceSub, Int.reduceMul, reduceCtorEq, t6], ⟨w, gV, gO⟩, gg⟩
end Go.X
end
section
open Go Go.X
namespace Go.X
set_option linter.unusedVariables false
def Ring (h : Heap) (R N : Nat) (l : List (List UInt8)) : Prop := ∃ w, Var h R [w] ∧ Own h (fun A => N ≤ A ∧ A ≠ R) 1 w l.length (zAX l)
theorem Ring.at {h : Heap} {R N : Nat} {l : List (List UInt8)} (hr : Ring h R N l) {sp : Option Nat} : zy h ⟨R, 0, sp⟩ = some l := by
  obtain ⟨w, hv, ho⟩ := hr
  have := hv.load (i := 0) (sp := sp)
  simp only [zy, this, List.getElem?_cons_zero, ho.strs]
theorem Ring.grow {h h' : Heap} {R N : Nat} {l : List (List UInt8)} (hr : Ring h R N l) (hg : Grows h h') : Ring h' R N l := by
  obtain ⟨w, hv, ho⟩ := hr
  exact ⟨w, hv.grow hg, ho.grow hg⟩
end Go.X
end
section
open Go Go.X Go.Proofs Go.RowKit
namespace Go.X
set_option linter.unusedVariables false
theorem Tab.read {P : Program} {l : List (Nat × Prim)} (ok : XOK P (Tab P l)) {f : Nat} {fn : Func} {F : XF} (hf : P.funcs[f]? = some fn) (hF : zb P fn = some F) {g : Prim}
    (hg : ∀ args h v h', g args h = some (v, h') → h' = h ∧ args.length = F.nargs ∧ zr v = true ∧ ∀ n, HWF (h.at n) → Comes (Tab P l) F args (h.at n) v) : XOK P (Tab P ((f, g) :: l)) := by
  refine Tab.cons ok fun args h v h' hr => ?_
  obtain ⟨rfl, h2, h3, h4⟩ := hg args h v h' hr
  exact ⟨zFx hf hF, Nat.le_refl _, zFy ok hf hF h2 (fun _ _ _ _ _ _ => ⟨v, zCm h3⟩) fun n _ wf => h4 n wf⟩
theorem zGI {args : List Value} {v : Value} (h : zCn args = some v) : args.length = 1 ∧ zr v = true ∧ ∀ pr h, Comes pr xq89 args h v := by
  unfold zCn at h
  split at h
  · rename_i n
    split at h
    · rename_i hc
      cases h
      refine ⟨rfl, rfl, fun pr h => ?_⟩
      have := four_ok pr n.toNat (by omega) h
      rw [show (n.toNat : Int) = n by omega] at this
      exact this
    · cases h
  · cases h
theorem zCa {args : List Value} {h : Heap} {v : Value} {h' : Heap} (hr : zBS args h = some (v, h')) : h' = h ∧ args.length = 2 ∧ zr v = true ∧ (∀ pr n, zBv pr → pr.prim 89 = some (za zCn) → HWF (h.at n) → Comes pr xq64 args (h.at n) v) ∧ (∀ pr n, pr.prim 18 = some (za shaS) → HWF (h.at n) → Comes pr xq28 args (h.at n) v) := by
  unfold zBS at hr
  split at hr
  · rename_i p w
    split at hr
    · rename_i l hl
      split at hr
      · rename_i hc
        cases hr
        obtain ⟨q, rfl⟩ : ∃ q : Nat, p = (q : Int) := ⟨p.toNat, by omega⟩
        have e : Value.int .u8 (q : Int) = uw .u8 q := nat_u8 (by omega)
        rw [Int.toNat_natCast, e]
        refine ⟨rfl, rfl, rfl, fun pr n T h4 wf => ?_, fun pr n h9 wf => ?_⟩
        · exact zXH pr T h4 q (by omega) _ wf w l hl hc.2.2
        · exact zWu pr h9 q (by omega) _ wf w l hl hc.2.2
      · cases hr
    · cases hr
  · cases hr
theorem zEz {args : List Value} {h : Heap} {v : Value} {h' : Heap} (hr : keyG args h = some (v, h')) : h' = h ∧ args.length = 2 ∧ zr v = true ∧ ∀ pr n, Comes pr xq23 args (h.at n) v := by
  unfold keyG at hr
  split at hr
  · cases hr
    exact ⟨rfl, rfl, rfl, fun pr n => keyN_ok pr _ _⟩
  · rename_i a i
    split at hr
    · rename_i l hl
      cases hr
      exact ⟨rfl, rfl, rfl, fun pr n => key_ok pr (h.at n) a l i hl⟩
    · cases hr
  · cases hr
theorem zFE {args : List Value} {h : Heap} {v : Value} {h' : Heap} (hr : zGp args h = some (v, h')) : h' = h ∧ args.length = 1 ∧ zr v = true ∧ ∀ pr n, Comes pr xq25 args (h.at n) v := by
  unfold zGp at hr
  split at hr
  · cases hr
    exact ⟨rfl, rfl, rfl, fun pr n => lenN_ok pr _⟩
  · rename_i a
    split at hr
    · rename_i l hl
      cases hr
      exact ⟨rfl, rfl, rfl, fun pr n => zWo pr (h.at n) a l hl⟩
    · cases hr
  · cases hr
theorem tagNG_ok (pr : Prog) (hp : pr.prim 23 = some keyG) (i : Int) (s : ByteArray) (h : Heap) : Comes pr xq24 [.pointer none, .int .i64 i, .string s] h (.tuple #[.string (zB []), .int .i64 2]) := by
  apply Comes.of
  unfold xq24
  dsimp only [zc]
  have k1 : cfi pr 23 [.pointer none, .int .i64 i] h = some (.tuple #[.string (zB []), .bool false], h) := zq hp rfl
  (repeat (first | refine zS ?_ | refine zL ?_ | refine zR ?_ | refine zE ?_ | refine zC ?_ | refine zJ ?_ | refine zK ?_ | refine zP ?_ | refine zF ?_ | refine zH ?_ | refine zG ?_ | refine zI (by decide) ?_ | refine zQ ?_ | ((first | refine zD ?_ | refine zN ?_ | refine zT rfl rfl ?_ | refine zO rfl ?_ | refine zM ?_); simp only [yq24.down, zA, lemS.down, lemC.down, Int.reduceBEq, Nat.reduceAdd, Nat.reduceLeDiff, reduceIte, Nat.reduceEqDiff, Int.reduceLT, Int.reduceLE, Int.reduceGT, Int.reduceGE, Int.reduceEq, Int.reduceAdd, Int.reduceSub, Int.reduceMul, reduceCtorEq, k1])))
  exact ⟨.inr rfl, by simp only [yq24.down, zA, lemS.down, lemC.down, Int.reduceBEq, Nat.reduceAdd, Nat.reduceLeDiff, reduceIte, Nat.reduceEqDiff, Int.reduceLT, Int.reduceLE, Int.reduceGT, Int.reduceGE, Int.reduceEq, Int.reduceAdd, Int.reduceSub, Int.reduceMul, reduceCtorEq], Grows.refl h⟩
theorem zVC (pr : Prog) (hp : pr.prim 23 = some keyG) (i : Int) (s t : ByteArray) (h : Heap) : Comes pr xq26 [.pointer none, .int .i64 i, .string s, .string t] h (.bool false) := by
  apply Comes.of
  unfold xq26
  dsimp only [zc]
  have k1 : cfi pr 23 [.pointer none, .int .i64 i] h = some (.tuple #[.string (zB []), .bool false], h) := zq hp rfl
  (repeat (first | refine zS ?_ | refine zL ?_ | refine zR ?_ | refine zE ?_ | refine zC ?_ | refine zJ ?_ | refine zK ?_ | refine zP ?_ | refine zF ?_ | refine zH ?_ | refine zG ?_ | refine zI (by decide) ?_ | refine zQ ?_ | ((first | refine zD ?_ | refine zN ?_ | refine zT rfl rfl ?_ | refine zO rfl ?_ | refine zM ?_); simp only [yq26.down, zA, lemS.down, lemC.down, Int.reduceBEq, Nat.reduceAdd, Nat.reduceLeDiff, reduceIte, Nat.reduceEqDiff, Int.reduceLT, Int.reduceLE, Int.reduceGT, Int.reduceGE, Int.reduceEq, Int.reduceAdd, Int.reduceSub, Int.reduceMul, reduceCtorEq, k1])))
  exact ⟨.inr rfl, by simp only [yq26.down, zA, lemS.down, lemC.down, Int.reduceBEq, Nat.reduceAdd, Nat.reduceLeDiff, reduceIte, Nat.reduceEqDiff, Int.reduceLT, Int.reduceLE, Int.reduceGT, Int.reduceGE, Int.reduceEq, Int.reduceAdd, Int.reduceSub, Int.reduceMul, reduceCtorEq], Grows.refl h⟩
theorem zFF {args : List Value} {h : Heap} {v : Value} {h' : Heap} (hr : zDX args h = some (v, h')) : h' = h ∧ args.length = 3 ∧ zr v = true ∧ ∀ pr n, pr.prim 23 = some keyG → pr.prim 17 = some (za tagS) → Comes pr xq24 args (h.at n) v := by
  unfold zDX at hr
  split at hr
  · cases hr
    exact ⟨rfl, rfl, rfl, fun pr n h1 h2 => tagNG_ok pr h1 _ _ _⟩
  · rename_i a i s
    split at hr
    · rename_i l hl
      split at hr
      · rename_i hc
        cases hr
        refine ⟨rfl, rfl, rfl, fun pr n h1 h2 => ?_⟩
        have := zWq pr h1 h2 (h.at n) a l i s.data.toList hl hc.1 hc.2
        rw [zA3] at this
        exact this
      · cases hr
    · cases hr
  · cases hr
theorem zFD {args : List Value} {h : Heap} {v : Value} {h' : Heap} (hr : zDW args h = some (v, h')) : h' = h ∧ args.length = 4 ∧ zr v = true ∧ ∀ pr n, pr.prim 23 = some keyG → pr.prim 20 = some (za zCh) → Comes pr xq26 args (h.at n) v := by
  unfold zDW at hr
  split at hr
  · cases hr
    exact ⟨rfl, rfl, rfl, fun pr n h1 h2 => zVC pr h1 _ _ _ _⟩
  · rename_i a i s t
    split at hr
    · rename_i l hl
      split at hr
      · rename_i hc
        cases hr
        refine ⟨rfl, rfl, rfl, fun pr n h1 h2 => ?_⟩
        have := zWl pr h1 h2 (h.at n) a l i s.data.toList t.data.toList hl hc.1 hc.2
        rw [zA3, zA3] at this
        exact this
      · cases hr
    · cases hr
  · cases hr
def R1 : List (Nat × Prim) := (89, za zCn) :: T15
def R2 : List (Nat × Prim) := (64, zBS) :: R1
def R3 : List (Nat × Prim) := (28, zBS) :: R2
def R4 : List (Nat × Prim) := (23, keyG) :: R3
def R5 : List (Nat × Prim) := (25, zGp) :: R4
def R6 : List (Nat × Prim) := (24, zDX) :: R5
def R7 : List (Nat × Prim) := (26, zDW) :: R6
theorem rk1 : XOK Try.prog (Tab Try.prog R1) := Tab.pure ok15 Try.func89 cq89 fun args v h => ⟨(zGI h).1, (zGI h).2.1, fun g => (zGI h).2.2 _ g⟩
theorem shaR1 : zBv (Tab Try.prog R1) := ⟨rfl, rfl, rfl, rfl, rfl, zW Try.func104 cq104, rfl, zW Try.func85 cq85, rfl, zW Try.func86 cq86, rfl, zW Try.func87 cq87⟩
theorem rk2 : XOK Try.prog (Tab Try.prog R2) := Tab.read rk1 Try.func64 cq64 fun args h v h' hr => ⟨(zCa hr).1, (zCa hr).2.1, (zCa hr).2.2.1, fun n wf => (zCa hr).2.2.2.1 _ n shaR1 rfl wf⟩
theorem rk3 : XOK Try.prog (Tab Try.prog R3) := Tab.read rk2 Try.func28 cq28 fun args h v h' hr => ⟨(zCa hr).1, (zCa hr).2.1, (zCa hr).2.2.1, fun n wf => (zCa hr).2.2.2.2 _ n rfl wf⟩
theorem rk4 : XOK Try.prog (Tab Try.prog R4) := Tab.read rk3 Try.func23 cq23 fun args h v h' hr => ⟨(zEz hr).1, (zEz hr).2.1, (zEz hr).2.2.1, fun n wf => (zEz hr).2.2.2 _ n⟩
theorem rk5 : XOK Try.prog (Tab Try.prog R5) := Tab.read rk4 Try.func25 cq25 fun args h v h' hr => ⟨(zFE hr).1, (zFE hr).2.1, (zFE hr).2.2.1, fun n wf => (zFE hr).2.2.2 _ n⟩
theorem rk6 : XOK Try.prog (Tab Try.prog R6) := Tab.read rk5 Try.func24 cq24 fun args h v h' hr => ⟨(zFF hr).1, (zFF hr).2.1, (zFF hr).2.2.1, fun n wf => (zFF hr).2.2.2 _ n rfl rfl⟩
theorem rk7 : XOK Try.prog (Tab Try.prog R7) := Tab.read rk6 Try.func26 cq26 fun args h v h' hr => ⟨(zFD hr).1, (zFD hr).2.1, (zFD hr).2.2.1, fun n wf => (zFD hr).2.2.2 _ n rfl rfl⟩
end Go.X
end
