/- Digests of parts, rings of keys. -/
import Derived.Test.YtmhkcnibbodjnaaXC
import Derived.Test.YtmhkcnibbodjnaaXD
import Derived.Test.YtmhkcnibbodjnaaXH
import Derived.Test.YtmhkcnibbodjnaaXI
set_option linter.unusedSimpArgs false
set_option linter.unusedVariables false
set_option maxHeartbeats 2000000
section
open Go Go.X
namespace Go.X
set_option linter.unusedVariables false
def zAa (n : Nat) : List UInt8 := [UInt8.ofNat (n / 16777216), UInt8.ofNat (n / 65536), UInt8.ofNat (n / 256), UInt8.ofNat n]
def zCB (s : List UInt8) : List UInt8 := zAa s.length ++ s
def zq (l : List (List UInt8)) : List UInt8 := l.flatMap zCB
def tagged (p : UInt8) (l : List (List UInt8)) : List UInt8 := sha (p :: zq l)
theorem zEc (p : UInt8) (l : List (List UInt8)) : (tagged p l).length = 32 := zBm _
def zAc (l : List (List UInt8)) : List Value := l.map fun s => .string (zB s)
theorem zWG {l : List (List UInt8)} : (zAc l).length = l.length := by simp [zAc]
theorem zWF {l : List (List UInt8)} {i : Nat} (hi : i < l.length) : (zAc l)[i]? = some (.string (zB (l.getD i []))) := by
  simp [zAc, List.getElem?_map, List.getElem?_eq_getElem hi, List.getD_eq_getElem?_getD]
def zCx : List Value → Option Value
  | [.int .i64 n] => if 0 ≤ n ∧ n < 9223372036854775808 then some (.string (zB (zAa n.toNat))) else none
  | _ => none
theorem fourS_at {n : Nat} (h : n < 9223372036854775808) : zCx [.int .i64 (n : Int)] = some (.string (zB (zAa n))) := by
  simp only [zCx]
  rw [if_pos (by omega)]
  simp
theorem zEz (n : Nat) : zV (zAa n) = [uw .u8 (n / 16777216), uw .u8 (n / 65536), uw .u8 (n / 256), uw .u8 n] := by
  simp only [← zBe]
  rfl
theorem fill4' {z : Value} {a b c d : Nat} : zp (List.replicate 4 z) [(0, 1, uw .u8 a), (1, 1, uw .u8 b), (2, 1, uw .u8 c), (3, 1, uw .u8 d)] = some [uw .u8 a, uw .u8 b, uw .u8 c, uw .u8 d] := by simp [zp, zD2, putN, List.replicate]
theorem shrI {k : IntKind} {n j : Nat} (hj : j ≤ 64) : binX .shr (.int .i64 (n : Int)) (.int k (OfNat.ofNat j)) = some (.int .i64 ((n / 2 ^ j : Nat) : Int)) := by
  have e : (OfNat.ofNat j : Int) = (j : Int) := rfl
  rw [e, zFs (by omega), Int.toNat_natCast, Nat.min_eq_left (show j ≤ IntKind.i64.bits from hj), Int.fdiv_eq_ediv_of_nonneg _ (by exact Int.le_of_lt (Int.pow_pos (by omega)))]
  simp
theorem four_ok (pr : Prog) (n : Nat) (hn : n < 9223372036854775808) (h : Heap) : Comes pr xq89 [.int .i64 (n : Int)] h (.string (zB (zAa n))) := by
  apply Comes.of
  unfold xq89
  dsimp only [zc]
  have c := fun n => zBK (k := .u8) (k' := .i64) zHI (n := n)
  have hO := Own.newSlice (h := h) (l := zV (zAa n)) (n := 4) (esz := 1) (sp := none) (by rw [zEz]; rfl) (.inl rfl)
  have s24 := shrI (k := .u64) (n := n) (j := 24) (by decide)
  have s16 := shrI (k := .u64) (n := n) (j := 16) (by decide)
  have s8 := shrI (k := .u64) (n := n) (j := 8) (by decide)
  simp only [Nat.reducePow] at s24 s16 s8
  have hb := hO.cb2s
  rw [zEz] at hb
  (repeat (first | refine zS ?_ | refine zL ?_ | refine zR ?_ | refine zE ?_ | refine zC ?_ | refine zJ ?_ | refine zK ?_ | refine zP ?_ | refine zF ?_ | refine zH ?_ | refine zG ?_ | refine zI (by decide) ?_ | refine zQ ?_ | ((first | refine zD ?_ | refine zN ?_ | refine zT rfl rfl ?_ | refine zO rfl ?_ | refine zM ?_); simp only [yq89.down, zA, lemS.down, lemC.down, Int.reduceBEq, Nat.reduceAdd, Nat.reduceLeDiff, reduceIte, Nat.reduceEqDiff, Int.reduceLT, Int.reduceLE, Int.reduceGT, Int.reduceGE, Int.reduceEq, Int.reduceAdd, Int.reduceSub, Int.reduceMul, reduceCtorEq, lemH.down, lemW.down, s24, s16, s8, c, fill4', hb])))
  exact ⟨.inr rfl, by simp only [yq89.down, zA, lemS.down, lemC.down, Int.reduceBEq, Nat.reduceAdd, Nat.reduceLeDiff, reduceIte, Nat.reduceEqDiff, Int.reduceLT, Int.reduceLE, Int.reduceGT, Int.reduceGE, Int.reduceEq, Int.reduceAdd, Int.reduceSub, Int.reduceMul, reduceCtorEq], Grows.new⟩
end Go.X
end
section
open Go Go.X
namespace Go.X
set_option linter.unusedVariables false
theorem st_app (b s : List UInt8) : zo ((b.drop (64 * (b.length / 64)) ++ s).length / 64) (zo (b.length / 64) Sha.H0 b) (b.drop (64 * (b.length / 64)) ++ s) = zo ((b ++ s).length / 64) Sha.H0 (b ++ s) ∧
    (b.drop (64 * (b.length / 64)) ++ s).drop (64 * ((b.drop (64 * (b.length / 64)) ++ s).length / 64)) = (b ++ s).drop (64 * ((b ++ s).length / 64)) := by
  have hd : (b ++ s).drop (64 * (b.length / 64)) = b.drop (64 * (b.length / 64)) ++ s := List.drop_append_of_le_length (by omega)
  have hl : (b.drop (64 * (b.length / 64)) ++ s).length = (b ++ s).length - 64 * (b.length / 64) := by rw [← hd, List.length_drop]
  have hn : (b ++ s).length / 64 = b.length / 64 + (b.drop (64 * (b.length / 64)) ++ s).length / 64 := by
    rw [hl, List.length_append]; omega
  constructor
  · rw [hn, zFo, zEm (b.length / 64) Sha.H0 b s (by omega), hd]
  · rw [hn, Nat.mul_add, ← List.drop_drop, hd]
def DigB (h : Heap) (N D : Nat) (b : List UInt8) : Prop := Dig h N D (zo (b.length / 64) Sha.H0 b) (b.drop (64 * (b.length / 64))) b.length
theorem New_B {pr : Prog} (T : zB2 pr) (h : Heap) : ∃ v h', cfi pr 85 [] h = some (v, h') ∧ v = .pointer (some ⟨h.next, 0, none⟩) ∧ DigB h' h.next h.next [] ∧ Grows h h' := zIg pr T.begin T.new T.newC h
theorem zFn {pr : Prog} (T : zB2 pr) {h : Heap} {N D : Nat} {b : List UInt8} (hd : DigB h N D b) (s : List UInt8) (hroom : s.length + 64 ≤ zU) :
    ∃ v h', cfi pr 86 [.pointer (some ⟨D, 0, none⟩), .string (zB s)] h = some (v, h') ∧ v = .tuple #[] ∧ DigB h' N D (b ++ s) ∧ Keeps (fun A => N ≤ A) h h' := by
  obtain ⟨v, h', e, hv, d, k⟩ := zIn pr T.right T.words T.consts T.blk T.blkC T.wr T.wrC h N D _ _ _ s hd (by rw [List.length_drop]; omega)
  rw [(st_app b s).1, (st_app b s).2, ← List.length_append] at d
  exact ⟨v, h', e, hv, d, k⟩
theorem Sum_B {pr : Prog} (T : zB2 pr) {h : Heap} {N D : Nat} {b : List UInt8} (hd : DigB h N D b) : ∃ v h', cfi pr 87 [.pointer (some ⟨D, 0, none⟩)] h = some (v, h') ∧ v = .string (zB (sha b)) ∧ Grows h h' := by
  have := zIj pr T.right T.words T.consts T.blk T.blkC T.sum T.sumC h N D _ _ _ hd (by rw [List.length_drop]; have : zU = 140737488355328 := rfl; omega)
  rw [zKn] at this
  exact this
def zDj : List Value → Option (List (List UInt8))
  | [] => some []
  | .string s :: r => (match zDj r with | some l => some (s.data.toList :: l) | none => none)
  | _ :: _ => none
theorem zK1 : ∀ l : List (List UInt8), zDj (zAc l) = some l
  | [] => rfl
  | s :: l => by
    have := zK1 l
    unfold zAc at this ⊢
    simp only [List.map_cons, zDj, this, zAi]
theorem zK2 : ∀ {cs : List Value} {l : List (List UInt8)}, zDj cs = some l → cs = zAc l
  | [], l, h => by cases h; rfl
  | c :: cs, l, h => by
    unfold zDj at h
    split at h
    · rename_i heq; cases heq
    · rename_i s r heq
      cases heq
      split at h
      · rename_i q hq
        cases h
        rw [zK2 hq]
        simp only [zAc, List.map_cons]
        rw [show zB s.data.toList = s from zCE s]
      · cases h
    · cases h
def zBJ (h : Heap) : Value → Option (List (List UInt8))
  | .slice none n _ => if n = 0 then some [] else none
  | .slice (some a) n _ => if n = 0 then some [] else (match h.loadN a n with | some cs => zDj cs | none => none)
  | _ => none
theorem Own.strs {h : Heap} {S : Nat → Prop} {v : Value} {n : Nat} {l : List (List UInt8)} (ho : Own h S 1 v n (zAc l)) : zBJ h v = some l := by
  obtain ⟨a, cap, rfl, hs⟩ := ho.shape
  by_cases h0 : n = 0
  · subst h0
    have := ho.nil_of
    obtain rfl : l = [] := by cases l with | nil => rfl | cons x l => simp [zAc] at this
    cases a <;> simp [zBJ]
  · obtain ⟨B, off, sp, rfl, h1, _⟩ := hs h0
    simp only [zBJ]
    rw [if_neg h0]
    rw [Nat.mul_one] at h1
    simp only [h1, zK1]
theorem zE6 {h : Heap} {a : Addr} {n : Nat} {l : List Value} (hl : h.loadN a n = some l) : l.length = n := by
  unfold Heap.loadN at hl
  split at hl
  · rename_i c hc
    unfold zA2 at hl
    cases hb : (a.off + n).ble c.cells.length with
    | false => rw [hb] at hl; cases hl
    | true =>
      rw [hb] at hl
      cases hl
      have := Nat.le_of_ble_eq_true hb
      simp; omega
  · cases hl
theorem zFY {h : Heap} {v : Value} {l : List (List UInt8)} (hs : zBJ h v = some l) : ∃ a cap, v = .slice a l.length cap ∧ ∀ i, i < l.length → ∃ B o, (∀ k : IntKind, zAv 1 v (.int k (i : Int)) = some (.pointer (some ⟨B, o, none⟩))) ∧ h.load ⟨B, o, none⟩ = some (.string (zB (l.getD i []))) := by
  unfold zBJ at hs
  split at hs
  · rename_i n c
    split at hs
    · rename_i h0
      cases hs
      subst h0
      exact ⟨none, c, rfl, fun i hi => by simp at hi⟩
    · cases hs
  · rename_i a n c
    split at hs
    · rename_i h0
      cases hs
      subst h0
      exact ⟨some a, c, rfl, fun i hi => by simp at hi⟩
    · split at hs
      · rename_i cs hcs
        obtain rfl := zK2 hs
        have hn : l.length = n := by
          have := zE6 hcs
          rw [zWG] at this
          exact this
        subst hn
        exact ⟨some a, c, rfl, fun i hi => ⟨a.block, a.off + i, fun k => zCW hi, zEK hcs (zWF hi)⟩⟩
      · cases hs
  · cases hs
def zBa : Prim := fun args h => match args with
  | [.int .u8 p, v] => (match zBJ h v with
    | some l => if 0 ≤ p ∧ p < 256 ∧ (zq l).length + 1000 ≤ zU then some (.string (zB (tagged (UInt8.ofNat p.toNat) l)), h) else none
    | none => none)
  | _ => none
theorem zDl {h : Heap} {v : Value} {l : List (List UInt8)} {p : Nat} (hs : zBJ h v = some l) (hp : p < 256) (hr : (zq l).length + 1000 ≤ zU) : zBa [.int .u8 (OfNat.ofNat p), v] h = some (.string (zB (tagged (UInt8.ofNat p) l)), h) := by
  have e : (OfNat.ofNat p : Int) = (p : Int) := rfl
  simp only [zBa, hs, e]
  rw [if_pos ⟨by omega, by omega, hr⟩]
  simp
theorem zFH {l : List (List UInt8)} {i : Nat} (hi : i < l.length) : zq (l.take (i + 1)) = zq (l.take i) ++ zAa (l.getD i []).length ++ l.getD i [] := by
  unfold zq
  rw [List.take_succ_eq_append_getElem hi, List.flatMap_append, List.flatMap_cons, List.flatMap_nil, List.append_nil, List.append_assoc]
  simp [zCB, List.getD_eq_getElem?_getD, List.getElem?_eq_getElem hi]
theorem zKO {l : List (List UInt8)} {i : Nat} (hi : i < l.length) : (l.getD i []).length + 4 ≤ (zq l).length := by
  have h1 := zFH hi
  have h2 : zq l = zq (l.take (i + 1)) ++ zq (l.drop (i + 1)) := by
    unfold zq; rw [← List.flatMap_append, List.take_append_drop]
  rw [h2, h1]
  simp [zAa]
  omega
theorem zKQ {l : List (List UInt8)} : l.length * 4 ≤ (zq l).length := by
  induction l with
  | nil => simp
  | cons s l ih =>
    unfold zq at ih ⊢
    simp only [List.flatMap_cons, List.length_append, List.length_cons, zCB, zAa] at ih ⊢
    simp only [List.length_nil]
    omega
end Go.X
end
section
open Go Go.X
namespace Go.X
set_option linter.unusedVariables false
theorem zDJ {p : Nat} (hp : p < 256) {h : Heap} : zBN (h.new [uw .u8 p]) (.slice (some ⟨h.next, 0, none⟩) 1 1) = some (.string (zB [UInt8.ofNat p])) := by
  have hO := Own.newSlice (h := h) (l := zV [UInt8.ofNat p]) (n := 1) (esz := 1) (sp := none) rfl (.inl rfl)
  have := hO.cb2s
  rw [zBe] at this
  exact this
theorem zYc (pr : Prog) (T : zB2 pr) (hf : pr.prim 89 = some (za zCx)) (p : Nat) (hp : p < 256) (h : Heap) (wf : HWF h) (v : Value) (l : List (List UInt8)) (hs : zBJ h v = some l) (hr : (zq l).length + 1000 ≤ zU) :
    Comes pr xq64 [uw .u8 p, v] h (.string (zB (tagged (UInt8.ofNat p) l))) := by
  apply Comes.of
  unfold xq64
  dsimp only [zc]
  have hr64 : zU = 140737488355328 := rfl
  obtain ⟨a, cap, rfl, hel⟩ := zFY hs
  obtain ⟨_, h1, e1, rfl, d1, g1⟩ := New_B T h
  have g2 : Grows h (h1.new [uw .u8 p]) := g1.trans Grows.new
  obtain ⟨_, h3, e3, rfl, d3, k3⟩ := zFn T (d1.keep (W := zCA) (Grows.new (l := [uw .u8 p])).keeps (fun _ _ => id)) [UInt8.ofNat p] (by simp; omega)
  have g3 := g2.then k3 (fun A hA => by omega)
  (repeat (first | refine zS ?_ | refine zL ?_ | refine zR ?_ | refine zE ?_ | refine zC ?_ | refine zJ ?_ | refine zK ?_ | refine zP ?_ | refine zF ?_ | refine zH ?_ | refine zG ?_ | refine zI (by decide) ?_ | refine zQ ?_ | ((first | refine zD ?_ | refine zN ?_ | refine zT rfl rfl ?_ | refine zO rfl ?_ | refine zM ?_); simp only [yq64.down, zA, lemS.down, lemC.down, Int.reduceBEq, Nat.reduceAdd, Nat.reduceLeDiff, reduceIte, Nat.reduceEqDiff, Int.reduceLT, Int.reduceLE, Int.reduceGT, Int.reduceGE, Int.reduceEq, Int.reduceAdd, Int.reduceSub, Int.reduceMul, reduceCtorEq, lemH.down, lemW.down, e1, zDJ hp, e3])))
  refine zr (fun m t g => ∃ i, m = l.length - i ∧ i ≤ l.length ∧ DigB g h.next h.next (UInt8.ofNat p :: zq (l.take i)) ∧ Grows h g ∧ t.get 5 = .pointer (some ⟨h.next, 0, none⟩) ∧ t.get 14 = .slice a l.length cap ∧ t.get 15 = .int .i64 (l.length : Int) ∧ t.get 16 = .int .i64 (i : Int)) ?_ l.length _ _ ⟨0, rfl, by omega, by simpa [zq] using d3, g3, by simp only [yq64.down, zA, lemS.down, lemC.down, Int.reduceBEq, Nat.reduceAdd, Nat.reduceLeDiff, reduceIte, Nat.reduceEqDiff, Int.reduceLT, Int.reduceLE, Int.reduceGT, Int.reduceGE, Int.reduceEq, Int.reduceAdd, Int.reduceSub, Int.reduceMul, reduceCtorEq], by simp only [yq64.down, zA, lemS.down, lemC.down, Int.reduceBEq, Nat.reduceAdd, Nat.reduceLeDiff, reduceIte, Nat.reduceEqDiff, Int.reduceLT, Int.reduceLE, Int.reduceGT, Int.reduceGE, Int.reduceEq, Int.reduceAdd, Int.reduceSub, Int.reduceMul, reduceCtorEq], by simp only [yq64.down, zA, lemS.down, lemC.down, Int.reduceBEq, Nat.reduceAdd, Nat.reduceLeDiff, reduceIte, Nat.reduceEqDiff, Int.reduceLT, Int.reduceLE, Int.reduceGT, Int.reduceGE, Int.reduceEq, Int.reduceAdd, Int.reduceSub, Int.reduceMul, reduceCtorEq], by (simp only [yq64.down, zA, lemS.down, lemC.down, Int.reduceBEq, Nat.reduceAdd, Nat.reduceLeDiff, reduceIte, Nat.reduceEqDiff, Int.reduceLT, Int.reduceLE, Int.reduceGT, Int.reduceGE, Int.reduceEq, Int.reduceAdd, Int.reduceSub, Int.reduceMul, reduceCtorEq]) <;> rfl⟩
  rintro m t g ⟨i, rfl, hi, gd, gg, t5, t14, t15, t16⟩ hnext
  refine xq64_9k ?_
  dsimp only [zIK]
  (repeat (first | refine zS ?_ | refine zL ?_ | refine zR ?_ | refine zE ?_ | refine zC ?_ | refine zJ ?_ | refine zK ?_ | refine zP ?_ | refine zF ?_ | refine zH ?_ | refine zG ?_ | refine zI (by decide) ?_ | refine zQ ?_ | ((first | refine zD ?_ | refine zN ?_ | refine zT rfl rfl ?_ | refine zO rfl ?_ | refine zM ?_); simp only [yq64.down, zA, lemS.down, lemC.down, Int.reduceBEq, Nat.reduceAdd, Nat.reduceLeDiff, reduceIte, Nat.reduceEqDiff, Int.reduceLT, Int.reduceLE, Int.reduceGT, Int.reduceGE, Int.reduceEq, Int.reduceAdd, Int.reduceSub, Int.reduceMul, reduceCtorEq, lemH.down, lemW.down, t5, t14, t15, t16])))
  refine ⟨fun hlt => ?_, fun hge => ?_⟩
  · have hi' : i < l.length := by omega
    have hpl := zKO hi'
    have hpc := zKQ (l := l)
    have ww : IntKind.i64.wrap ((i : Int) + 1) = ((i + 1 : Nat) : Int) := by rw [wrap_i64 (by omega) (by omega)]; omega
    obtain ⟨B, o, ia, ld⟩ := hel i hi'
    have ld := gg.load wf ld
    have f4 := zf (h := g) hf (fourS_at (n := (l.getD i []).length) (by omega))
    obtain ⟨_, h4, e4, rfl, d4, k4⟩ := zFn T gd (zAa (l.getD i []).length) (by simp [zAa]; omega)
    obtain ⟨_, h5, e5, rfl, d5, k5⟩ := zFn T d4 (l.getD i []) (by omega)
    (repeat (first | refine zS ?_ | refine zL ?_ | refine zR ?_ | refine zE ?_ | refine zC ?_ | refine zJ ?_ | refine zK ?_ | refine zP ?_ | refine zF ?_ | refine zH ?_ | refine zG ?_ | refine zI (by decide) ?_ | refine zQ ?_ | ((first | refine zD ?_ | refine zN ?_ | refine zT rfl rfl ?_ | refine zO rfl ?_ | refine zM ?_); simp only [yq64.down, zA, lemS.down, lemC.down, Int.reduceBEq, Nat.reduceAdd, Nat.reduceLeDiff, reduceIte, Nat.reduceEqDiff, Int.reduceLT, Int.reduceLE, Int.reduceGT, Int.reduceGE, Int.reduceEq, Int.reduceAdd, Int.reduceSub, Int.reduceMul, reduceCtorEq, lemH.down, lemW.down, t5, t14, t15, t16, zAE, ia, ld, f4, e4, e5, ww])))
    refine hnext (l.length - (i + 1)) _ _ (by omega) ⟨i + 1, rfl, by omega, ?_, (gg.then k4 (fun A hA => by omega)).then k5 (fun A hA => by omega), by simp only [yq64.down, zA, lemS.down, lemC.down, Int.reduceBEq, Nat.reduceAdd, Nat.reduceLeDiff, reduceIte, Nat.reduceEqDiff, Int.reduceLT, Int.reduceLE, Int.reduceGT, Int.reduceGE, Int.reduceEq, Int.reduceAdd, Int.reduceSub, Int.reduceMul, reduceCtorEq, t5], by simp only [yq64.down, zA, lemS.down, lemC.down, Int.reduceBEq, Nat.reduceAdd, Nat.reduceLeDiff, reduceIte, Nat.reduceEqDiff, Int.reduceLT, Int.reduceLE, Int.reduceGT, Int.reduceGE, Int.reduceEq, Int.reduceAdd, Int.reduceSub, Int.reduceMul, reduceCtorEq, t14], by simp only [yq64.down, zA, lemS.down, lemC.down, Int.reduceBEq, Nat.reduceAdd, Nat.reduceLeDiff, reduceIte, Nat.reduceEqDiff, Int.reduceLT, Int.reduceLE, Int.reduceGT, Int.reduceGE, Int.reduceEq, Int.reduceAdd, Int.reduceSub, Int.reduceMul, reduceCtorEq, t15], by simp only [yq64.down, zA, lemS.down, lemC.down, Int.reduceBEq, Nat.reduceAdd, Nat.reduceLeDiff, reduceIte, Nat.reduceEqDiff, Int.reduceLT, Int.reduceLE, Int.reduceGT, Int.reduceGE, Int.reduceEq, Int.reduceAdd, Int.reduceSub, Int.reduceMul, reduceCtorEq]⟩
    rw [zFH hi']
    simpa using d5
  · obtain rfl : i = l.length := by omega
    rw [List.take_length] at gd
    obtain ⟨_, h6, e6, rfl, g6⟩ := Sum_B T gd
    (repeat (first | refine zS ?_ | refine zL ?_ | refine zR ?_ | refine zE ?_ | refine zC ?_ | refine zJ ?_ | refine zK ?_ | refine zP ?_ | refine zF ?_ | refine zH ?_ | refine zG ?_ | refine zI (by decide) ?_ | refine zQ ?_ | ((first | refine zD ?_ | refine zN ?_ | refine zT rfl rfl ?_ | refine zO rfl ?_ | refine zM ?_); simp only [yq64.down, zA, lemS.down, lemC.down, Int.reduceBEq, Nat.reduceAdd, Nat.reduceLeDiff, reduceIte, Nat.reduceEqDiff, Int.reduceLT, Int.reduceLE, Int.reduceGT, Int.reduceGE, Int.reduceEq, Int.reduceAdd, Int.reduceSub, Int.reduceMul, reduceCtorEq, lemH.down, lemW.down, t5, t14, t15, t16, e6])))
    exact ⟨.inr rfl, by (simp only [yq64.down, zA, lemS.down, lemC.down, Int.reduceBEq, Nat.reduceAdd, Nat.reduceLeDiff, reduceIte, Nat.reduceEqDiff, Int.reduceLT, Int.reduceLE, Int.reduceGT, Int.reduceGE, Int.reduceEq, Int.reduceAdd, Int.reduceSub, Int.reduceMul, reduceCtorEq]) <;> rfl, gg.trans g6⟩
theorem zYB (pr : Prog) (hs9 : pr.prim 18 = some (za shaS)) (p : Nat) (hp : p < 256) (h : Heap) (wf : HWF h) (v : Value) (l : List (List UInt8)) (hs : zBJ h v = some l) (hr : (zq l).length + 1000 ≤ zU) :
    Comes pr xq28 [uw .u8 p, v] h (.string (zB (tagged (UInt8.ofNat p) l))) := by
  apply Comes.of
  unfold xq28
  dsimp only [zc]
  have hr64 : zU = 140737488355328 := rfl
  obtain ⟨a, cap, rfl, hel⟩ := zFY hs
  have g1 : Grows h (h.new [uw .u8 p]) := Grows.new
  (repeat (first | refine zS ?_ | refine zL ?_ | refine zR ?_ | refine zE ?_ | refine zC ?_ | refine zJ ?_ | refine zK ?_ | refine zP ?_ | refine zF ?_ | refine zH ?_ | refine zG ?_ | refine zI (by decide) ?_ | refine zQ ?_ | ((first | refine zD ?_ | refine zN ?_ | refine zT rfl rfl ?_ | refine zO rfl ?_ | refine zM ?_); simp only [yq28.down, zA, lemS.down, lemC.down, Int.reduceBEq, Nat.reduceAdd, Nat.reduceLeDiff, reduceIte, Nat.reduceEqDiff, Int.reduceLT, Int.reduceLE, Int.reduceGT, Int.reduceGE, Int.reduceEq, Int.reduceAdd, Int.reduceSub, Int.reduceMul, reduceCtorEq, lemH.down, lemW.down, zDJ hp])))
  generalize h.new [uw .u8 p] = h1 at *
  refine zr (fun m t g => ∃ i, m = l.length - i ∧ i ≤ l.length ∧ Grows h g ∧ t.get 1 = .slice a l.length cap ∧ t.get 5 = .string (zB (UInt8.ofNat p :: zq (l.take i))) ∧ t.get 6 = .int .i64 (i : Int)) ?_ l.length _ _ ⟨0, rfl, by omega, g1, by simp only [yq28.down, zA, lemS.down, lemC.down, Int.reduceBEq, Nat.reduceAdd, Nat.reduceLeDiff, reduceIte, Nat.reduceEqDiff, Int.reduceLT, Int.reduceLE, Int.reduceGT, Int.reduceGE, Int.reduceEq, Int.reduceAdd, Int.reduceSub, Int.reduceMul, reduceCtorEq], by (simp only [yq28.down, zA, lemS.down, lemC.down, Int.reduceBEq, Nat.reduceAdd, Nat.reduceLeDiff, reduceIte, Nat.reduceEqDiff, Int.reduceLT, Int.reduceLE, Int.reduceGT, Int.reduceGE, Int.reduceEq, Int.reduceAdd, Int.reduceSub, Int.reduceMul, reduceCtorEq]) <;> rfl, by (simp only [yq28.down, zA, lemS.down, lemC.down, Int.reduceBEq, Nat.reduceAdd, Nat.reduceLeDiff, reduceIte, Nat.reduceEqDiff, Int.reduceLT, Int.reduceLE, Int.reduceGT, Int.reduceGE, Int.reduceEq, Int.reduceAdd, Int.reduceSub, Int.reduceMul, reduceCtorEq]) <;> rfl⟩
  rintro m t g ⟨i, rfl, hi, gg, t1, t5, t6⟩ hnext
  refine xq28_7k ?_
  dsimp only [zH5]
  (repeat (first | refine zS ?_ | refine zL ?_ | refine zR ?_ | refine zE ?_ | refine zC ?_ | refine zJ ?_ | refine zK ?_ | refine zP ?_ | refine zF ?_ | refine zH ?_ | refine zG ?_ | refine zI (by decide) ?_ | refine zQ ?_ | ((first | refine zD ?_ | refine zN ?_ | refine zT rfl rfl ?_ | refine zO rfl ?_ | refine zM ?_); simp only [yq28.down, zA, lemS.down, lemC.down, Int.reduceBEq, Nat.reduceAdd, Nat.reduceLeDiff, reduceIte, Nat.reduceEqDiff, Int.reduceLT, Int.reduceLE, Int.reduceGT, Int.reduceGE, Int.reduceEq, Int.reduceAdd, Int.reduceSub, Int.reduceMul, reduceCtorEq, lemH.down, lemW.down, t1, t5, t6])))
  have hple : (zq (l.take i)).length ≤ (zq l).length := by
    have h2 : zq l = zq (l.take i) ++ zq (l.drop i) := by
      unfold zq; rw [← List.flatMap_append, List.take_append_drop]
    rw [h2]; simp
  refine ⟨fun hlt => ?_, fun hge => ?_⟩
  · have hi' : i < l.length := by omega
    have hpl := zKO hi'
    have hpc := zKQ (l := l)
    have ww : IntKind.i64.wrap ((i : Int) + 1) = ((i + 1 : Nat) : Int) := by rw [wrap_i64 (by omega) (by omega)]; omega
    obtain ⟨B, o, ia, ld⟩ := hel i hi'
    have ld0 := gg.load wf ld
    have q24 := zFI (k := .i64) (a := (l.getD i []).length) (b := 16777216) (by decide)
    have q16 := zFI (k := .i64) (a := (l.getD i []).length) (b := 65536) (by decide)
    have q8 := zFI (k := .i64) (a := (l.getD i []).length) (b := 256) (by decide)
    rw [wrap_i64 (by omega) (by omega)] at q24 q16 q8
    simp only [Int.cast_ofNat_Int] at q24 q16 q8
    have c := fun n => zBK (k := .u8) (k' := .i64) zHI (n := n)
    have hO := Own.newSlice (h := g) (l := zV (zAa (l.getD i []).length)) (n := 4) (esz := 1) (sp := none) (by rw [zEz]; rfl) (.inl rfl)
    have hb := hO.cb2s
    have ld2 := (gg.trans (Grows.new (l := zV (zAa (l.getD i []).length)))).load wf ld
    rw [zEz] at hb ld2
    have fl : ∀ n, (zAa n).length = 4 := fun _ => rfl
    have cat1 := zAw (a := zAa (l.getD i []).length) (b := l.getD i []) (by rw [fl]; omega)
    have cat2 := zAw (a := UInt8.ofNat p :: zq (l.take i)) (b := zAa (l.getD i []).length ++ l.getD i []) (by
      have h3 : (zq (l.take i)).length + 4 + (l.getD i []).length ≤ (zq l).length := by
        have h2 : zq l = zq (l.take (i + 1)) ++ zq (l.drop (i + 1)) := by
          unfold zq; rw [← List.flatMap_append, List.take_append_drop]
        rw [h2, zFH hi', List.length_append, List.length_append, List.length_append, fl]
        omega
      rw [List.length_append, List.length_cons, fl]; omega)
    (repeat (first | refine zS ?_ | refine zL ?_ | refine zR ?_ | refine zE ?_ | refine zC ?_ | refine zJ ?_ | refine zK ?_ | refine zP ?_ | refine zF ?_ | refine zH ?_ | refine zG ?_ | refine zI (by decide) ?_ | refine zQ ?_ | ((first | refine zD ?_ | refine zN ?_ | refine zT rfl rfl ?_ | refine zO rfl ?_ | refine zM ?_); simp only [yq28.down, zA, lemS.down, lemC.down, Int.reduceBEq, Nat.reduceAdd, Nat.reduceLeDiff, reduceIte, Nat.reduceEqDiff, Int.reduceLT, Int.reduceLE, Int.reduceGT, Int.reduceGE, Int.reduceEq, Int.reduceAdd, Int.reduceSub, Int.reduceMul, reduceCtorEq, lemH.down, lemW.down, t1, t5, t6, zAE, ia, ld0, q24, q16, q8, c, fill4', hb, ld2, cat1, cat2, ww])))
    refine hnext (l.length - (i + 1)) _ _ (by omega) ⟨i + 1, rfl, by omega, gg.trans Grows.new, by simp only [yq28.down, zA, lemS.down, lemC.down, Int.reduceBEq, Nat.reduceAdd, Nat.reduceLeDiff, reduceIte, Nat.reduceEqDiff, Int.reduceLT, Int.reduceLE, Int.reduceGT, Int.reduceGE, Int.reduceEq, Int.reduceAdd, Int.reduceSub, Int.reduceMul, reduceCtorEq, t1], ?_, by simp only [yq28.down, zA, lemS.down, lemC.down, Int.reduceBEq, Nat.reduceAdd, Nat.reduceLeDiff, reduceIte, Nat.reduceEqDiff, Int.reduceLT, Int.reduceLE, Int.reduceGT, Int.reduceGE, Int.reduceEq, Int.reduceAdd, Int.reduceSub, Int.reduceMul, reduceCtorEq]⟩
    simp only [yq28.down, zA, lemS.down, lemC.down, Int.reduceBEq, Nat.reduceAdd, Nat.reduceLeDiff, reduceIte, Nat.reduceEqDiff, Int.reduceLT, Int.reduceLE, Int.reduceGT, Int.reduceGE, Int.reduceEq, Int.reduceAdd, Int.reduceSub, Int.reduceMul, reduceCtorEq]
    rw [zFH hi']
    simp
  · obtain rfl : i = l.length := by omega
    rw [List.take_length] at t5
    have sm := zf (h := g) hs9 (zCi (s := UInt8.ofNat p :: zq l) (by simp; omega))
    (repeat (first | refine zS ?_ | refine zL ?_ | refine zR ?_ | refine zE ?_ | refine zC ?_ | refine zJ ?_ | refine zK ?_ | refine zP ?_ | refine zF ?_ | refine zH ?_ | refine zG ?_ | refine zI (by decide) ?_ | refine zQ ?_ | ((first | refine zD ?_ | refine zN ?_ | refine zT rfl rfl ?_ | refine zO rfl ?_ | refine zM ?_); simp only [yq28.down, zA, lemS.down, lemC.down, Int.reduceBEq, Nat.reduceAdd, Nat.reduceLeDiff, reduceIte, Nat.reduceEqDiff, Int.reduceLT, Int.reduceLE, Int.reduceGT, Int.reduceGE, Int.reduceEq, Int.reduceAdd, Int.reduceSub, Int.reduceMul, reduceCtorEq, lemH.down, lemW.down, t1, t5, t6, sm])))
    exact ⟨.inr rfl, by (simp only [yq28.down, zA, lemS.down, lemC.down, Int.reduceBEq, Nat.reduceAdd, Nat.reduceLeDiff, reduceIte, Nat.reduceEqDiff, Int.reduceLT, Int.reduceLE, Int.reduceGT, Int.reduceGE, Int.reduceEq, Int.reduceAdd, Int.reduceSub, Int.reduceMul, reduceCtorEq]) <;> rfl, gg⟩
end Go.X
end
section
open Go Go.X
namespace Go.X
set_option linter.unusedVariables false
def zAC (h : Heap) (a : Addr) : Option (List (List UInt8)) := match h.load a with | some v => zBJ h v | none => none
def keyP (l : List (List UInt8)) (i : Int) : List UInt8 × Bool := if 0 ≤ i ∧ i < l.length then (l.getD i.toNat [], true) else ([], false)
def keyG : Prim := fun args h => match args with
  | [.pointer none, .int .i64 _] => some (.tuple #[.string (zB []), .bool false], h)
  | [.pointer (some a), .int .i64 i] => (match zAC h a with
    | some l => some (.tuple #[.string (zB (keyP l i).1), .bool (keyP l i).2], h)
    | none => none)
  | _ => none
theorem zJu {h : Heap} {a : Addr} {l : List (List UInt8)} {i : Int} (hr : zAC h a = some l) : keyG [.pointer (some a), .int .i64 i] h = some (.tuple #[.string (zB (keyP l i).1), .bool (keyP l i).2], h) := by simp only [keyG, hr]
theorem zGt {h : Heap} {a : Addr} {l : List (List UInt8)} (hr : zAC h a = some l) : ∃ v, h.load a = some v ∧ zBJ h v = some l := by
  unfold zAC at hr
  split at hr
  · rename_i v hv; exact ⟨v, hv, hr⟩
  · cases hr
theorem key_ok (pr : Prog) (h : Heap) (a : Addr) (l : List (List UInt8)) (i : Int) (hr : zAC h a = some l) : Comes pr xq23 [.pointer (some a), .int .i64 i] h (.tuple #[.string (zB (keyP l i).1), .bool (keyP l i).2]) := by
  apply Comes.of
  unfold xq23
  dsimp only [zc]
  obtain ⟨v, hv, hs⟩ := zGt hr
  obtain ⟨b, cap, rfl, hel⟩ := zFY hs
  have ld : ∀ sp, h.load ⟨a.block, a.off, sp⟩ = some (.slice b l.length cap) := fun sp => hv
  by_cases hi : i < 0
  · have d1 : decide (i < 0) = true := by simpa using hi
    (repeat (first | refine zS ?_ | refine zL ?_ | refine zR ?_ | refine zE ?_ | refine zC ?_ | refine zJ ?_ | refine zK ?_ | refine zP ?_ | refine zF ?_ | refine zH ?_ | refine zG ?_ | refine zI (by decide) ?_ | refine zQ ?_ | ((first | refine zD ?_ | refine zN ?_ | refine zT rfl rfl ?_ | refine zO rfl ?_ | refine zM ?_); simp only [yq23.down, zA, lemS.down, lemC.down, Int.reduceBEq, Nat.reduceAdd, Nat.reduceLeDiff, reduceIte, Nat.reduceEqDiff, Int.reduceLT, Int.reduceLE, Int.reduceGT, Int.reduceGE, Int.reduceEq, Int.reduceAdd, Int.reduceSub, Int.reduceMul, reduceCtorEq, lemH.down, zBF, d1])))
    refine ⟨.inr rfl, ?_, Grows.refl h⟩
    simp only [yq23.down, zA, lemS.down, lemC.down, Int.reduceBEq, Nat.reduceAdd, Nat.reduceLeDiff, reduceIte, Nat.reduceEqDiff, Int.reduceLT, Int.reduceLE, Int.reduceGT, Int.reduceGE, Int.reduceEq, Int.reduceAdd, Int.reduceSub, Int.reduceMul, reduceCtorEq]
    unfold keyP
    rw [if_neg (by omega)]
  · have d1 : decide (i < 0) = false := by simpa using hi
    (repeat (first | refine zS ?_ | refine zL ?_ | refine zR ?_ | refine zE ?_ | refine zC ?_ | refine zJ ?_ | refine zK ?_ | refine zP ?_ | refine zF ?_ | refine zH ?_ | refine zG ?_ | refine zI (by decide) ?_ | refine zQ ?_ | ((first | refine zD ?_ | refine zN ?_ | refine zT rfl rfl ?_ | refine zO rfl ?_ | refine zM ?_); simp only [yq23.down, zA, lemS.down, lemC.down, Int.reduceBEq, Nat.reduceAdd, Nat.reduceLeDiff, reduceIte, Nat.reduceEqDiff, Int.reduceLT, Int.reduceLE, Int.reduceGT, Int.reduceGE, Int.reduceEq, Int.reduceAdd, Int.reduceSub, Int.reduceMul, reduceCtorEq, lemH.down, zBF, d1, Nat.add_zero, ld])))
    refine ⟨fun hge => ?_, fun hlt => ?_⟩
    · (repeat (first | refine zS ?_ | refine zL ?_ | refine zR ?_ | refine zE ?_ | refine zC ?_ | refine zJ ?_ | refine zK ?_ | refine zP ?_ | refine zF ?_ | refine zH ?_ | refine zG ?_ | refine zI (by decide) ?_ | refine zQ ?_ | ((first | refine zD ?_ | refine zN ?_ | refine zT rfl rfl ?_ | refine zO rfl ?_ | refine zM ?_); simp only [yq23.down, zA, lemS.down, lemC.down, Int.reduceBEq, Nat.reduceAdd, Nat.reduceLeDiff, reduceIte, Nat.reduceEqDiff, Int.reduceLT, Int.reduceLE, Int.reduceGT, Int.reduceGE, Int.reduceEq, Int.reduceAdd, Int.reduceSub, Int.reduceMul, reduceCtorEq, lemH.down])))
      refine ⟨.inr rfl, ?_, Grows.refl h⟩
      simp only [yq23.down, zA, lemS.down, lemC.down, Int.reduceBEq, Nat.reduceAdd, Nat.reduceLeDiff, reduceIte, Nat.reduceEqDiff, Int.reduceLT, Int.reduceLE, Int.reduceGT, Int.reduceGE, Int.reduceEq, Int.reduceAdd, Int.reduceSub, Int.reduceMul, reduceCtorEq]
      unfold keyP
      rw [if_neg (by omega)]
    · obtain ⟨n, rfl⟩ : ∃ n : Nat, i = (n : Int) := ⟨i.toNat, by omega⟩
      obtain ⟨B, o, ia, lo⟩ := hel n (by omega)
      (repeat (first | refine zS ?_ | refine zL ?_ | refine zR ?_ | refine zE ?_ | refine zC ?_ | refine zJ ?_ | refine zK ?_ | refine zP ?_ | refine zF ?_ | refine zH ?_ | refine zG ?_ | refine zI (by decide) ?_ | refine zQ ?_ | ((first | refine zD ?_ | refine zN ?_ | refine zT rfl rfl ?_ | refine zO rfl ?_ | refine zM ?_); simp only [yq23.down, zA, lemS.down, lemC.down, Int.reduceBEq, Nat.reduceAdd, Nat.reduceLeDiff, reduceIte, Nat.reduceEqDiff, Int.reduceLT, Int.reduceLE, Int.reduceGT, Int.reduceGE, Int.reduceEq, Int.reduceAdd, Int.reduceSub, Int.reduceMul, reduceCtorEq, lemH.down, Nat.add_zero, ld, zAE, ia, lo])))
      refine ⟨.inr rfl, ?_, Grows.refl h⟩
      simp only [yq23.down, zA, lemS.down, lemC.down, Int.reduceBEq, Nat.reduceAdd, Nat.reduceLeDiff, reduceIte, Nat.reduceEqDiff, Int.reduceLT, Int.reduceLE, Int.reduceGT, Int.reduceGE, Int.reduceEq, Int.reduceAdd, Int.reduceSub, Int.reduceMul, reduceCtorEq]
      unfold keyP
      rw [if_pos (by omega)]
      rfl
def zGv : Prim := fun args h => match args with
  | [.pointer none] => some (.int .i64 0, h)
  | [.pointer (some a)] => (match zAC h a with | some l => some (.int .i64 (l.length : Int), h) | none => none)
  | _ => none
theorem zX5 (pr : Prog) (h : Heap) (a : Addr) (l : List (List UInt8)) (hr : zAC h a = some l) : Comes pr xq25 [.pointer (some a)] h (.int .i64 (l.length : Int)) := by
  apply Comes.of
  unfold xq25
  dsimp only [zc]
  obtain ⟨v, hv, hs⟩ := zGt hr
  obtain ⟨b, cap, rfl, hel⟩ := zFY hs
  have ld : ∀ sp, h.load ⟨a.block, a.off, sp⟩ = some (.slice b l.length cap) := fun sp => hv
  (repeat (first | refine zS ?_ | refine zL ?_ | refine zR ?_ | refine zE ?_ | refine zC ?_ | refine zJ ?_ | refine zK ?_ | refine zP ?_ | refine zF ?_ | refine zH ?_ | refine zG ?_ | refine zI (by decide) ?_ | refine zQ ?_ | ((first | refine zD ?_ | refine zN ?_ | refine zT rfl rfl ?_ | refine zO rfl ?_ | refine zM ?_); simp only [yq25.down, zA, lemS.down, lemC.down, Int.reduceBEq, Nat.reduceAdd, Nat.reduceLeDiff, reduceIte, Nat.reduceEqDiff, Int.reduceLT, Int.reduceLE, Int.reduceGT, Int.reduceGE, Int.reduceEq, Int.reduceAdd, Int.reduceSub, Int.reduceMul, reduceCtorEq, lemH.down, zBF, Nat.add_zero, ld])))
  exact ⟨.inr rfl, by simp only [yq25.down, zA, lemS.down, lemC.down, Int.reduceBEq, Nat.reduceAdd, Nat.reduceLeDiff, reduceIte, Nat.reduceEqDiff, Int.reduceLT, Int.reduceLE, Int.reduceGT, Int.reduceGE, Int.reduceEq, Int.reduceAdd, Int.reduceSub, Int.reduceMul, reduceCtorEq], Grows.refl h⟩
def zAb (l : List (List UInt8)) : Bool := l.all fun k => Nat.ble (k.length + 400) zU
theorem zJy {l : List (List UInt8)} (h : zAb l = true) (i : Nat) : (l.getD i []).length + 400 ≤ zU := by
  unfold zAb at h
  rw [List.all_eq_true] at h
  by_cases hi : i < l.length
  · have := h (l.getD i []) (by simp [List.getD_eq_getElem?_getD, List.getElem?_eq_getElem hi])
    exact Nat.le_of_ble_eq_true this
  · rw [List.getD_eq_getElem?_getD, List.getElem?_eq_none (by omega)]
    decide
def tagP (l : List (List UInt8)) (i : Int) (s : List UInt8) : List UInt8 × Nat := if (keyP l i).2 then (mac (keyP l i).1 s, 0) else ([], 2)
def zDc : Prim := fun args h => match args with
  | [.pointer none, .int .i64 _, .string _] => some (.tuple #[.string (zB []), .int .i64 2], h)
  | [.pointer (some a), .int .i64 i, .string s] => (match zAC h a with
    | some l => if zAb l = true ∧ s.data.toList.length + 500 ≤ zU then some (.tuple #[.string (zB (tagP l i s.data.toList).1), .int .i64 ((tagP l i s.data.toList).2 : Int)], h) else none
    | none => none)
  | _ => none
theorem zX6 {h : Heap} {a : Addr} {l : List (List UInt8)} {i : Int} {s : List UInt8} (hr : zAC h a = some l) (hk : zAb l = true) (hs : s.length + 500 ≤ zU) : zDc [.pointer (some a), .int .i64 i, .string (zB s)] h = some (.tuple #[.string (zB (tagP l i s).1), .int .i64 ((tagP l i s).2 : Int)], h) := by
  simp only [zDc, hr, zAi]
  rw [if_pos ⟨hk, hs⟩]
theorem zX7 (pr : Prog) (hp : pr.prim 23 = some keyG) (ht : pr.prim 17 = some (za tagS)) (h : Heap) (a : Addr) (l : List (List UInt8)) (i : Int) (s : List UInt8) (hr : zAC h a = some l) (hk : zAb l = true) (hs : s.length + 500 ≤ zU) :
    Comes pr xq24 [.pointer (some a), .int .i64 i, .string (zB s)] h (.tuple #[.string (zB (tagP l i s).1), .int .i64 ((tagP l i s).2 : Int)]) := by
  apply Comes.of
  unfold xq24
  dsimp only [zc]
  have k1 := zz hp (zJu (i := i) hr)
  (repeat (first | refine zS ?_ | refine zL ?_ | refine zR ?_ | refine zE ?_ | refine zC ?_ | refine zJ ?_ | refine zK ?_ | refine zP ?_ | refine zF ?_ | refine zH ?_ | refine zG ?_ | refine zI (by decide) ?_ | refine zQ ?_ | ((first | refine zD ?_ | refine zN ?_ | refine zT rfl rfl ?_ | refine zO rfl ?_ | refine zM ?_); simp only [yq24.down, zA, lemS.down, lemC.down, Int.reduceBEq, Nat.reduceAdd, Nat.reduceLeDiff, reduceIte, Nat.reduceEqDiff, Int.reduceLT, Int.reduceLE, Int.reduceGT, Int.reduceGE, Int.reduceEq, Int.reduceAdd, Int.reduceSub, Int.reduceMul, reduceCtorEq, k1])))
  unfold tagP
  refine ⟨fun hc => ?_, fun hc => ?_⟩
  · (repeat (first | refine zS ?_ | refine zL ?_ | refine zR ?_ | refine zE ?_ | refine zC ?_ | refine zJ ?_ | refine zK ?_ | refine zP ?_ | refine zF ?_ | refine zH ?_ | refine zG ?_ | refine zI (by decide) ?_ | refine zQ ?_ | ((first | refine zD ?_ | refine zN ?_ | refine zT rfl rfl ?_ | refine zO rfl ?_ | refine zM ?_); simp only [yq24.down, zA, lemS.down, lemC.down, Int.reduceBEq, Nat.reduceAdd, Nat.reduceLeDiff, reduceIte, Nat.reduceEqDiff, Int.reduceLT, Int.reduceLE, Int.reduceGT, Int.reduceGE, Int.reduceEq, Int.reduceAdd, Int.reduceSub, Int.reduceMul, reduceCtorEq])))
    refine ⟨.inr rfl, ?_, Grows.refl h⟩
    (simp only [yq24.down, zA, lemS.down, lemC.down, Int.reduceBEq, Nat.reduceAdd, Nat.reduceLeDiff, reduceIte, Nat.reduceEqDiff, Int.reduceLT, Int.reduceLE, Int.reduceGT, Int.reduceGE, Int.reduceEq, Int.reduceAdd, Int.reduceSub, Int.reduceMul, reduceCtorEq, hc]) <;> rfl
  · have hkl : (keyP l i).1.length + 400 ≤ zU := by
      unfold keyP; split
      · exact zJy hk _
      · decide
    (repeat (first | refine zS ?_ | refine zL ?_ | refine zR ?_ | refine zE ?_ | refine zC ?_ | refine zJ ?_ | refine zK ?_ | refine zP ?_ | refine zF ?_ | refine zH ?_ | refine zG ?_ | refine zI (by decide) ?_ | refine zQ ?_ | ((first | refine zD ?_ | refine zN ?_ | refine zT rfl rfl ?_ | refine zO rfl ?_ | refine zM ?_); simp only [yq24.down, zA, lemS.down, lemC.down, Int.reduceBEq, Nat.reduceAdd, Nat.reduceLeDiff, reduceIte, Nat.reduceEqDiff, Int.reduceLT, Int.reduceLE, Int.reduceGT, Int.reduceGE, Int.reduceEq, Int.reduceAdd, Int.reduceSub, Int.reduceMul, reduceCtorEq, zf ht (zHE (k := (keyP l i).1) (s := s) hkl hs)])))
    refine ⟨.inr rfl, ?_, Grows.refl h⟩
    (simp only [yq24.down, zA, lemS.down, lemC.down, Int.reduceBEq, Nat.reduceAdd, Nat.reduceLeDiff, reduceIte, Nat.reduceEqDiff, Int.reduceLT, Int.reduceLE, Int.reduceGT, Int.reduceGE, Int.reduceEq, Int.reduceAdd, Int.reduceSub, Int.reduceMul, reduceCtorEq, hc]) <;> rfl
def zCq (l : List (List UInt8)) (i : Int) (s t : List UInt8) : Bool := (keyP l i).2 && (mac (keyP l i).1 s == t)
def zDb : Prim := fun args h => match args with
  | [.pointer none, .int .i64 _, .string _, .string _] => some (.bool false, h)
  | [.pointer (some a), .int .i64 i, .string s, .string t] => (match zAC h a with
    | some l => if zAb l = true ∧ s.data.toList.length + 500 ≤ zU then some (.bool (zCq l i s.data.toList t.data.toList), h) else none
    | none => none)
  | _ => none
theorem zX1 {h : Heap} {a : Addr} {l : List (List UInt8)} {i : Int} {s t : List UInt8} (hr : zAC h a = some l) (hk : zAb l = true) (hs : s.length + 500 ≤ zU) : zDb [.pointer (some a), .int .i64 i, .string (zB s), .string (zB t)] h = some (.bool (zCq l i s t), h) := by
  simp only [zDb, hr, zAi]
  rw [if_pos ⟨hk, hs⟩]
theorem zX2 (pr : Prog) (hp : pr.prim 23 = some keyG) (ht : pr.prim 20 = some (za zCr)) (h : Heap) (a : Addr) (l : List (List UInt8)) (i : Int) (s t : List UInt8) (hr : zAC h a = some l) (hk : zAb l = true) (hs : s.length + 500 ≤ zU) :
    Comes pr xq26 [.pointer (some a), .int .i64 i, .string (zB s), .string (zB t)] h (.bool (zCq l i s t)) := by
  apply Comes.of
  unfold xq26
  dsimp only [zc]
  have k1 := zz hp (zJu (i := i) hr)
  have hkl : (keyP l i).1.length + 400 ≤ zU := by
    unfold keyP; split
    · exact zJy hk _
    · decide
  have c1 := zf (h := h) ht (zWU (k := (keyP l i).1) (s := s) (t := t) hkl hs)
  unfold zCq
  cases hc : (keyP l i).2
  · (repeat (first | refine zS ?_ | refine zL ?_ | refine zR ?_ | refine zE ?_ | refine zC ?_ | refine zJ ?_ | refine zK ?_ | refine zP ?_ | refine zF ?_ | refine zH ?_ | refine zG ?_ | refine zI (by decide) ?_ | refine zQ ?_ | ((first | refine zD ?_ | refine zN ?_ | refine zT rfl rfl ?_ | refine zO rfl ?_ | refine zM ?_); simp only [yq26.down, zA, lemS.down, lemC.down, Int.reduceBEq, Nat.reduceAdd, Nat.reduceLeDiff, reduceIte, Nat.reduceEqDiff, Int.reduceLT, Int.reduceLE, Int.reduceGT, Int.reduceGE, Int.reduceEq, Int.reduceAdd, Int.reduceSub, Int.reduceMul, reduceCtorEq, k1, hc])))
    exact ⟨.inr rfl, by (simp only [yq26.down, zA, lemS.down, lemC.down, Int.reduceBEq, Nat.reduceAdd, Nat.reduceLeDiff, reduceIte, Nat.reduceEqDiff, Int.reduceLT, Int.reduceLE, Int.reduceGT, Int.reduceGE, Int.reduceEq, Int.reduceAdd, Int.reduceSub, Int.reduceMul, reduceCtorEq]) <;> rfl, Grows.refl h⟩
  · (repeat (first | refine zS ?_ | refine zL ?_ | refine zR ?_ | refine zE ?_ | refine zC ?_ | refine zJ ?_ | refine zK ?_ | refine zP ?_ | refine zF ?_ | refine zH ?_ | refine zG ?_ | refine zI (by decide) ?_ | refine zQ ?_ | ((first | refine zD ?_ | refine zN ?_ | refine zT rfl rfl ?_ | refine zO rfl ?_ | refine zM ?_); simp only [yq26.down, zA, lemS.down, lemC.down, Int.reduceBEq, Nat.reduceAdd, Nat.reduceLeDiff, reduceIte, Nat.reduceEqDiff, Int.reduceLT, Int.reduceLE, Int.reduceGT, Int.reduceGE, Int.reduceEq, Int.reduceAdd, Int.reduceSub, Int.reduceMul, reduceCtorEq, k1, hc, c1])))
    exact ⟨.inr rfl, by (simp only [yq26.down, zA, lemS.down, lemC.down, Int.reduceBEq, Nat.reduceAdd, Nat.reduceLeDiff, reduceIte, Nat.reduceEqDiff, Int.reduceLT, Int.reduceLE, Int.reduceGT, Int.reduceGE, Int.reduceEq, Int.reduceAdd, Int.reduceSub, Int.reduceMul, reduceCtorEq]) <;> rfl, Grows.refl h⟩
end Go.X
end
section
open Go Go.X
namespace Go.X
set_option linter.unusedVariables false
def zBB (s : List UInt8) (i : Nat) : List UInt8 := tagged 75 [s, [UInt8.ofNat i]]
def zBQ (s : List UInt8) (n : Nat) : List (List UInt8) := (List.range n).map (zBB s)
theorem zKc (s : List UInt8) (n : Nat) : (zBQ s n).length = n := by simp [zBQ]
theorem zX3 {s : List UInt8} {n i : Nat} (hi : i < n) : (zBQ s n).getD i [] = zBB s i := by
  simp [zBQ, List.getD_eq_getElem?_getD, List.getElem?_map, hi]
theorem zX4 (s : List UInt8) (n : Nat) : zAb (zBQ s n) = true := by
  unfold zAb zBQ
  rw [List.all_eq_true]
  intro k hk
  obtain ⟨i, _, rfl⟩ := List.mem_map.1 hk
  refine Nat.ble_eq_true_of_le ?_
  unfold zBB
  rw [zEc]; decide
theorem fill2s {z w : Value} {a b : ByteArray} : zp [z, w] [(0, 1, .string a), (1, 1, .string b)] = some [.string a, .string b] := by simp [zp, zF5, putN]
theorem zLC {h : Heap} {a b : List UInt8} : zBJ (h.new [.string (zB a), .string (zB b)]) (.slice (some ⟨h.next, 0, none⟩) 2 2) = some [a, b] :=
  (Own.newSlice (h := h) (l := zAc [a, b]) (n := 2) (esz := 1) (sp := none) rfl (.inl rfl)).strs
theorem zWE {a b : List (List UInt8)} : zAc (a ++ b) = zAc a ++ zAc b := by simp [zAc]
theorem zVg (pr : Prog) (ht : pr.prim 64 = some zBa) (hn : pr.prim 27 = none) (hc : pr.code 27 = some xq27) (h : Heap) (s : List UInt8) (n : Nat) (hb : n ≤ 16) (hs : s.length + 2000 ≤ zU) :
    ∃ v h', cfi pr 27 [.string (zB s), .int .i64 (n : Int)] h = some (v, h') ∧ v = .tuple #[.pointer (some ⟨h.next, 0, none⟩), .int .i64 0] ∧ (∃ w, Var h' h.next [w] ∧ Own h' (fun A => h.next ≤ A ∧ A ≠ h.next) 1 w n (zAc (zBQ s n))) ∧ Grows h h' := by
  refine zAS hn hc rfl ?_
  unfold xq27
  dsimp only [zc]
  refine wpk.out (k := []) ?_
  have hr64 : zU = 140737488355328 := rfl
  have d1 : decide ((n : Int) < 0) = false := by simp
  have d2 : decide ((n : Int) > 16) = false := by simp; omega
  have hz : aggV (zp [.slice none 0 0] []) = some (.agg [Value.slice none 0 0].toArray) := rfl
  (repeat (first | refine zS ?_ | refine zL ?_ | refine zR ?_ | refine zE ?_ | refine zC ?_ | refine zJ ?_ | refine zK ?_ | refine zP ?_ | refine zF ?_ | refine zH ?_ | refine zG ?_ | refine zI (by decide) ?_ | refine zQ ?_ | ((first | refine zD ?_ | refine zN ?_ | refine zT rfl rfl ?_ | refine zO rfl ?_ | refine zM ?_); simp only [yq27.down, zA, lemS.down, lemC.down, Int.reduceBEq, Nat.reduceAdd, Nat.reduceLeDiff, reduceIte, Nat.reduceEqDiff, Int.reduceLT, Int.reduceLE, Int.reduceGT, Int.reduceGE, Int.reduceEq, Int.reduceAdd, Int.reduceSub, Int.reduceMul, reduceCtorEq, lemH.down, d1, d2, hz])))
  refine zr (fun m t g => ∃ i w, m = n - i ∧ i ≤ n ∧ Var g h.next [w] ∧ Own g (fun A => h.next ≤ A ∧ A ≠ h.next) 1 w i (zAc (zBQ s i)) ∧ Grows h g ∧ t.get 0 = .string (zB s) ∧ t.get 6 = .pointer (some ⟨h.next, 0, none⟩) ∧ t.get 16 = .int .i64 (n : Int) ∧ t.get 17 = .int .i64 (i : Int)) ?_ n _ _ ⟨0, _, rfl, by omega, Var.new_self, Own.nil, Grows.new, by simp only [yq27.down, zA, lemS.down, lemC.down, Int.reduceBEq, Nat.reduceAdd, Nat.reduceLeDiff, reduceIte, Nat.reduceEqDiff, Int.reduceLT, Int.reduceLE, Int.reduceGT, Int.reduceGE, Int.reduceEq, Int.reduceAdd, Int.reduceSub, Int.reduceMul, reduceCtorEq], by simp only [yq27.down, zA, lemS.down, lemC.down, Int.reduceBEq, Nat.reduceAdd, Nat.reduceLeDiff, reduceIte, Nat.reduceEqDiff, Int.reduceLT, Int.reduceLE, Int.reduceGT, Int.reduceGE, Int.reduceEq, Int.reduceAdd, Int.reduceSub, Int.reduceMul, reduceCtorEq], by simp only [yq27.down, zA, lemS.down, lemC.down, Int.reduceBEq, Nat.reduceAdd, Nat.reduceLeDiff, reduceIte, Nat.reduceEqDiff, Int.reduceLT, Int.reduceLE, Int.reduceGT, Int.reduceGE, Int.reduceEq, Int.reduceAdd, Int.reduceSub, Int.reduceMul, reduceCtorEq], by (simp only [yq27.down, zA, lemS.down, lemC.down, Int.reduceBEq, Nat.reduceAdd, Nat.reduceLeDiff, reduceIte, Nat.reduceEqDiff, Int.reduceLT, Int.reduceLE, Int.reduceGT, Int.reduceGE, Int.reduceEq, Int.reduceAdd, Int.reduceSub, Int.reduceMul, reduceCtorEq]) <;> rfl⟩
  rintro m t g ⟨i, w, rfl, hi, gV, gO, gg, t0, t6, t16, t17⟩ hnext
  refine xq27_9k ?_
  dsimp only [zH4]
  (repeat (first | refine zS ?_ | refine zL ?_ | refine zR ?_ | refine zE ?_ | refine zC ?_ | refine zJ ?_ | refine zK ?_ | refine zP ?_ | refine zF ?_ | refine zH ?_ | refine zG ?_ | refine zI (by decide) ?_ | refine zQ ?_ | ((first | refine zD ?_ | refine zN ?_ | refine zT rfl rfl ?_ | refine zO rfl ?_ | refine zM ?_); simp only [yq27.down, zA, lemS.down, lemC.down, Int.reduceBEq, Nat.reduceAdd, Nat.reduceLeDiff, reduceIte, Nat.reduceEqDiff, Int.reduceLT, Int.reduceLE, Int.reduceGT, Int.reduceGE, Int.reduceEq, Int.reduceAdd, Int.reduceSub, Int.reduceMul, reduceCtorEq, lemH.down, lemW.down, t0, t6, t16, t17])))
  refine ⟨fun hlt => ?_, fun hge => ?_⟩
  · have hi' : i < n := by omega
    have hlt2 : h.next < g.next := gV.1
    have ww : IntKind.i64.wrap ((i : Int) + 1) = ((i + 1 : Nat) : Int) := by rw [wrap_i64 (by omega) (by omega)]; omega
    have c := zBK (k := .u8) (k' := .i64) zHI (n := i)
    have bc := zDJ (p := i) (by omega) (h := g)
    have gV1 := gV.new_old (m := [uw .u8 i])
    have gV2 := gV1.new_old (m := [.string (zB s), .string (zB [UInt8.ofNat i])])
    have gV3 := gV2.new_old (m := [.string (zB (zBB s i))])
    have bc2 : zBN ((g.new [uw .u8 i]).new [.string (zB s), .string (zB [UInt8.ofNat i])]) (.slice (some ⟨g.next, 0, none⟩) 1 1) = some (.string (zB [UInt8.ofNat i])) := by
      have hO := (Own.newSlice (h := g) (l := zV [UInt8.ofNat i]) (n := 1) (esz := 1) (sp := none) rfl (.inl rfl)).grow (Grows.new (l := [.string (zB s), .string (zB [UInt8.ofNat i])]))
      have := hO.cb2s
      rw [zBe] at this
      exact this
    have ts := zLC (h := g.new [uw .u8 i]) (a := s) (b := [UInt8.ofNat i])
    rw [zDX] at ts
    have tg := zz ht (zDl (p := 75) ts (by decide) (by simp [zq, zCB, zAa]; omega))
    have tg : cfi pr 64 [.int .u8 75, .slice (some ⟨g.next + 1, 0, none⟩) 2 2] ((g.new [uw .u8 i]).new [.string (zB s), .string (zB [UInt8.ofNat i])]) = some (.string (zB (zBB s i)), (g.new [uw .u8 i]).new [.string (zB s), .string (zB [UInt8.ofNat i])]) := tg
    have gO3 := ((gO.grow (Grows.new (l := [uw .u8 i]))).grow (Grows.new (l := [.string (zB s), .string (zB [UInt8.ofNat i])]))).grow (Grows.new (l := [.string (zB (zBB s i))]))
    have hs1 := (Var.new_self (h := (g.new [uw .u8 i]).new [.string (zB s), .string (zB [UInt8.ofNat i])]) (l := [.string (zB (zBB s i))])).src (n := 1) (esz := 1) (bytes := 16) (s := w) (sp := none) (c := 1) rfl (by decide)
    obtain ⟨w', g4, e4, gO4, k4⟩ := gO3.append (bytes := 16) (m := 1) (new := [.string (zB (zBB s i))]) rfl rfl (by decide) (by decide) (by omega)
    rw [e4, zDX, zDX] at hs1
    have gV4 := gV3.keep k4 (fun e => e.2 rfl)
    have st := gO4.store (i := 0) gV4 (by simp)
    simp only [List.set_cons_zero] at st
    (repeat (first | refine zS ?_ | refine zL ?_ | refine zR ?_ | refine zE ?_ | refine zC ?_ | refine zJ ?_ | refine zK ?_ | refine zP ?_ | refine zF ?_ | refine zH ?_ | refine zG ?_ | refine zI (by decide) ?_ | refine zQ ?_ | ((first | refine zD ?_ | refine zN ?_ | refine zT rfl rfl ?_ | refine zO rfl ?_ | refine zM ?_); simp only [yq27.down, zA, lemS.down, lemC.down, Int.reduceBEq, Nat.reduceAdd, Nat.reduceLeDiff, reduceIte, Nat.reduceEqDiff, Int.reduceLT, Int.reduceLE, Int.reduceGT, Int.reduceGE, Int.reduceEq, Int.reduceAdd, Int.reduceSub, Int.reduceMul, reduceCtorEq, lemH.down, lemW.down, t0, t6, t16, t17, c, fill2s, bc, bc2, gV.load, gV1.load, gV2.load, gV3.load, List.getElem?_cons_zero, tg, hs1, st])))
    refine ⟨⟨?_, ?_⟩, ?_, ?_⟩
    · (refine zAn rfl rfl rfl ?_ ?_ <;> simp only [yq27.down, zA, lemS.down, lemC.down, Int.reduceBEq, Nat.reduceAdd, Nat.reduceLeDiff, reduceIte, Nat.reduceEqDiff, Int.reduceLT, Int.reduceLE, Int.reduceGT, Int.reduceGE, Int.reduceEq, Int.reduceAdd, Int.reduceSub, Int.reduceMul, reduceCtorEq, lemH.down, t6, gV.load, gV1.load, gV2.load, List.getElem?_cons_zero, zAO, zAM, zAP, zAN, zAJ, Option.isSome_some])
    · (refine zAn rfl rfl rfl ?_ ?_ <;> simp only [yq27.down, zA, lemS.down, lemC.down, Int.reduceBEq, Nat.reduceAdd, Nat.reduceLeDiff, reduceIte, Nat.reduceEqDiff, Int.reduceLT, Int.reduceLE, Int.reduceGT, Int.reduceGE, Int.reduceEq, Int.reduceAdd, Int.reduceSub, Int.reduceMul, reduceCtorEq, lemH.down, bc, bc2, zAO, zAM, zAP, zAN, zAJ, Option.isSome_some])
    · (refine zAn rfl rfl rfl ?_ ?_ <;> simp only [yq27.down, zA, lemS.down, lemC.down, Int.reduceBEq, Nat.reduceAdd, Nat.reduceLeDiff, reduceIte, Nat.reduceEqDiff, Int.reduceLT, Int.reduceLE, Int.reduceGT, Int.reduceGE, Int.reduceEq, Int.reduceAdd, Int.reduceSub, Int.reduceMul, reduceCtorEq, lemH.down, t6, gV.load, gV3.load, List.getElem?_cons_zero, zAO, zAM, zAP, zAN, zAJ, Option.isSome_some])
    (repeat (first | refine zS ?_ | refine zL ?_ | refine zR ?_ | refine zE ?_ | refine zC ?_ | refine zJ ?_ | refine zK ?_ | refine zP ?_ | refine zF ?_ | refine zH ?_ | refine zG ?_ | refine zI (by decide) ?_ | refine zQ ?_ | ((first | refine zD ?_ | refine zN ?_ | refine zT rfl rfl ?_ | refine zO rfl ?_ | refine zM ?_); simp only [yq27.down, zA, lemS.down, lemC.down, Int.reduceBEq, Nat.reduceAdd, Nat.reduceLeDiff, reduceIte, Nat.reduceEqDiff, Int.reduceLT, Int.reduceLE, Int.reduceGT, Int.reduceGE, Int.reduceEq, Int.reduceAdd, Int.reduceSub, Int.reduceMul, reduceCtorEq, lemH.down, lemW.down, t0, t6, t16, t17, ww])))
    refine hnext (n - (i + 1)) _ _ (by omega) ⟨i + 1, w', rfl, by omega, gV4.wr, ?_, ?_, by simp only [yq27.down, zA, lemS.down, lemC.down, Int.reduceBEq, Nat.reduceAdd, Nat.reduceLeDiff, reduceIte, Nat.reduceEqDiff, Int.reduceLT, Int.reduceLE, Int.reduceGT, Int.reduceGE, Int.reduceEq, Int.reduceAdd, Int.reduceSub, Int.reduceMul, reduceCtorEq, t0], by simp only [yq27.down, zA, lemS.down, lemC.down, Int.reduceBEq, Nat.reduceAdd, Nat.reduceLeDiff, reduceIte, Nat.reduceEqDiff, Int.reduceLT, Int.reduceLE, Int.reduceGT, Int.reduceGE, Int.reduceEq, Int.reduceAdd, Int.reduceSub, Int.reduceMul, reduceCtorEq, t6], by simp only [yq27.down, zA, lemS.down, lemC.down, Int.reduceBEq, Nat.reduceAdd, Nat.reduceLeDiff, reduceIte, Nat.reduceEqDiff, Int.reduceLT, Int.reduceLE, Int.reduceGT, Int.reduceGE, Int.reduceEq, Int.reduceAdd, Int.reduceSub, Int.reduceMul, reduceCtorEq, t16], by simp only [yq27.down, zA, lemS.down, lemC.down, Int.reduceBEq, Nat.reduceAdd, Nat.reduceLeDiff, reduceIte, Nat.reduceEqDiff, Int.reduceLT, Int.reduceLE, Int.reduceGT, Int.reduceGE, Int.reduceEq, Int.reduceAdd, Int.reduceSub, Int.reduceMul, reduceCtorEq]⟩
    · have e : zAc (zBQ s (i + 1)) = zAc (zBQ s i) ++ [.string (zB (zBB s i))] := by
        unfold zBQ
        rw [List.range_succ, List.map_append, zWE]
        rfl
      rw [e]
      refine (gO4.mono fun A hA => ?_).keep Keeps.wr (fun A hA => hA.2)
      rcases hA with hA | hA
      · exact hA
      · simp only [zDX] at hA
        exact ⟨by omega, by omega⟩
    · have g3 : Grows h (((g.new [uw .u8 i]).new [.string (zB s), .string (zB [UInt8.ofNat i])]).new [.string (zB (zBB s i))]) := ((gg.trans Grows.new).trans Grows.new).trans Grows.new
      exact (g3.then k4 (fun A hA hS => by omega)).wr (Nat.le_refl _)
  · obtain rfl : i = n := by omega
    (repeat (first | refine zS ?_ | refine zL ?_ | refine zR ?_ | refine zE ?_ | refine zC ?_ | refine zJ ?_ | refine zK ?_ | refine zP ?_ | refine zF ?_ | refine zH ?_ | refine zG ?_ | refine zI (by decide) ?_ | refine zQ ?_ | ((first | refine zD ?_ | refine zN ?_ | refine zT rfl rfl ?_ | refine zO rfl ?_ | refine zM ?_); simp only [yq27.down, zA, lemS.down, lemC.down, Int.reduceBEq, Nat.reduceAdd, Nat.reduceLeDiff, reduceIte, Nat.reduceEqDiff, Int.reduceLT, Int.reduceLE, Int.reduceGT, Int.reduceGE, Int.reduceEq, Int.reduceAdd, Int.reduceSub, Int.reduceMul, reduceCtorEq, lemH.down, lemW.down, t0, t6, t16, t17])))
    exact ⟨.inr rfl, _, rfl, by simp only [yq27.down, zA, lemS.down, lemC.down, Int.reduceBEq, Nat.reduceAdd, Nat.reduceLeDiff, reduceIte, Nat.reduceEqDiff, Int.reduceLT, Int.reduceLE, Int.reduceGT, Int.reduceGE, Int.reduceEq, Int.reduceAdd, Int.reduceSub, Int.reduceMul, reduceCtorEq, t6], ⟨w, gV, gO⟩, gg⟩
end Go.X
end
section
open Go Go.X
namespace Go.X
set_option linter.unusedVariables false
def Ring (h : Heap) (R N : Nat) (l : List (List UInt8)) : Prop := ∃ w, Var h R [w] ∧ Own h (fun A => N ≤ A ∧ A ≠ R) 1 w l.length (zAc l)
theorem Ring.at {h : Heap} {R N : Nat} {l : List (List UInt8)} (hr : Ring h R N l) {sp : Option Nat} : zAC h ⟨R, 0, sp⟩ = some l := by
  obtain ⟨w, hv, ho⟩ := hr
  have := hv.load (i := 0) (sp := sp)
  simp only [zAC, this, List.getElem?_cons_zero, ho.strs]
theorem Ring.grow {h h' : Heap} {R N : Nat} {l : List (List UInt8)} (hr : Ring h R N l) (hg : Grows h h') : Ring h' R N l := by
  obtain ⟨w, hv, ho⟩ := hr
  exact ⟨w, hv.grow hg, ho.grow hg⟩
end Go.X
end
section
open Go Go.X Go.Proofs Go.RowKit
namespace Go.X
set_option linter.unusedVariables false
theorem Tab.read {P : Program} {l : List (Nat × Prim)} (ok : XOK P (Tab P l)) {f : Nat} {fn : Func} {F : XF} (hf : P.funcs[f]? = some fn) (hF : zb P fn = some F) {g : Prim}
    (hg : ∀ args h v h', g args h = some (v, h') → h' = h ∧ args.length = F.nargs ∧ zw v = true ∧ ∀ n, HWF (h.at n) → Comes (Tab P l) F args (h.at n) v) : XOK P (Tab P ((f, g) :: l)) := by
  refine Tab.cons ok fun args h v h' hr => ?_
  obtain ⟨rfl, h2, h3, h4⟩ := hg args h v h' hr
  exact ⟨zF1 hf hF, Nat.le_refl _, zF2 ok hf hF h2 (fun _ _ _ _ _ _ => ⟨v, zCw h3⟩) fun n _ wf => h4 n wf⟩
theorem zGL {args : List Value} {v : Value} (h : zCx args = some v) : args.length = 1 ∧ zw v = true ∧ ∀ pr h, Comes pr xq89 args h v := by
  unfold zCx at h
  split at h
  · rename_i n
    split at h
    · rename_i hc
      cases h
      refine ⟨rfl, rfl, fun pr h => ?_⟩
      have := four_ok pr n.toNat (by omega) h
      rw [show (n.toNat : Int) = n by omega] at this
      exact this
    · cases h
  · cases h
theorem zCk {args : List Value} {h : Heap} {v : Value} {h' : Heap} (hr : zBa args h = some (v, h')) : h' = h ∧ args.length = 2 ∧ zw v = true ∧ (∀ pr n, zB2 pr → pr.prim 89 = some (za zCx) → HWF (h.at n) → Comes pr xq64 args (h.at n) v) ∧ (∀ pr n, pr.prim 18 = some (za shaS) → HWF (h.at n) → Comes pr xq28 args (h.at n) v) := by
  unfold zBa at hr
  split at hr
  · rename_i p w
    split at hr
    · rename_i l hl
      split at hr
      · rename_i hc
        cases hr
        obtain ⟨q, rfl⟩ : ∃ q : Nat, p = (q : Int) := ⟨p.toNat, by omega⟩
        have e : Value.int .u8 (q : Int) = uw .u8 q := nat_u8 (by omega)
        rw [Int.toNat_natCast, e]
        refine ⟨rfl, rfl, rfl, fun pr n T h4 wf => ?_, fun pr n h9 wf => ?_⟩
        · exact zYc pr T h4 q (by omega) _ wf w l hl hc.2.2
        · exact zYB pr h9 q (by omega) _ wf w l hl hc.2.2
      · cases hr
    · cases hr
  · cases hr
theorem zE5 {args : List Value} {h : Heap} {v : Value} {h' : Heap} (hr : keyG args h = some (v, h')) : h' = h ∧ args.length = 2 ∧ zw v = true ∧ ∀ pr n, Comes pr xq23 args (h.at n) v := by
  unfold keyG at hr
  split at hr
  · cases hr
    exact ⟨rfl, rfl, rfl, fun pr n => keyN_ok pr _ _⟩
  · rename_i a i
    split at hr
    · rename_i l hl
      cases hr
      exact ⟨rfl, rfl, rfl, fun pr n => key_ok pr (h.at n) a l i hl⟩
    · cases hr
  · cases hr
theorem zFL {args : List Value} {h : Heap} {v : Value} {h' : Heap} (hr : zGv args h = some (v, h')) : h' = h ∧ args.length = 1 ∧ zw v = true ∧ ∀ pr n, Comes pr xq25 args (h.at n) v := by
  unfold zGv at hr
  split at hr
  · cases hr
    exact ⟨rfl, rfl, rfl, fun pr n => lenN_ok pr _⟩
  · rename_i a
    split at hr
    · rename_i l hl
      cases hr
      exact ⟨rfl, rfl, rfl, fun pr n => zX5 pr (h.at n) a l hl⟩
    · cases hr
  · cases hr
theorem tagNG_ok (pr : Prog) (hp : pr.prim 23 = some keyG) (i : Int) (s : ByteArray) (h : Heap) : Comes pr xq24 [.pointer none, .int .i64 i, .string s] h (.tuple #[.string (zB []), .int .i64 2]) := by
  apply Comes.of
  unfold xq24
  dsimp only [zc]
  have k1 : cfi pr 23 [.pointer none, .int .i64 i] h = some (.tuple #[.string (zB []), .bool false], h) := zz hp rfl
  (repeat (first | refine zS ?_ | refine zL ?_ | refine zR ?_ | refine zE ?_ | refine zC ?_ | refine zJ ?_ | refine zK ?_ | refine zP ?_ | refine zF ?_ | refine zH ?_ | refine zG ?_ | refine zI (by decide) ?_ | refine zQ ?_ | ((first | refine zD ?_ | refine zN ?_ | refine zT rfl rfl ?_ | refine zO rfl ?_ | refine zM ?_); simp only [yq24.down, zA, lemS.down, lemC.down, Int.reduceBEq, Nat.reduceAdd, Nat.reduceLeDiff, reduceIte, Nat.reduceEqDiff, Int.reduceLT, Int.reduceLE, Int.reduceGT, Int.reduceGE, Int.reduceEq, Int.reduceAdd, Int.reduceSub, Int.reduceMul, reduceCtorEq, k1])))
  exact ⟨.inr rfl, by simp only [yq24.down, zA, lemS.down, lemC.down, Int.reduceBEq, Nat.reduceAdd, Nat.reduceLeDiff, reduceIte, Nat.reduceEqDiff, Int.reduceLT, Int.reduceLE, Int.reduceGT, Int.reduceGE, Int.reduceEq, Int.reduceAdd, Int.reduceSub, Int.reduceMul, reduceCtorEq], Grows.refl h⟩
theorem zWT (pr : Prog) (hp : pr.prim 23 = some keyG) (i : Int) (s t : ByteArray) (h : Heap) : Comes pr xq26 [.pointer none, .int .i64 i, .string s, .string t] h (.bool false) := by
  apply Comes.of
  unfold xq26
  dsimp only [zc]
  have k1 : cfi pr 23 [.pointer none, .int .i64 i] h = some (.tuple #[.string (zB []), .bool false], h) := zz hp rfl
  (repeat (first | refine zS ?_ | refine zL ?_ | refine zR ?_ | refine zE ?_ | refine zC ?_ | refine zJ ?_ | refine zK ?_ | refine zP ?_ | refine zF ?_ | refine zH ?_ | refine zG ?_ | refine zI (by decide) ?_ | refine zQ ?_ | ((first | refine zD ?_ | refine zN ?_ | refine zT rfl rfl ?_ | refine zO rfl ?_ | refine zM ?_); simp only [yq26.down, zA, lemS.down, lemC.down, Int.reduceBEq, Nat.reduceAdd, Nat.reduceLeDiff, reduceIte, Nat.reduceEqDiff, Int.reduceLT, Int.reduceLE, Int.reduceGT, Int.reduceGE, Int.reduceEq, Int.reduceAdd, Int.reduceSub, Int.reduceMul, reduceCtorEq, k1])))
  exact ⟨.inr rfl, by simp only [yq26.down, zA, lemS.down, lemC.down, Int.reduceBEq, Nat.reduceAdd, Nat.reduceLeDiff, reduceIte, Nat.reduceEqDiff, Int.reduceLT, Int.reduceLE, Int.reduceGT, Int.reduceGE, Int.reduceEq, Int.reduceAdd, Int.reduceSub, Int.reduceMul, reduceCtorEq], Grows.refl h⟩
theorem zFM {args : List Value} {h : Heap} {v : Value} {h' : Heap} (hr : zDc args h = some (v, h')) : h' = h ∧ args.length = 3 ∧ zw v = true ∧ ∀ pr n, pr.prim 23 = some keyG → pr.prim 17 = some (za tagS) → Comes pr xq24 args (h.at n) v := by
  unfold zDc at hr
  split at hr
  · cases hr
    exact ⟨rfl, rfl, rfl, fun pr n h1 h2 => tagNG_ok pr h1 _ _ _⟩
  · rename_i a i s
    split at hr
    · rename_i l hl
      split at hr
      · rename_i hc
        cases hr
        refine ⟨rfl, rfl, rfl, fun pr n h1 h2 => ?_⟩
        have := zX7 pr h1 h2 (h.at n) a l i s.data.toList hl hc.1 hc.2
        rw [zBD] at this
        exact this
      · cases hr
    · cases hr
  · cases hr
theorem zFK {args : List Value} {h : Heap} {v : Value} {h' : Heap} (hr : zDb args h = some (v, h')) : h' = h ∧ args.length = 4 ∧ zw v = true ∧ ∀ pr n, pr.prim 23 = some keyG → pr.prim 20 = some (za zCr) → Comes pr xq26 args (h.at n) v := by
  unfold zDb at hr
  split at hr
  · cases hr
    exact ⟨rfl, rfl, rfl, fun pr n h1 h2 => zWT pr h1 _ _ _ _⟩
  · rename_i a i s t
    split at hr
    · rename_i l hl
      split at hr
      · rename_i hc
        cases hr
        refine ⟨rfl, rfl, rfl, fun pr n h1 h2 => ?_⟩
        have := zX2 pr h1 h2 (h.at n) a l i s.data.toList t.data.toList hl hc.1 hc.2
        rw [zBD, zBD] at this
        exact this
      · cases hr
    · cases hr
  · cases hr
def R1 : List (Nat × Prim) := (89, za zCx) :: T15
def R2 : List (Nat × Prim) := (64, zBa) :: R1
def R3 : List (Nat × Prim) := (28, zBa) :: R2
def R4 : List (Nat × Prim) := (23, keyG) :: R3
def R5 : List (Nat × Prim) := (25, zGv) :: R4
def R6 : List (Nat × Prim) := (24, zDc) :: R5
def R7 : List (Nat × Prim) := (26, zDb) :: R6
theorem rk1 : XOK Try.prog (Tab Try.prog R1) := Tab.pure ok15 Try.func89 cq89 fun args v h => ⟨(zGL h).1, (zGL h).2.1, fun g => (zGL h).2.2 _ g⟩
theorem shaR1 : zB2 (Tab Try.prog R1) := ⟨rfl, rfl, rfl, rfl, rfl, zW Try.func104 cq104, rfl, zW Try.func85 cq85, rfl, zW Try.func86 cq86, rfl, zW Try.func87 cq87⟩
theorem rk2 : XOK Try.prog (Tab Try.prog R2) := Tab.read rk1 Try.func64 cq64 fun args h v h' hr => ⟨(zCk hr).1, (zCk hr).2.1, (zCk hr).2.2.1, fun n wf => (zCk hr).2.2.2.1 _ n shaR1 rfl wf⟩
theorem rk3 : XOK Try.prog (Tab Try.prog R3) := Tab.read rk2 Try.func28 cq28 fun args h v h' hr => ⟨(zCk hr).1, (zCk hr).2.1, (zCk hr).2.2.1, fun n wf => (zCk hr).2.2.2.2 _ n rfl wf⟩
theorem rk4 : XOK Try.prog (Tab Try.prog R4) := Tab.read rk3 Try.func23 cq23 fun args h v h' hr => ⟨(zE5 hr).1, (zE5 hr).2.1, (zE5 hr).2.2.1, fun n wf => (zE5 hr).2.2.2 _ n⟩
theorem rk5 : XOK Try.prog (Tab Try.prog R5) := Tab.read rk4 Try.func25 cq25 fun args h v h' hr => ⟨(zFL hr).1, (zFL hr).2.1, (zFL hr).2.2.1, fun n wf => (zFL hr).2.2.2 _ n⟩
theorem rk6 : XOK Try.prog (Tab Try.prog R6) := Tab.read rk5 Try.func24 cq24 fun args h v h' hr => ⟨(zFM hr).1, (zFM hr).2.1, (zFM hr).2.2.1, fun n wf => (zFM hr).2.2.2 _ n rfl rfl⟩
theorem rk7 : XOK Try.prog (Tab Try.prog R7) := Tab.read rk6 Try.func26 cq26 fun args h v h' hr => ⟨(zFK hr).1, (zFK hr).2.1, (zFK hr).2.2.1, fun n wf => (zFK hr).2.2.2 _ n rfl rfl⟩
end Go.X
end
