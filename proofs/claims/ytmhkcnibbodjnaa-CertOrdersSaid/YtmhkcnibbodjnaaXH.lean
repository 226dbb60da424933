/- Tags, of the program and of the document. -/
import Derived.Test.YtmhkcnibbodjnaaXC
import Derived.Test.YtmhkcnibbodjnaaXG
set_option linter.unusedSimpArgs false
set_option linter.unusedVariables false
set_option maxHeartbeats 2000000
section
open Go Go.X
namespace Go.X
set_option linter.unusedVariables false
theorem zBf (s : List UInt8) : (sha s).length = 32 := by
  unfold sha fin
  rw [zE9, zDA _ rfl]
def keyB (k : List UInt8) : List UInt8 := (if 64 < k.length then sha k else k) ++ List.replicate (64 - (if 64 < k.length then sha k else k).length) 0
theorem zGR (k : List UInt8) : (keyB k).length = 64 := by
  unfold keyB
  rw [List.length_append, List.length_replicate]
  split
  · rw [zBf]
  · omega
def padK (k : List UInt8) (b : UInt8) : List UInt8 := (keyB k).map (· ^^^ b)
theorem zBQ (k : List UInt8) (b : UInt8) : (padK k b).length = 64 := by simp [padK, zGR]
def mac (k s : List UInt8) : List UInt8 := sha (padK k 92 ++ sha (padK k 54 ++ s))
theorem mac_len (k s : List UInt8) : (mac k s).length = 32 := zBf _
def zCx : List Value → Option Value
  | [.string s, .int .i64 c] => if 0 ≤ c ∧ c ≤ 9223372036854775807 ∧ s.data.toList.length * c.toNat ≤ zU then some (.string (zB (List.replicate c.toNat s.data.toList).flatten)) else none
  | _ => none
theorem zWe {s : List UInt8} {c : Nat} (h0 : c ≤ 9223372036854775807) (h : s.length * c ≤ zU) : zCx [.string (zB s), .int .i64 (c : Int)] = some (.string (zB (List.replicate c s).flatten)) := by
  simp only [zCx, zAh]
  rw [if_pos ⟨by omega, by omega, by simpa using h⟩]
  simp
theorem flat1 (n : Nat) (x : UInt8) : (List.replicate n [x]).flatten = List.replicate n x := by
  induction n with
  | zero => rfl
  | succ n ih => simp [List.replicate_succ, ih]
def xorP (l : List UInt8) (b : UInt8) (i : Nat) : List UInt8 := (l.take i).map (· ^^^ b) ++ l.drop i
theorem xorP_len {l : List UInt8} {b : UInt8} {i : Nat} : (xorP l b i).length = l.length := by simp [xorP]; omega
theorem xorP_get {l : List UInt8} {b : UInt8} {i : Nat} (hi : i < l.length) : (xorP l b i).getD i 0 = l.getD i 0 := by
  unfold xorP
  simp only [List.getD_eq_getElem?_getD]
  have e : ((l.take i).map (· ^^^ b)).length = i := by simp; omega
  rw [List.getElem?_append_right (by omega), e, List.getElem?_drop]
  simp
theorem xorP_set {l : List UInt8} {b : UInt8} {i : Nat} (hi : i < l.length) : (xorP l b i).set i (l.getD i 0 ^^^ b) = xorP l b (i + 1) := by
  unfold xorP
  have e : ((l.take i).map (· ^^^ b)).length = i := by simp; omega
  rw [List.set_append_right _ _ (by omega), e, Nat.sub_self, List.take_succ_eq_append_getElem hi, List.map_append, List.append_assoc, List.drop_eq_getElem_cons hi]
  simp only [List.getD_eq_getElem?_getD, List.getElem?_eq_getElem hi, Option.getD_some, List.set_cons_zero, List.map_cons, List.map_nil, List.cons_append, List.nil_append]
theorem pad_ok (pr : Prog) (hs : pr.prim 59 = some (za shaS)) (hr : pr.prim 88 = some (za zCx)) (k : List UInt8) (b : UInt8) (hk : k.length + 400 ≤ zU) (h : Heap) : Comes pr xq60 [.string (zB k), uw .u8 b.toNat] h (.string (zB (padK k b))) := by
  apply Comes.of
  unfold xq60
  dsimp only [zc]
  have main : ∀ (q : List UInt8) (t : Fr), q.length ≤ 64 → q ++ List.replicate (64 - q.length) 0 = keyB k → t.get 0 = .string (zB q) → t.get 1 = uw .u8 b.toNat →
      wpk pr (.seq (.ops zH6) (.seq (.seq (.ops zH7) (.block 0 (.loop zH8))) (.seq (.ops zH5) (.ret)))) [] (fun e t h' => (e = XE.normal ∨ e = XE.ret) ∧ t.get 4 = .string (zB (padK k b)) ∧ Grows h h') t h := by
    intro q t hq hqk t0 t1
    have hr64 : zU = 140737488355328 := rfl
    have w64 : IntKind.i64.wrap (64 - (q.length : Int)) = ((64 - q.length : Nat) : Int) := by rw [wrap_i64 (by omega) (by omega)]; omega
    have rep : cfi pr 88 [.string (zB [0]), .int .i64 ((64 - q.length : Nat) : Int)] h = some (.string (zB (List.replicate (64 - q.length) 0)), h) :=
      zf hr (by rw [zWe (by omega) (by simp; omega), flat1])
    have cat := zA4 (a := q) (b := List.replicate (64 - q.length) 0) (by simp; omega)
    rw [hqk] at cat
    (repeat (first | refine zS ?_ | refine zL ?_ | refine zR ?_ | refine zE ?_ | refine zC ?_ | refine zJ ?_ | refine zK ?_ | refine zP ?_ | refine zF ?_ | refine zH ?_ | refine zG ?_ | refine zI (by decide) ?_ | refine zQ ?_ | ((first | refine zD ?_ | refine zN ?_ | refine zT rfl rfl ?_ | refine zO rfl ?_ | refine zM ?_); simp only [yq60.down, zA, lemS.down, lemC.down, Int.reduceBEq, Nat.reduceAdd, Nat.reduceLeDiff, reduceIte, Nat.reduceEqDiff, Int.reduceLT, Int.reduceLE, Int.reduceGT, Int.reduceGE, Int.reduceEq, Int.reduceAdd, Int.reduceSub, Int.reduceMul, reduceCtorEq, lemH.down, lemW.down, t0, t1, w64, rep, cat, zF6])))
    have hO := Own.newB (h := h) (l := zV (keyB k)) (n := (keyB k).length) (esz := 1) (sp := some 1) (by simp [zBz]) (.inr rfl)
    have hg : Grows h (h.newB (zV (keyB k))) := Grows.newB
    generalize h.newB (zV (keyB k)) = h1 at *
    have hkl := zGR k
    refine zo (fun m t g => ∃ i, m = 64 - i ∧ i ≤ 64 ∧ Own g (fun A => A = h.next) 1 (.slice (some ⟨h.next, 0, some 1⟩) (keyB k).length (keyB k).length) (keyB k).length (zV (xorP (keyB k) b i)) ∧ Keeps (fun A => A = h.next) h1 g ∧ t.get 1 = uw .u8 b.toNat ∧ t.get 5 = .slice (some ⟨h.next, 0, some 1⟩) (keyB k).length (keyB k).length ∧ t.get 20 = .int .i64 ((keyB k).length : Int) ∧ t.get 21 = .int .i64 (i : Int)) ?_ 64 _ _ ⟨0, rfl, by omega, by simpa [xorP] using hO, Keeps.refl, by simp only [yq60.down, zA, lemS.down, lemC.down, Int.reduceBEq, Nat.reduceAdd, Nat.reduceLeDiff, reduceIte, Nat.reduceEqDiff, Int.reduceLT, Int.reduceLE, Int.reduceGT, Int.reduceGE, Int.reduceEq, Int.reduceAdd, Int.reduceSub, Int.reduceMul, reduceCtorEq, t1], by simp only [yq60.down, zA, lemS.down, lemC.down, Int.reduceBEq, Nat.reduceAdd, Nat.reduceLeDiff, reduceIte, Nat.reduceEqDiff, Int.reduceLT, Int.reduceLE, Int.reduceGT, Int.reduceGE, Int.reduceEq, Int.reduceAdd, Int.reduceSub, Int.reduceMul, reduceCtorEq], by simp only [yq60.down, zA, lemS.down, lemC.down, Int.reduceBEq, Nat.reduceAdd, Nat.reduceLeDiff, reduceIte, Nat.reduceEqDiff, Int.reduceLT, Int.reduceLE, Int.reduceGT, Int.reduceGE, Int.reduceEq, Int.reduceAdd, Int.reduceSub, Int.reduceMul, reduceCtorEq], by (simp only [yq60.down, zA, lemS.down, lemC.down, Int.reduceBEq, Nat.reduceAdd, Nat.reduceLeDiff, reduceIte, Nat.reduceEqDiff, Int.reduceLT, Int.reduceLE, Int.reduceGT, Int.reduceGE, Int.reduceEq, Int.reduceAdd, Int.reduceSub, Int.reduceMul, reduceCtorEq]) <;> rfl⟩
    rintro m t g ⟨i, rfl, hi, gO, gk, t1, t5, t20, t21⟩ hnext
    refine xq60_9k ?_
    dsimp only [zH9]
    (repeat (first | refine zS ?_ | refine zL ?_ | refine zR ?_ | refine zE ?_ | refine zC ?_ | refine zJ ?_ | refine zK ?_ | refine zP ?_ | refine zF ?_ | refine zH ?_ | refine zG ?_ | refine zI (by decide) ?_ | refine zQ ?_ | ((first | refine zD ?_ | refine zN ?_ | refine zT rfl rfl ?_ | refine zO rfl ?_ | refine zM ?_); simp only [yq60.down, zA, lemS.down, lemC.down, Int.reduceBEq, Nat.reduceAdd, Nat.reduceLeDiff, reduceIte, Nat.reduceEqDiff, Int.reduceLT, Int.reduceLE, Int.reduceGT, Int.reduceGE, Int.reduceEq, Int.reduceAdd, Int.reduceSub, Int.reduceMul, reduceCtorEq, lemH.down, lemW.down, t1, t5, t20, t21])))
    refine ⟨fun hlt => ?_, fun hge => ?_⟩
    · have hi' : i < 64 := by omega
      have ww : IntKind.i64.wrap ((i : Int) + 1) = ((i + 1 : Nat) : Int) := by rw [wrap_i64 (by omega) (by omega)]; omega
      obtain ⟨B, o, a1, l1, st⟩ := gO.set1 (i := i) (k := .i64) (by omega)
      rw [zF0 (by rw [xorP_len]; omega), xorP_get (by omega)] at l1
      obtain ⟨g2, st2, gO2, gk2⟩ := st (uw .u8 (((keyB k).getD i 0).toNat ^^^ b.toNat)) rfl rfl
      rw [← UInt8.toNat_xor, zFU, zUu, xorP_set (by omega)] at gO2
      (repeat (first | refine zS ?_ | refine zL ?_ | refine zR ?_ | refine zE ?_ | refine zC ?_ | refine zJ ?_ | refine zK ?_ | refine zP ?_ | refine zF ?_ | refine zH ?_ | refine zG ?_ | refine zI (by decide) ?_ | refine zQ ?_ | ((first | refine zD ?_ | refine zN ?_ | refine zT rfl rfl ?_ | refine zO rfl ?_ | refine zM ?_); simp only [yq60.down, zA, lemS.down, lemC.down, Int.reduceBEq, Nat.reduceAdd, Nat.reduceLeDiff, reduceIte, Nat.reduceEqDiff, Int.reduceLT, Int.reduceLE, Int.reduceGT, Int.reduceGE, Int.reduceEq, Int.reduceAdd, Int.reduceSub, Int.reduceMul, reduceCtorEq, lemH.down, lemW.down, t1, t5, t20, t21, zAG, a1, l1, st2, ww])))
      refine hnext (64 - (i + 1)) _ _ (by omega) ⟨i + 1, rfl, by omega, gO2, gk.trans gk2 (fun _ _ e => e), ?_, ?_, ?_, ?_⟩ <;> simp only [yq60.down, zA, lemS.down, lemC.down, Int.reduceBEq, Nat.reduceAdd, Nat.reduceLeDiff, reduceIte, Nat.reduceEqDiff, Int.reduceLT, Int.reduceLE, Int.reduceGT, Int.reduceGE, Int.reduceEq, Int.reduceAdd, Int.reduceSub, Int.reduceMul, reduceCtorEq, t1, t5, t20]
    · obtain rfl : i = 64 := by omega
      have hx : xorP (keyB k) b 64 = padK k b := by
        unfold xorP padK
        rw [List.take_of_length_le (by omega), List.drop_of_length_le (by omega), List.append_nil]
      rw [hx] at gO
      (repeat (first | refine zS ?_ | refine zL ?_ | refine zR ?_ | refine zE ?_ | refine zC ?_ | refine zJ ?_ | refine zK ?_ | refine zP ?_ | refine zF ?_ | refine zH ?_ | refine zG ?_ | refine zI (by decide) ?_ | refine zQ ?_ | ((first | refine zD ?_ | refine zN ?_ | refine zT rfl rfl ?_ | refine zO rfl ?_ | refine zM ?_); simp only [yq60.down, zA, lemS.down, lemC.down, Int.reduceBEq, Nat.reduceAdd, Nat.reduceLeDiff, reduceIte, Nat.reduceEqDiff, Int.reduceLT, Int.reduceLE, Int.reduceGT, Int.reduceGE, Int.reduceEq, Int.reduceAdd, Int.reduceSub, Int.reduceMul, reduceCtorEq, lemH.down, lemW.down, t1, t5, t20, t21, gO.cb2s])))
      exact ⟨.inr rfl, by simp only [yq60.down, zA, lemS.down, lemC.down, Int.reduceBEq, Nat.reduceAdd, Nat.reduceLeDiff, reduceIte, Nat.reduceEqDiff, Int.reduceLT, Int.reduceLE, Int.reduceGT, Int.reduceGE, Int.reduceEq, Int.reduceAdd, Int.reduceSub, Int.reduceMul, reduceCtorEq], hg.then gk (fun A hA e => by omega)⟩
  (repeat (first | refine zS ?_ | refine zL ?_ | refine zR ?_ | refine zE ?_ | refine zC ?_ | refine zJ ?_ | refine zK ?_ | refine zP ?_ | refine zF ?_ | refine zH ?_ | refine zG ?_ | refine zI (by decide) ?_ | refine zQ ?_ | ((first | refine zD ?_ | refine zN ?_ | refine zT rfl rfl ?_ | refine zO rfl ?_ | refine zM ?_); simp only [yq60.down, zA, lemS.down, lemC.down, Int.reduceBEq, Nat.reduceAdd, Nat.reduceLeDiff, reduceIte, Nat.reduceEqDiff, Int.reduceLT, Int.reduceLE, Int.reduceGT, Int.reduceGE, Int.reduceEq, Int.reduceAdd, Int.reduceSub, Int.reduceMul, reduceCtorEq, lemH.down, lemW.down])))
  refine ⟨fun hl => ?_, fun hl => ?_⟩
  · refine zD ?_
    simp only [yq60.down, zA, lemS.down, lemC.down, Int.reduceBEq, Nat.reduceAdd, Nat.reduceLeDiff, reduceIte, Nat.reduceEqDiff, Int.reduceLT, Int.reduceLE, Int.reduceGT, Int.reduceGE, Int.reduceEq, Int.reduceAdd, Int.reduceSub, Int.reduceMul, reduceCtorEq, zf hs (zCX hk)]
    refine zC (main (sha k) _ (by rw [zBf]; decide) ?_ (by simp only [yq60.down, zA, lemS.down, lemC.down, Int.reduceBEq, Nat.reduceAdd, Nat.reduceLeDiff, reduceIte, Nat.reduceEqDiff, Int.reduceLT, Int.reduceLE, Int.reduceGT, Int.reduceGE, Int.reduceEq, Int.reduceAdd, Int.reduceSub, Int.reduceMul, reduceCtorEq]) (by simp only [yq60.down, zA, lemS.down, lemC.down, Int.reduceBEq, Nat.reduceAdd, Nat.reduceLeDiff, reduceIte, Nat.reduceEqDiff, Int.reduceLT, Int.reduceLE, Int.reduceGT, Int.reduceGE, Int.reduceEq, Int.reduceAdd, Int.reduceSub, Int.reduceMul, reduceCtorEq]))
    unfold keyB
    rw [if_pos (by omega)]
  · refine zE (zC (main k _ (by omega) ?_ (by simp only [yq60.down, zA, lemS.down, lemC.down, Int.reduceBEq, Nat.reduceAdd, Nat.reduceLeDiff, reduceIte, Nat.reduceEqDiff, Int.reduceLT, Int.reduceLE, Int.reduceGT, Int.reduceGE, Int.reduceEq, Int.reduceAdd, Int.reduceSub, Int.reduceMul, reduceCtorEq]) (by simp only [yq60.down, zA, lemS.down, lemC.down, Int.reduceBEq, Nat.reduceAdd, Nat.reduceLeDiff, reduceIte, Nat.reduceEqDiff, Int.reduceLT, Int.reduceLE, Int.reduceGT, Int.reduceGE, Int.reduceEq, Int.reduceAdd, Int.reduceSub, Int.reduceMul, reduceCtorEq])))
    unfold keyB
    rw [if_neg (by omega)]
end Go.X
end
section
open Go Go.X
namespace Go.X
set_option linter.unusedVariables false
def padS : List Value → Option Value
  | [.string k, .int .u8 b] => if k.data.toList.length + 400 ≤ zU ∧ 0 ≤ b ∧ b < 256 then some (.string (zB (padK k.data.toList (UInt8.ofNat b.toNat)))) else none
  | _ => none
theorem zJy {k : List UInt8} {b : Nat} (h : k.length + 400 ≤ zU) (hb : b < 256) : padS [.string (zB k), .int .u8 (OfNat.ofNat b)] = some (.string (zB (padK k (UInt8.ofNat b)))) := by
  have e : (OfNat.ofNat b : Int) = (b : Int) := rfl
  simp only [padS, zAh, e]
  rw [if_pos ⟨h, by omega, by omega⟩]
  simp
def tagS : List Value → Option Value
  | [.string k, .string s] => if k.data.toList.length + 400 ≤ zU ∧ s.data.toList.length + 500 ≤ zU then some (.string (zB (mac k.data.toList s.data.toList))) else none
  | _ => none
theorem zG8 {k s : List UInt8} (h : k.length + 400 ≤ zU) (h2 : s.length + 500 ≤ zU) : tagS [.string (zB k), .string (zB s)] = some (.string (zB (mac k s))) := by
  simp only [tagS, zAh, if_pos (And.intro h h2)]
theorem tag_ok (pr : Prog) (hs : pr.prim 59 = some (za shaS)) (hp : pr.prim 60 = some (za padS)) (k s : List UInt8) (hk : k.length + 400 ≤ zU) (hs5 : s.length + 500 ≤ zU) (h : Heap) : Comes pr xq17 [.string (zB k), .string (zB s)] h (.string (zB (mac k s))) := by
  apply Comes.of
  unfold xq17
  dsimp only [zc]
  have hr64 : zU = 140737488355328 := rfl
  have p1 := zf (h := h) hp (zJy (b := 92) hk (by decide))
  have p2 := zf (h := h) hp (zJy (b := 54) hk (by decide))
  have c1 := zA4 (a := padK k (UInt8.ofNat 54)) (b := s) (by rw [zBQ]; omega)
  have s1 := zf (h := h) hs (zCX (s := padK k (UInt8.ofNat 54) ++ s) (by rw [List.length_append, zBQ]; omega))
  have c2 := zA4 (a := padK k (UInt8.ofNat 92)) (b := sha (padK k (UInt8.ofNat 54) ++ s)) (by rw [zBQ, zBf]; omega)
  have s2 := zf (h := h) hs (zCX (s := padK k (UInt8.ofNat 92) ++ sha (padK k (UInt8.ofNat 54) ++ s)) (by rw [List.length_append, zBQ, zBf]; omega))
  have p1 : cfi pr 60 [.string (zB k), .int .u8 92] h = _ := p1
  have p2 : cfi pr 60 [.string (zB k), .int .u8 54] h = _ := p2
  (repeat (first | refine zS ?_ | refine zL ?_ | refine zR ?_ | refine zE ?_ | refine zC ?_ | refine zJ ?_ | refine zK ?_ | refine zP ?_ | refine zF ?_ | refine zH ?_ | refine zG ?_ | refine zI (by decide) ?_ | refine zQ ?_ | ((first | refine zD ?_ | refine zN ?_ | refine zT rfl rfl ?_ | refine zO rfl ?_ | refine zM ?_); simp only [yq17.down, zA, lemS.down, lemC.down, Int.reduceBEq, Nat.reduceAdd, Nat.reduceLeDiff, reduceIte, Nat.reduceEqDiff, Int.reduceLT, Int.reduceLE, Int.reduceGT, Int.reduceGE, Int.reduceEq, Int.reduceAdd, Int.reduceSub, Int.reduceMul, reduceCtorEq, p1, p2, c1, s1, c2, s2])))
  exact ⟨.inr rfl, by (simp only [yq17.down, zA, lemS.down, lemC.down, Int.reduceBEq, Nat.reduceAdd, Nat.reduceLeDiff, reduceIte, Nat.reduceEqDiff, Int.reduceLT, Int.reduceLE, Int.reduceGT, Int.reduceGE, Int.reduceEq, Int.reduceAdd, Int.reduceSub, Int.reduceMul, reduceCtorEq]) <;> rfl, Grows.refl h⟩
def zCV (x : UInt8) : List UInt8 → List UInt8 → UInt8
  | a :: l, b :: m => zCV (x ||| (a ^^^ b)) l m
  | _, _ => x
theorem or_zero8 {x y : UInt8} : (x ||| y = 0) ↔ (x = 0 ∧ y = 0) := by
  constructor
  · intro h
    have e : x.toNat ||| y.toNat = 0 := by rw [← UInt8.toNat_or, h]; rfl
    have := Nat.or_eq_zero_iff.1 e
    exact ⟨UInt8.toNat_inj.1 this.1, UInt8.toNat_inj.1 this.2⟩
  · rintro ⟨rfl, rfl⟩; rfl
theorem zKM : ∀ (a b : List UInt8) (x : UInt8), a.length = b.length → (zCV x a b = 0 ↔ x = 0 ∧ a = b)
  | [], [], x, _ => by simp [zCV]
  | a :: l, b :: m, x, h => by
    simp only [zCV]
    rw [zKM l m _ (by simpa using h), or_zero8, UInt8.xor_eq_zero_iff]
    simp only [List.cons.injEq]
    constructor
    · rintro ⟨⟨h1, h2⟩, h3⟩; exact ⟨h1, h2, h3⟩
    · rintro ⟨h1, h2, h3⟩; exact ⟨⟨h1, h2⟩, h3⟩
  | [], _ :: _, _, h => by simp at h
  | _ :: _, [], _, h => by simp at h
def zC0 : List Value → Option Value
  | [.string a, .string b] => if a.data.toList.length ≤ zU then some (.bool (a.data.toList == b.data.toList)) else none
  | _ => none
theorem sameS_at {a b : List UInt8} (h : a.length ≤ zU) : zC0 [.string (zB a), .string (zB b)] = some (.bool (a == b)) := by
  simp only [zC0, zAh, if_pos h]
theorem same_ok (pr : Prog) (a b : List UInt8) (hr : a.length ≤ zU) (h : Heap) : Comes pr xq63 [.string (zB a), .string (zB b)] h (.bool (a == b)) := by
  apply Comes.of
  unfold xq63
  dsimp only [zc]
  have hr64 : zU = 140737488355328 := rfl
  (repeat (first | refine zS ?_ | refine zL ?_ | refine zR ?_ | refine zE ?_ | refine zC ?_ | refine zJ ?_ | refine zK ?_ | refine zP ?_ | refine zF ?_ | refine zH ?_ | refine zG ?_ | refine zI (by decide) ?_ | refine zQ ?_ | ((first | refine zD ?_ | refine zN ?_ | refine zT rfl rfl ?_ | refine zO rfl ?_ | refine zM ?_); simp only [yq63.down, zA, lemS.down, lemC.down, Int.reduceBEq, Nat.reduceAdd, Nat.reduceLeDiff, reduceIte, Nat.reduceEqDiff, Int.reduceLT, Int.reduceLE, Int.reduceGT, Int.reduceGE, Int.reduceEq, Int.reduceAdd, Int.reduceSub, Int.reduceMul, reduceCtorEq, lemH.down, lemW.down])))
  refine ⟨fun hne => ?_, fun heq => ?_⟩
  · (repeat (first | refine zS ?_ | refine zL ?_ | refine zR ?_ | refine zE ?_ | refine zC ?_ | refine zJ ?_ | refine zK ?_ | refine zP ?_ | refine zF ?_ | refine zH ?_ | refine zG ?_ | refine zI (by decide) ?_ | refine zQ ?_ | ((first | refine zD ?_ | refine zN ?_ | refine zT rfl rfl ?_ | refine zO rfl ?_ | refine zM ?_); simp only [yq63.down, zA, lemS.down, lemC.down, Int.reduceBEq, Nat.reduceAdd, Nat.reduceLeDiff, reduceIte, Nat.reduceEqDiff, Int.reduceLT, Int.reduceLE, Int.reduceGT, Int.reduceGE, Int.reduceEq, Int.reduceAdd, Int.reduceSub, Int.reduceMul, reduceCtorEq, lemH.down, lemW.down])))
    refine ⟨.inr rfl, ?_, Grows.refl h⟩
    simp only [yq63.down, zA, lemS.down, lemC.down, Int.reduceBEq, Nat.reduceAdd, Nat.reduceLeDiff, reduceIte, Nat.reduceEqDiff, Int.reduceLT, Int.reduceLE, Int.reduceGT, Int.reduceGE, Int.reduceEq, Int.reduceAdd, Int.reduceSub, Int.reduceMul, reduceCtorEq]
    congr 1
    symm
    rw [beq_eq_false_iff_ne]
    rintro rfl
    exact hne rfl
  · have hl : a.length = b.length := by omega
    (repeat (first | refine zS ?_ | refine zL ?_ | refine zR ?_ | refine zE ?_ | refine zC ?_ | refine zJ ?_ | refine zK ?_ | refine zP ?_ | refine zF ?_ | refine zH ?_ | refine zG ?_ | refine zI (by decide) ?_ | refine zQ ?_ | ((first | refine zD ?_ | refine zN ?_ | refine zT rfl rfl ?_ | refine zO rfl ?_ | refine zM ?_); simp only [yq63.down, zA, lemS.down, lemC.down, Int.reduceBEq, Nat.reduceAdd, Nat.reduceLeDiff, reduceIte, Nat.reduceEqDiff, Int.reduceLT, Int.reduceLE, Int.reduceGT, Int.reduceGE, Int.reduceEq, Int.reduceAdd, Int.reduceSub, Int.reduceMul, reduceCtorEq, lemH.down, lemW.down])))
    refine zo (fun m t g => ∃ i x, m = a.length - i ∧ i ≤ a.length ∧ g = h ∧ zCV x (a.drop i) (b.drop i) = zCV 0 a b ∧ t.get 0 = .string (zB a) ∧ t.get 1 = .string (zB b) ∧ t.get 5 = uw .u8 x.toNat ∧ t.get 13 = .int .i64 (a.length : Int) ∧ t.get 14 = .int .i64 (i : Int)) ?_ a.length _ _ ⟨0, 0, rfl, by omega, rfl, rfl, by simp only [yq63.down, zA, lemS.down, lemC.down, Int.reduceBEq, Nat.reduceAdd, Nat.reduceLeDiff, reduceIte, Nat.reduceEqDiff, Int.reduceLT, Int.reduceLE, Int.reduceGT, Int.reduceGE, Int.reduceEq, Int.reduceAdd, Int.reduceSub, Int.reduceMul, reduceCtorEq], by simp only [yq63.down, zA, lemS.down, lemC.down, Int.reduceBEq, Nat.reduceAdd, Nat.reduceLeDiff, reduceIte, Nat.reduceEqDiff, Int.reduceLT, Int.reduceLE, Int.reduceGT, Int.reduceGE, Int.reduceEq, Int.reduceAdd, Int.reduceSub, Int.reduceMul, reduceCtorEq], by (simp only [yq63.down, zA, lemS.down, lemC.down, Int.reduceBEq, Nat.reduceAdd, Nat.reduceLeDiff, reduceIte, Nat.reduceEqDiff, Int.reduceLT, Int.reduceLE, Int.reduceGT, Int.reduceGE, Int.reduceEq, Int.reduceAdd, Int.reduceSub, Int.reduceMul, reduceCtorEq]) <;> rfl, by simp only [yq63.down, zA, lemS.down, lemC.down, Int.reduceBEq, Nat.reduceAdd, Nat.reduceLeDiff, reduceIte, Nat.reduceEqDiff, Int.reduceLT, Int.reduceLE, Int.reduceGT, Int.reduceGE, Int.reduceEq, Int.reduceAdd, Int.reduceSub, Int.reduceMul, reduceCtorEq], by (simp only [yq63.down, zA, lemS.down, lemC.down, Int.reduceBEq, Nat.reduceAdd, Nat.reduceLeDiff, reduceIte, Nat.reduceEqDiff, Int.reduceLT, Int.reduceLE, Int.reduceGT, Int.reduceGE, Int.reduceEq, Int.reduceAdd, Int.reduceSub, Int.reduceMul, reduceCtorEq]) <;> rfl⟩
    rintro m t g ⟨i, x, rfl, hi, rfl, hx, t0, t1, t5, t13, t14⟩ hnext
    refine xq63_9k ?_
    dsimp only [zIA]
    (repeat (first | refine zS ?_ | refine zL ?_ | refine zR ?_ | refine zE ?_ | refine zC ?_ | refine zJ ?_ | refine zK ?_ | refine zP ?_ | refine zF ?_ | refine zH ?_ | refine zG ?_ | refine zI (by decide) ?_ | refine zQ ?_ | ((first | refine zD ?_ | refine zN ?_ | refine zT rfl rfl ?_ | refine zO rfl ?_ | refine zM ?_); simp only [yq63.down, zA, lemS.down, lemC.down, Int.reduceBEq, Nat.reduceAdd, Nat.reduceLeDiff, reduceIte, Nat.reduceEqDiff, Int.reduceLT, Int.reduceLE, Int.reduceGT, Int.reduceGE, Int.reduceEq, Int.reduceAdd, Int.reduceSub, Int.reduceMul, reduceCtorEq, lemH.down, lemW.down, t0, t1, t5, t13, t14])))
    refine ⟨fun hlt => ?_, fun hge => ?_⟩
    · have hi' : i < a.length := by omega
      have ww : IntKind.i64.wrap ((i : Int) + 1) = ((i + 1 : Nat) : Int) := by rw [wrap_i64 (by omega) (by omega)]; omega
      (repeat (first | refine zS ?_ | refine zL ?_ | refine zR ?_ | refine zE ?_ | refine zC ?_ | refine zJ ?_ | refine zK ?_ | refine zP ?_ | refine zF ?_ | refine zH ?_ | refine zG ?_ | refine zI (by decide) ?_ | refine zQ ?_ | ((first | refine zD ?_ | refine zN ?_ | refine zT rfl rfl ?_ | refine zO rfl ?_ | refine zM ?_); simp only [yq63.down, zA, lemS.down, lemC.down, Int.reduceBEq, Nat.reduceAdd, Nat.reduceLeDiff, reduceIte, Nat.reduceEqDiff, Int.reduceLT, Int.reduceLE, Int.reduceGT, Int.reduceGE, Int.reduceEq, Int.reduceAdd, Int.reduceSub, Int.reduceMul, reduceCtorEq, lemH.down, lemW.down, t0, t1, t5, t13, t14, zGO hi', zGO (s := b) (i := i) (by omega), ww])))
      refine hnext (a.length - (i + 1)) _ _ (by omega) ⟨i + 1, x ||| (a.getD i 0 ^^^ b.getD i 0), rfl, by omega, rfl, ?_, by simp only [yq63.down, zA, lemS.down, lemC.down, Int.reduceBEq, Nat.reduceAdd, Nat.reduceLeDiff, reduceIte, Nat.reduceEqDiff, Int.reduceLT, Int.reduceLE, Int.reduceGT, Int.reduceGE, Int.reduceEq, Int.reduceAdd, Int.reduceSub, Int.reduceMul, reduceCtorEq, t0], by simp only [yq63.down, zA, lemS.down, lemC.down, Int.reduceBEq, Nat.reduceAdd, Nat.reduceLeDiff, reduceIte, Nat.reduceEqDiff, Int.reduceLT, Int.reduceLE, Int.reduceGT, Int.reduceGE, Int.reduceEq, Int.reduceAdd, Int.reduceSub, Int.reduceMul, reduceCtorEq, t1], by simp only [yq63.down, zA, lemS.down, lemC.down, Int.reduceBEq, Nat.reduceAdd, Nat.reduceLeDiff, reduceIte, Nat.reduceEqDiff, Int.reduceLT, Int.reduceLE, Int.reduceGT, Int.reduceGE, Int.reduceEq, Int.reduceAdd, Int.reduceSub, Int.reduceMul, reduceCtorEq]; rw [UInt8.toNat_or, UInt8.toNat_xor], by simp only [yq63.down, zA, lemS.down, lemC.down, Int.reduceBEq, Nat.reduceAdd, Nat.reduceLeDiff, reduceIte, Nat.reduceEqDiff, Int.reduceLT, Int.reduceLE, Int.reduceGT, Int.reduceGE, Int.reduceEq, Int.reduceAdd, Int.reduceSub, Int.reduceMul, reduceCtorEq, t13], by simp only [yq63.down, zA, lemS.down, lemC.down, Int.reduceBEq, Nat.reduceAdd, Nat.reduceLeDiff, reduceIte, Nat.reduceEqDiff, Int.reduceLT, Int.reduceLE, Int.reduceGT, Int.reduceGE, Int.reduceEq, Int.reduceAdd, Int.reduceSub, Int.reduceMul, reduceCtorEq]⟩
      rw [← hx, List.drop_eq_getElem_cons (l := a) hi', List.drop_eq_getElem_cons (l := b) (show i < b.length by omega)]
      simp only [zCV, List.getD_eq_getElem?_getD, List.getElem?_eq_getElem hi', List.getElem?_eq_getElem (show i < b.length by omega), Option.getD_some]
    · obtain rfl : i = a.length := by omega
      rw [List.drop_of_length_le (Nat.le_refl _), List.drop_of_length_le (by omega)] at hx
      have hx' : x = zCV 0 a b := hx
      have hz := zKM a b 0 hl
      rw [← hx'] at hz
      rw [show uw .u8 x.toNat = .int .u8 (x.toNat : Int) from zFU x] at t5
      (repeat (first | refine zS ?_ | refine zL ?_ | refine zR ?_ | refine zE ?_ | refine zC ?_ | refine zJ ?_ | refine zK ?_ | refine zP ?_ | refine zF ?_ | refine zH ?_ | refine zG ?_ | refine zI (by decide) ?_ | refine zQ ?_ | ((first | refine zD ?_ | refine zN ?_ | refine zT rfl rfl ?_ | refine zO rfl ?_ | refine zM ?_); simp only [yq63.down, zA, lemS.down, lemC.down, Int.reduceBEq, Nat.reduceAdd, Nat.reduceLeDiff, reduceIte, Nat.reduceEqDiff, Int.reduceLT, Int.reduceLE, Int.reduceGT, Int.reduceGE, Int.reduceEq, Int.reduceAdd, Int.reduceSub, Int.reduceMul, reduceCtorEq, lemH.down, lemW.down, t5])))
      refine ⟨.inr rfl, ?_, Grows.refl _⟩
      simp only [yq63.down, zA, lemS.down, lemC.down, Int.reduceBEq, Nat.reduceAdd, Nat.reduceLeDiff, reduceIte, Nat.reduceEqDiff, Int.reduceLT, Int.reduceLE, Int.reduceGT, Int.reduceGE, Int.reduceEq, Int.reduceAdd, Int.reduceSub, Int.reduceMul, reduceCtorEq]
      congr 1
      by_cases e : a = b
      · have hx0 := hz.2 ⟨rfl, e⟩
        rw [hx0, e]; simp
      · have : x ≠ 0 := fun e' => e (hz.1 e').2
        have : x.toNat ≠ 0 := fun e' => this (UInt8.toNat_inj.1 e')
        rw [show (a == b) = false by rw [beq_eq_false_iff_ne]; exact e, beq_eq_false_iff_ne]
        omega
def zCh : List Value → Option Value
  | [.string k, .string s, .string t] => if k.data.toList.length + 400 ≤ zU ∧ s.data.toList.length + 500 ≤ zU then some (.bool (mac k.data.toList s.data.toList == t.data.toList)) else none
  | _ => none
theorem zVD {k s t : List UInt8} (h : k.length + 400 ≤ zU) (h2 : s.length + 500 ≤ zU) : zCh [.string (zB k), .string (zB s), .string (zB t)] = some (.bool (mac k s == t)) := by
  simp only [zCh, zAh, if_pos (And.intro h h2)]
theorem check_ok (pr : Prog) (hs : pr.prim 63 = some (za zC0)) (hp : pr.prim 17 = some (za tagS)) (k s t : List UInt8) (hk : k.length + 400 ≤ zU) (hs5 : s.length + 500 ≤ zU) (h : Heap) : Comes pr xq20 [.string (zB k), .string (zB s), .string (zB t)] h (.bool (mac k s == t)) := by
  apply Comes.of
  unfold xq20
  dsimp only [zc]
  (repeat (first | refine zS ?_ | refine zL ?_ | refine zR ?_ | refine zE ?_ | refine zC ?_ | refine zJ ?_ | refine zK ?_ | refine zP ?_ | refine zF ?_ | refine zH ?_ | refine zG ?_ | refine zI (by decide) ?_ | refine zQ ?_ | ((first | refine zD ?_ | refine zN ?_ | refine zT rfl rfl ?_ | refine zO rfl ?_ | refine zM ?_); simp only [yq20.down, zA, lemS.down, lemC.down, Int.reduceBEq, Nat.reduceAdd, Nat.reduceLeDiff, reduceIte, Nat.reduceEqDiff, Int.reduceLT, Int.reduceLE, Int.reduceGT, Int.reduceGE, Int.reduceEq, Int.reduceAdd, Int.reduceSub, Int.reduceMul, reduceCtorEq, zf hp (zG8 hk hs5), zf hs (sameS_at (show (mac k s).length ≤ zU by rw [mac_len]; decide))])))
  exact ⟨.inr rfl, by simp only [yq20.down, zA, lemS.down, lemC.down, Int.reduceBEq, Nat.reduceAdd, Nat.reduceLeDiff, reduceIte, Nat.reduceEqDiff, Int.reduceLT, Int.reduceLE, Int.reduceGT, Int.reduceGE, Int.reduceEq, Int.reduceAdd, Int.reduceSub, Int.reduceMul, reduceCtorEq], Grows.refl h⟩
end Go.X
end
section
open Go Go.X
namespace Go.X
set_option linter.unusedVariables false
theorem keyB_get (k : List UInt8) (i : Nat) (hi : i < 64) : (keyB k).getD i 0 = if i < (if 64 < k.length then sha k else k).length then (if 64 < k.length then sha k else k).getD i 0 else 0 := by
  unfold keyB
  generalize (if 64 < k.length then sha k else k) = q
  simp only [List.getD_eq_getElem?_getD]
  split
  · rw [List.getElem?_append_left (by omega)]
  · rw [List.getElem?_append_right (by omega), List.getElem?_replicate]
    split <;> rfl
theorem zJx (k : List UInt8) (b : UInt8) (i : Nat) (hi : i < 64) : (padK k b).take (i + 1) = (padK k b).take i ++ [(keyB k).getD i 0 ^^^ b] := by
  rw [List.take_succ_eq_append_getElem (by rw [zBQ]; exact hi)]
  congr 2
  simp [padK, List.getD_eq_getElem?_getD, List.getElem?_eq_getElem (show i < (keyB k).length by rw [zGR]; exact hi)]
theorem zWd (pr : Prog) (hs : pr.prim 18 = some (za shaS)) (k s : List UInt8) (hk : k.length + 400 ≤ zU) (hs5 : s.length + 500 ≤ zU) (h : Heap) : Comes pr xq19 [.string (zB k), .string (zB s)] h (.string (zB (mac k s))) := by
  apply Comes.of
  unfold xq19
  dsimp only [zc]
  have hr64 : zU = 140737488355328 := rfl
  have main : ∀ (q : List UInt8) (t : Fr), q.length ≤ 64 → q = (if 64 < k.length then sha k else k) → t.get 0 = .string (zB q) → t.get 1 = .string (zB s) →
      wpk pr (.seq (.ops zHx) (.seq (.seq (.ops zHy) (.block 0 (.loop zFa))) (.seq (.draw zFb [(1, (8, []))]) (.ret)))) [] (fun e t h' => (e = XE.normal ∨ e = XE.ret) ∧ t.get 4 = .string (zB (mac k s)) ∧ Grows h h') t h := by
    intro q t hq hqk t0 t1
    (repeat (first | refine zS ?_ | refine zL ?_ | refine zR ?_ | refine zE ?_ | refine zC ?_ | refine zJ ?_ | refine zK ?_ | refine zP ?_ | refine zF ?_ | refine zH ?_ | refine zG ?_ | refine zI (by decide) ?_ | refine zQ ?_ | ((first | refine zD ?_ | refine zN ?_ | refine zT rfl rfl ?_ | refine zO rfl ?_ | refine zM ?_); simp only [yq19.down, zA, lemS.down, lemC.down, Int.reduceBEq, Nat.reduceAdd, Nat.reduceLeDiff, reduceIte, Nat.reduceEqDiff, Int.reduceLT, Int.reduceLE, Int.reduceGT, Int.reduceGE, Int.reduceEq, Int.reduceAdd, Int.reduceSub, Int.reduceMul, reduceCtorEq, lemH.down, lemW.down, t0, t1])))
    have hO1 : Own ((h.new []).new []) (fun A => A = h.next) 1 (.slice (some ⟨h.next, 0, none⟩) 0 0) 0 [] := (Own.newSlice (sp := none) rfl (.inl rfl)).grow Grows.new
    have hO2 : Own ((h.new []).new []) (fun A => A = h.next + 1) 1 (.slice (some ⟨h.next + 1, 0, none⟩) 0 0) 0 [] := Own.newSlice (h := h.new []) (sp := none) rfl (.inl rfl)
    have hg : Grows h ((h.new []).new []) := Grows.new.trans Grows.new
    have hn : ((h.new []).new []).next = h.next + 2 := rfl
    generalize (h.new []).new [] = h1 at *
    refine zo (fun m t g => ∃ i v5 v6 S5 S6, m = 64 - i ∧ i ≤ 64 ∧ Own g S5 1 v5 ((padK k 54).take i).length (zV ((padK k 54).take i)) ∧ Own g S6 1 v6 ((padK k 92).take i).length (zV ((padK k 92).take i)) ∧ (∀ A, S5 A → ¬ S6 A) ∧ (∀ A, S5 A → h.next ≤ A ∧ A < g.next) ∧ (∀ A, S6 A → h.next ≤ A ∧ A < g.next) ∧ Grows h g ∧
      t.get 0 = .string (zB q) ∧ t.get 1 = .string (zB s) ∧ t.get 5 = v5 ∧ t.get 6 = v6 ∧ t.get 7 = .int .i64 (i : Int)) ?_ 64 _ _
      ⟨0, _, _, _, _, rfl, by omega, hO1, hO2, fun A h1 h2 => by omega, fun A hA => by omega, fun A hA => by omega, hg, by simp only [yq19.down, zA, lemS.down, lemC.down, Int.reduceBEq, Nat.reduceAdd, Nat.reduceLeDiff, reduceIte, Nat.reduceEqDiff, Int.reduceLT, Int.reduceLE, Int.reduceGT, Int.reduceGE, Int.reduceEq, Int.reduceAdd, Int.reduceSub, Int.reduceMul, reduceCtorEq, t0], by simp only [yq19.down, zA, lemS.down, lemC.down, Int.reduceBEq, Nat.reduceAdd, Nat.reduceLeDiff, reduceIte, Nat.reduceEqDiff, Int.reduceLT, Int.reduceLE, Int.reduceGT, Int.reduceGE, Int.reduceEq, Int.reduceAdd, Int.reduceSub, Int.reduceMul, reduceCtorEq, t1], by simp only [yq19.down, zA, lemS.down, lemC.down, Int.reduceBEq, Nat.reduceAdd, Nat.reduceLeDiff, reduceIte, Nat.reduceEqDiff, Int.reduceLT, Int.reduceLE, Int.reduceGT, Int.reduceGE, Int.reduceEq, Int.reduceAdd, Int.reduceSub, Int.reduceMul, reduceCtorEq], by simp only [yq19.down, zA, lemS.down, lemC.down, Int.reduceBEq, Nat.reduceAdd, Nat.reduceLeDiff, reduceIte, Nat.reduceEqDiff, Int.reduceLT, Int.reduceLE, Int.reduceGT, Int.reduceGE, Int.reduceEq, Int.reduceAdd, Int.reduceSub, Int.reduceMul, reduceCtorEq], by (simp only [yq19.down, zA, lemS.down, lemC.down, Int.reduceBEq, Nat.reduceAdd, Nat.reduceLeDiff, reduceIte, Nat.reduceEqDiff, Int.reduceLT, Int.reduceLE, Int.reduceGT, Int.reduceGE, Int.reduceEq, Int.reduceAdd, Int.reduceSub, Int.reduceMul, reduceCtorEq]) <;> rfl⟩
    rintro m t g ⟨i, v5, v6, S5, S6, rfl, hi, o5, o6, h56, b5, b6, gg, t0, t1, t5, t6, t7⟩ hnext
    refine xq19_11k ?_
    dsimp only [zHw]
    (repeat (first | refine zS ?_ | refine zL ?_ | refine zR ?_ | refine zE ?_ | refine zC ?_ | refine zJ ?_ | refine zK ?_ | refine zP ?_ | refine zF ?_ | refine zH ?_ | refine zG ?_ | refine zI (by decide) ?_ | refine zQ ?_ | ((first | refine zD ?_ | refine zN ?_ | refine zT rfl rfl ?_ | refine zO rfl ?_ | refine zM ?_); simp only [yq19.down, zA, lemS.down, lemC.down, Int.reduceBEq, Nat.reduceAdd, Nat.reduceLeDiff, reduceIte, Nat.reduceEqDiff, Int.reduceLT, Int.reduceLE, Int.reduceGT, Int.reduceGE, Int.reduceEq, Int.reduceAdd, Int.reduceSub, Int.reduceMul, reduceCtorEq, lemH.down, lemW.down, t0, t1, t5, t6, t7])))
    refine ⟨fun hlt => ?_, fun hge => ?_⟩
    · have hi' : i < 64 := by omega
      have ww : IntKind.i64.wrap ((i : Int) + 1) = ((i + 1 : Nat) : Int) := by rw [wrap_i64 (by omega) (by omega)]; omega
      have l5 : ((padK k 54).take i).length = i := by rw [List.length_take, zBQ]; omega
      have l6 : ((padK k 92).take i).length = i := by rw [List.length_take, zBQ]; omega
      have step : ∀ t : Fr, t.get 0 = .string (zB q) → t.get 1 = .string (zB s) → t.get 5 = v5 → t.get 6 = v6 → t.get 7 = .int .i64 (i : Int) → t.get 8 = uw .u8 ((keyB k).getD i 0).toNat →
          wpk pr (.ops zHz) [KI.blk 1, KI.code (XC.ops zHv), KI.lp zFa, KI.blk 0, KI.code ((XC.draw zFb [(1, 8, [])]).seq XC.ret)] (fun e t h' => (e = XE.normal ∨ e = XE.ret) ∧ t.get 4 = .string (zB (mac k s)) ∧ Grows h h') t g := by
        intro t t0 t1 t5 t6 t7 t8
        obtain ⟨v5', g2, e2, o5', k2, n2⟩ := o5.push2 (((keyB k).getD i 0).toNat ^^^ 54) (by omega)
        have o6' := o6.keep k2 (fun A hA hS => h56 A hS hA)
        obtain ⟨v6', g3, e3, o6'', k3, n3⟩ := o6'.push2 (((keyB k).getD i 0).toNat ^^^ 92) (by omega)
        have o5'' := o5'.keep k3 (fun A hA hS => by
          rcases hA with hA | hA
          · exact h56 A hA hS
          · have := (b6 A hS).2; omega)
        have u54 : Value.int .u8 54 = uw .u8 54 := rfl
        have u92 : Value.int .u8 92 = uw .u8 92 := rfl
        (repeat (first | refine zS ?_ | refine zL ?_ | refine zR ?_ | refine zE ?_ | refine zC ?_ | refine zJ ?_ | refine zK ?_ | refine zP ?_ | refine zF ?_ | refine zH ?_ | refine zG ?_ | refine zI (by decide) ?_ | refine zQ ?_ | ((first | refine zD ?_ | refine zN ?_ | refine zT rfl rfl ?_ | refine zO rfl ?_ | refine zM ?_); simp only [yq19.down, zA, lemS.down, lemC.down, Int.reduceBEq, Nat.reduceAdd, Nat.reduceLeDiff, reduceIte, Nat.reduceEqDiff, Int.reduceLT, Int.reduceLE, Int.reduceGT, Int.reduceGE, Int.reduceEq, Int.reduceAdd, Int.reduceSub, Int.reduceMul, reduceCtorEq, lemH.down, lemW.down, t0, t1, t5, t6, t7, t8, u54, u92, e2, e3, ww])))
        refine hnext (64 - (i + 1)) _ _ (by omega) ⟨i + 1, v5', v6', (fun A => S5 A ∨ (g.next ≤ A ∧ A < g2.next)), (fun A => S6 A ∨ (g2.next ≤ A ∧ A < g3.next)), rfl, by omega, ?_, ?_, ?_, ?_, ?_, ?_, by simp only [yq19.down, zA, lemS.down, lemC.down, Int.reduceBEq, Nat.reduceAdd, Nat.reduceLeDiff, reduceIte, Nat.reduceEqDiff, Int.reduceLT, Int.reduceLE, Int.reduceGT, Int.reduceGE, Int.reduceEq, Int.reduceAdd, Int.reduceSub, Int.reduceMul, reduceCtorEq, t0], by simp only [yq19.down, zA, lemS.down, lemC.down, Int.reduceBEq, Nat.reduceAdd, Nat.reduceLeDiff, reduceIte, Nat.reduceEqDiff, Int.reduceLT, Int.reduceLE, Int.reduceGT, Int.reduceGE, Int.reduceEq, Int.reduceAdd, Int.reduceSub, Int.reduceMul, reduceCtorEq, t1], by simp only [yq19.down, zA, lemS.down, lemC.down, Int.reduceBEq, Nat.reduceAdd, Nat.reduceLeDiff, reduceIte, Nat.reduceEqDiff, Int.reduceLT, Int.reduceLE, Int.reduceGT, Int.reduceGE, Int.reduceEq, Int.reduceAdd, Int.reduceSub, Int.reduceMul, reduceCtorEq], by simp only [yq19.down, zA, lemS.down, lemC.down, Int.reduceBEq, Nat.reduceAdd, Nat.reduceLeDiff, reduceIte, Nat.reduceEqDiff, Int.reduceLT, Int.reduceLE, Int.reduceGT, Int.reduceGE, Int.reduceEq, Int.reduceAdd, Int.reduceSub, Int.reduceMul, reduceCtorEq], by simp only [yq19.down, zA, lemS.down, lemC.down, Int.reduceBEq, Nat.reduceAdd, Nat.reduceLeDiff, reduceIte, Nat.reduceEqDiff, Int.reduceLT, Int.reduceLE, Int.reduceGT, Int.reduceGE, Int.reduceEq, Int.reduceAdd, Int.reduceSub, Int.reduceMul, reduceCtorEq]⟩
        · rw [zJx k 54 i hi']
          have : UInt8.ofNat (((keyB k).getD i 0).toNat ^^^ 54) = (keyB k).getD i 0 ^^^ 54 := UInt8.toNat_inj.1 (by
            rw [UInt8.toNat_xor, UInt8.toNat_ofNat', Nat.mod_eq_of_lt]
            · rfl
            · exact Nat.xor_lt_two_pow (n := 8) (UInt8.toNat_lt _) (by decide))
          rw [← this]
          exact o5''
        · rw [zJx k 92 i hi']
          have : UInt8.ofNat (((keyB k).getD i 0).toNat ^^^ 92) = (keyB k).getD i 0 ^^^ 92 := UInt8.toNat_inj.1 (by
            rw [UInt8.toNat_xor, UInt8.toNat_ofNat', Nat.mod_eq_of_lt]
            · rfl
            · exact Nat.xor_lt_two_pow (n := 8) (UInt8.toNat_lt _) (by decide))
          rw [← this]
          exact o6''
        · rintro A (hA | hA) (hB | hB)
          · exact h56 A hA hB
          · have := (b5 A hA).2; omega
          · have := (b6 A hB).2; omega
          · omega
        · rintro A (hA | hA)
          · have := b5 A hA; omega
          · have := gg.next; omega
        · rintro A (hA | hA)
          · have := b6 A hA; omega
          · have := gg.next; omega
        · exact (gg.then k2 (fun A hA hS => by have := (b5 A hS).1; omega)).then k3 (fun A hA hS => by have := (b6 A hS).1; omega)
      have kg := keyB_get k i hi'
      rw [← hqk] at kg
      (repeat (first | refine zS ?_ | refine zL ?_ | refine zR ?_ | refine zE ?_ | refine zC ?_ | refine zJ ?_ | refine zK ?_ | refine zP ?_ | refine zF ?_ | refine zH ?_ | refine zG ?_ | refine zI (by decide) ?_ | refine zQ ?_ | ((first | refine zD ?_ | refine zN ?_ | refine zT rfl rfl ?_ | refine zO rfl ?_ | refine zM ?_); simp only [yq19.down, zA, lemS.down, lemC.down, Int.reduceBEq, Nat.reduceAdd, Nat.reduceLeDiff, reduceIte, Nat.reduceEqDiff, Int.reduceLT, Int.reduceLE, Int.reduceGT, Int.reduceGE, Int.reduceEq, Int.reduceAdd, Int.reduceSub, Int.reduceMul, reduceCtorEq, lemH.down, lemW.down, t0, t1, t5, t6, t7])))
      refine ⟨fun hlq => ?_, fun hlq => ?_⟩
      · rw [if_pos (by omega)] at kg
        refine zD ?_
        simp only [yq19.down, zA, lemS.down, lemC.down, Int.reduceBEq, Nat.reduceAdd, Nat.reduceLeDiff, reduceIte, Nat.reduceEqDiff, Int.reduceLT, Int.reduceLE, Int.reduceGT, Int.reduceGE, Int.reduceEq, Int.reduceAdd, Int.reduceSub, Int.reduceMul, reduceCtorEq, t0, t7, zGO (s := q) (i := i) (by omega)]
        exact zC (step _ (by simp only [yq19.down, zA, lemS.down, lemC.down, Int.reduceBEq, Nat.reduceAdd, Nat.reduceLeDiff, reduceIte, Nat.reduceEqDiff, Int.reduceLT, Int.reduceLE, Int.reduceGT, Int.reduceGE, Int.reduceEq, Int.reduceAdd, Int.reduceSub, Int.reduceMul, reduceCtorEq, t0]) (by simp only [yq19.down, zA, lemS.down, lemC.down, Int.reduceBEq, Nat.reduceAdd, Nat.reduceLeDiff, reduceIte, Nat.reduceEqDiff, Int.reduceLT, Int.reduceLE, Int.reduceGT, Int.reduceGE, Int.reduceEq, Int.reduceAdd, Int.reduceSub, Int.reduceMul, reduceCtorEq, t1]) (by simp only [yq19.down, zA, lemS.down, lemC.down, Int.reduceBEq, Nat.reduceAdd, Nat.reduceLeDiff, reduceIte, Nat.reduceEqDiff, Int.reduceLT, Int.reduceLE, Int.reduceGT, Int.reduceGE, Int.reduceEq, Int.reduceAdd, Int.reduceSub, Int.reduceMul, reduceCtorEq, t5]) (by simp only [yq19.down, zA, lemS.down, lemC.down, Int.reduceBEq, Nat.reduceAdd, Nat.reduceLeDiff, reduceIte, Nat.reduceEqDiff, Int.reduceLT, Int.reduceLE, Int.reduceGT, Int.reduceGE, Int.reduceEq, Int.reduceAdd, Int.reduceSub, Int.reduceMul, reduceCtorEq, t6]) (by simp only [yq19.down, zA, lemS.down, lemC.down, Int.reduceBEq, Nat.reduceAdd, Nat.reduceLeDiff, reduceIte, Nat.reduceEqDiff, Int.reduceLT, Int.reduceLE, Int.reduceGT, Int.reduceGE, Int.reduceEq, Int.reduceAdd, Int.reduceSub, Int.reduceMul, reduceCtorEq, t7]) (by simp only [yq19.down, zA, lemS.down, lemC.down, Int.reduceBEq, Nat.reduceAdd, Nat.reduceLeDiff, reduceIte, Nat.reduceEqDiff, Int.reduceLT, Int.reduceLE, Int.reduceGT, Int.reduceGE, Int.reduceEq, Int.reduceAdd, Int.reduceSub, Int.reduceMul, reduceCtorEq]; rw [kg]))
      · rw [if_neg (by omega)] at kg
        exact zE (zC (step _ (by simp only [yq19.down, zA, lemS.down, lemC.down, Int.reduceBEq, Nat.reduceAdd, Nat.reduceLeDiff, reduceIte, Nat.reduceEqDiff, Int.reduceLT, Int.reduceLE, Int.reduceGT, Int.reduceGE, Int.reduceEq, Int.reduceAdd, Int.reduceSub, Int.reduceMul, reduceCtorEq, t0]) (by simp only [yq19.down, zA, lemS.down, lemC.down, Int.reduceBEq, Nat.reduceAdd, Nat.reduceLeDiff, reduceIte, Nat.reduceEqDiff, Int.reduceLT, Int.reduceLE, Int.reduceGT, Int.reduceGE, Int.reduceEq, Int.reduceAdd, Int.reduceSub, Int.reduceMul, reduceCtorEq, t1]) (by simp only [yq19.down, zA, lemS.down, lemC.down, Int.reduceBEq, Nat.reduceAdd, Nat.reduceLeDiff, reduceIte, Nat.reduceEqDiff, Int.reduceLT, Int.reduceLE, Int.reduceGT, Int.reduceGE, Int.reduceEq, Int.reduceAdd, Int.reduceSub, Int.reduceMul, reduceCtorEq, t5]) (by simp only [yq19.down, zA, lemS.down, lemC.down, Int.reduceBEq, Nat.reduceAdd, Nat.reduceLeDiff, reduceIte, Nat.reduceEqDiff, Int.reduceLT, Int.reduceLE, Int.reduceGT, Int.reduceGE, Int.reduceEq, Int.reduceAdd, Int.reduceSub, Int.reduceMul, reduceCtorEq, t6]) (by simp only [yq19.down, zA, lemS.down, lemC.down, Int.reduceBEq, Nat.reduceAdd, Nat.reduceLeDiff, reduceIte, Nat.reduceEqDiff, Int.reduceLT, Int.reduceLE, Int.reduceGT, Int.reduceGE, Int.reduceEq, Int.reduceAdd, Int.reduceSub, Int.reduceMul, reduceCtorEq, t7]) (by simp only [yq19.down, zA, lemS.down, lemC.down, Int.reduceBEq, Nat.reduceAdd, Nat.reduceLeDiff, reduceIte, Nat.reduceEqDiff, Int.reduceLT, Int.reduceLE, Int.reduceGT, Int.reduceGE, Int.reduceEq, Int.reduceAdd, Int.reduceSub, Int.reduceMul, reduceCtorEq]; rw [kg]; rfl)))
    · obtain rfl : i = 64 := by omega
      rw [List.take_of_length_le (by rw [zBQ]; decide)] at o5 o6
      have c1 := zA4 (a := padK k 54) (b := s) (by rw [zBQ]; omega)
      have s1 := zf (h := g) hs (zCX (s := padK k 54 ++ s) (by rw [List.length_append, zBQ]; omega))
      have c2 := zA4 (a := padK k 92) (b := sha (padK k 54 ++ s)) (by rw [zBQ, zBf]; omega)
      have s2 := zf (h := g) hs (zCX (s := padK k 92 ++ sha (padK k 54 ++ s)) (by rw [List.length_append, zBQ, zBf]; omega))
      (repeat (first | refine zS ?_ | refine zL ?_ | refine zR ?_ | refine zE ?_ | refine zC ?_ | refine zJ ?_ | refine zK ?_ | refine zP ?_ | refine zF ?_ | refine zH ?_ | refine zG ?_ | refine zI (by decide) ?_ | refine zQ ?_ | ((first | refine zD ?_ | refine zN ?_ | refine zT rfl rfl ?_ | refine zO rfl ?_ | refine zM ?_); simp only [yq19.down, zA, lemS.down, lemC.down, Int.reduceBEq, Nat.reduceAdd, Nat.reduceLeDiff, reduceIte, Nat.reduceEqDiff, Int.reduceLT, Int.reduceLE, Int.reduceGT, Int.reduceGE, Int.reduceEq, Int.reduceAdd, Int.reduceSub, Int.reduceMul, reduceCtorEq, lemH.down, lemW.down, t0, t1, t5, t6, t7, o5.cb2s, o6.cb2s, c1, s1, c2, s2])))
      exact ⟨.inr rfl, by (simp only [yq19.down, zA, lemS.down, lemC.down, Int.reduceBEq, Nat.reduceAdd, Nat.reduceLeDiff, reduceIte, Nat.reduceEqDiff, Int.reduceLT, Int.reduceLE, Int.reduceGT, Int.reduceGE, Int.reduceEq, Int.reduceAdd, Int.reduceSub, Int.reduceMul, reduceCtorEq]) <;> rfl, gg⟩
  (repeat (first | refine zS ?_ | refine zL ?_ | refine zR ?_ | refine zE ?_ | refine zC ?_ | refine zJ ?_ | refine zK ?_ | refine zP ?_ | refine zF ?_ | refine zH ?_ | refine zG ?_ | refine zI (by decide) ?_ | refine zQ ?_ | ((first | refine zD ?_ | refine zN ?_ | refine zT rfl rfl ?_ | refine zO rfl ?_ | refine zM ?_); simp only [yq19.down, zA, lemS.down, lemC.down, Int.reduceBEq, Nat.reduceAdd, Nat.reduceLeDiff, reduceIte, Nat.reduceEqDiff, Int.reduceLT, Int.reduceLE, Int.reduceGT, Int.reduceGE, Int.reduceEq, Int.reduceAdd, Int.reduceSub, Int.reduceMul, reduceCtorEq, lemH.down, lemW.down])))
  refine ⟨fun hl => ?_, fun hl => ?_⟩
  · refine zD ?_
    simp only [yq19.down, zA, lemS.down, lemC.down, Int.reduceBEq, Nat.reduceAdd, Nat.reduceLeDiff, reduceIte, Nat.reduceEqDiff, Int.reduceLT, Int.reduceLE, Int.reduceGT, Int.reduceGE, Int.reduceEq, Int.reduceAdd, Int.reduceSub, Int.reduceMul, reduceCtorEq, zf hs (zCX hk)]
    refine zC (main (sha k) _ (by rw [zBf]; decide) ?_ (by simp only [yq19.down, zA, lemS.down, lemC.down, Int.reduceBEq, Nat.reduceAdd, Nat.reduceLeDiff, reduceIte, Nat.reduceEqDiff, Int.reduceLT, Int.reduceLE, Int.reduceGT, Int.reduceGE, Int.reduceEq, Int.reduceAdd, Int.reduceSub, Int.reduceMul, reduceCtorEq]) (by simp only [yq19.down, zA, lemS.down, lemC.down, Int.reduceBEq, Nat.reduceAdd, Nat.reduceLeDiff, reduceIte, Nat.reduceEqDiff, Int.reduceLT, Int.reduceLE, Int.reduceGT, Int.reduceGE, Int.reduceEq, Int.reduceAdd, Int.reduceSub, Int.reduceMul, reduceCtorEq]))
    rw [if_pos (by omega)]
  · refine zE (zC (main k _ (by omega) ?_ (by simp only [yq19.down, zA, lemS.down, lemC.down, Int.reduceBEq, Nat.reduceAdd, Nat.reduceLeDiff, reduceIte, Nat.reduceEqDiff, Int.reduceLT, Int.reduceLE, Int.reduceGT, Int.reduceGE, Int.reduceEq, Int.reduceAdd, Int.reduceSub, Int.reduceMul, reduceCtorEq]) (by simp only [yq19.down, zA, lemS.down, lemC.down, Int.reduceBEq, Nat.reduceAdd, Nat.reduceLeDiff, reduceIte, Nat.reduceEqDiff, Int.reduceLT, Int.reduceLE, Int.reduceGT, Int.reduceGE, Int.reduceEq, Int.reduceAdd, Int.reduceSub, Int.reduceMul, reduceCtorEq])))
    rw [if_neg (by omega)]
end Go.X
end
