/- Tags. -/
import Derived.Test.YtbbmklepnfmppaaGreatXC
import Derived.Test.YtbbmklepnfmppaaGreatXG
set_option linter.unusedSimpArgs false
set_option linter.unusedVariables false
set_option maxHeartbeats 2000000
section
open Go Go.X
namespace Go.X
set_option linter.unusedVariables false
theorem sha_len (s : List UInt8) : (sha s).length = 32 := by
  unfold sha fin
  rw [outB_len, zA4 _ rfl]
def keyB (k : List UInt8) : List UInt8 := (if 64 < k.length then sha k else k) ++ List.replicate (64 - (if 64 < k.length then sha k else k).length) 0
theorem keyB_len (k : List UInt8) : (keyB k).length = 64 := by
  unfold keyB
  rw [List.length_append, List.length_replicate]
  split
  · rw [sha_len]
  · omega
def padK (k : List UInt8) (b : UInt8) : List UInt8 := (keyB k).map (· ^^^ b)
theorem padK_len (k : List UInt8) (b : UInt8) : (padK k b).length = 64 := by simp [padK, keyB_len]
def mac (k s : List UInt8) : List UInt8 := sha (padK k 92 ++ sha (padK k 54 ++ s))
theorem mac_len (k s : List UInt8) : (mac k s).length = 32 := sha_len _
def repeatS : List Value → Option Value
  | [.string s, .int .i64 c] => if 0 ≤ c ∧ c ≤ 9223372036854775807 ∧ s.data.toList.length * c.toNat ≤ zX then some (.string (strOf (List.replicate c.toNat s.data.toList).flatten)) else none
  | _ => none
theorem repeatS_at {s : List UInt8} {c : Nat} (h0 : c ≤ 9223372036854775807) (h : s.length * c ≤ zX) : repeatS [.string (strOf s), .int .i64 (c : Int)] = some (.string (strOf (List.replicate c s).flatten)) := by
  simp only [repeatS, zAj]
  rw [if_pos ⟨by omega, by omega, by simpa using h⟩]
  simp
theorem flat1 (n : Nat) (x : UInt8) : (List.replicate n [x]).flatten = List.replicate n x := by
  induction n with
  | zero => rfl
  | succ n ih => simp [List.replicate_succ, ih]
def xorP (l : List UInt8) (b : UInt8) (i : Nat) : List UInt8 := (l.take i).map (· ^^^ b) ++ l.drop i
theorem xorP_len {l : List UInt8} {b : UInt8} {i : Nat} : (xorP l b i).length = l.length := by simp [xorP]; omega
theorem xorP_get {l : List UInt8} {b : UInt8} {i : Nat} (hi : i < l.length) : (xorP l b i).getD i 0 = l.getD i 0 := by
  unfold xorP
  simp only [List.getD_eq_getElem?_getD]
  have e : ((l.take i).map (· ^^^ b)).length = i := by simp; omega
  rw [List.getElem?_append_right (by omega), e, List.getElem?_drop]
  simp
theorem xorP_set {l : List UInt8} {b : UInt8} {i : Nat} (hi : i < l.length) : (xorP l b i).set i (l.getD i 0 ^^^ b) = xorP l b (i + 1) := by
  unfold xorP
  have e : ((l.take i).map (· ^^^ b)).length = i := by simp; omega
  rw [List.set_append_right _ _ (by omega), e, Nat.sub_self, List.take_succ_eq_append_getElem hi, List.map_append, List.append_assoc, List.drop_eq_getElem_cons hi]
  simp only [List.getD_eq_getElem?_getD, List.getElem?_eq_getElem hi, Option.getD_some, List.set_cons_zero, List.map_cons, List.map_nil, List.cons_append, List.nil_append]
theorem pad_ok (pr : Prog) (hs : pr.prim 156 = some (zY shaS)) (hr : pr.prim 264 = some (zY repeatS)) (k : List UInt8) (b : UInt8) (hk : k.length + 400 ≤ zX) (h : Heap) : Comes pr xq250 [.string (strOf k), uw .u8 b.toNat] h (.string (strOf (padK k b))) := by
  apply Comes.of
  unfold xq250
  dsimp only [zh]
  have main : ∀ (q : List UInt8) (t : Fr), q.length ≤ 64 → q ++ List.replicate (64 - q.length) 0 = keyB k → t.get 0 = .string (strOf q) → t.get 1 = uw .u8 b.toNat →
      wpk pr (.seq (.ops xq250_3) (.seq (.seq (.ops xq250_4) (.block 0 (.loop xq250_9))) (.seq (.ops xq250_10) (.ret)))) [] (fun e t h' => (e = XE.normal ∨ e = XE.ret) ∧ t.get 4 = .string (strOf (padK k b)) ∧ Grows h h') t h := by
    intro q t hq hqk t0 t1
    have hr64 : zX = 140737488355328 := rfl
    have w64 : IntKind.i64.wrap (64 - (q.length : Int)) = ((64 - q.length : Nat) : Int) := by rw [wrap_i64 (by omega) (by omega)]; omega
    have rep : cfi pr 264 [.string (strOf [0]), .int .i64 ((64 - q.length : Nat) : Int)] h = some (.string (strOf (List.replicate (64 - q.length) 0)), h) :=
      zg hr (by rw [repeatS_at (by omega) (by simp; omega), flat1])
    have cat := bin_cat (a := q) (b := List.replicate (64 - q.length) 0) (by simp; omega)
    rw [hqk] at cat
    (repeat (first | refine zS ?_ | refine zK ?_ | refine zR ?_ | refine zD ?_ | refine zB ?_ | refine zI ?_ | refine zJ ?_ | refine zP ?_ | refine zE ?_ | refine zG ?_ | refine zF ?_ | refine zH (by decide) ?_ | refine zQ ?_ | ((first | refine zC ?_ | refine zM ?_ | refine zO rfl rfl ?_ | refine zN rfl ?_ | refine zL ?_); simp only [yq250.down, zA, lemS.down, lemC.down, Int.reduceBEq, Nat.reduceAdd, Nat.reduceLeDiff, reduceIte, Nat.reduceEqDiff, Int.reduceLT, Int.reduceLE, Int.reduceGT, Int.reduceGE, Int.reduceEq, Int.reduceAdd, Int.reduceSub, Int.reduceMul, reduceCtorEq, lemH.down, lemW.down, t0, t1, w64, rep, cat, cs2bV_s])))
    have hO := Own.newB (h := h) (l := zV (keyB k)) (n := (keyB k).length) (esz := 1) (sp := some 1) (by simp [zBG]) (.inr rfl)
    have hg : Grows h (h.newB (zV (keyB k))) := Grows.newB
    generalize h.newB (zV (keyB k)) = h1 at *
    have hkl := keyB_len k
    refine zw (fun m t g => ∃ i, m = 64 - i ∧ i ≤ 64 ∧ Own g (fun A => A = h.next) 1 (.slice (some ⟨h.next, 0, some 1⟩) (keyB k).length (keyB k).length) (keyB k).length (zV (xorP (keyB k) b i)) ∧ Keeps (fun A => A = h.next) h1 g ∧ t.get 1 = uw .u8 b.toNat ∧ t.get 5 = .slice (some ⟨h.next, 0, some 1⟩) (keyB k).length (keyB k).length ∧ t.get 20 = .int .i64 ((keyB k).length : Int) ∧ t.get 21 = .int .i64 (i : Int)) ?_ 64 _ _ ⟨0, rfl, by omega, by simpa [xorP] using hO, Keeps.refl, by simp only [yq250.down, zA, lemS.down, lemC.down, Int.reduceBEq, Nat.reduceAdd, Nat.reduceLeDiff, reduceIte, Nat.reduceEqDiff, Int.reduceLT, Int.reduceLE, Int.reduceGT, Int.reduceGE, Int.reduceEq, Int.reduceAdd, Int.reduceSub, Int.reduceMul, reduceCtorEq, t1], by simp only [yq250.down, zA, lemS.down, lemC.down, Int.reduceBEq, Nat.reduceAdd, Nat.reduceLeDiff, reduceIte, Nat.reduceEqDiff, Int.reduceLT, Int.reduceLE, Int.reduceGT, Int.reduceGE, Int.reduceEq, Int.reduceAdd, Int.reduceSub, Int.reduceMul, reduceCtorEq], by simp only [yq250.down, zA, lemS.down, lemC.down, Int.reduceBEq, Nat.reduceAdd, Nat.reduceLeDiff, reduceIte, Nat.reduceEqDiff, Int.reduceLT, Int.reduceLE, Int.reduceGT, Int.reduceGE, Int.reduceEq, Int.reduceAdd, Int.reduceSub, Int.reduceMul, reduceCtorEq], by (simp only [yq250.down, zA, lemS.down, lemC.down, Int.reduceBEq, Nat.reduceAdd, Nat.reduceLeDiff, reduceIte, Nat.reduceEqDiff, Int.reduceLT, Int.reduceLE, Int.reduceGT, Int.reduceGE, Int.reduceEq, Int.reduceAdd, Int.reduceSub, Int.reduceMul, reduceCtorEq]) <;> rfl⟩
    rintro m t g ⟨i, rfl, hi, gO, gk, t1, t5, t20, t21⟩ hnext
    refine xq250_9k ?_
    dsimp only [xq250_9b]
    (repeat (first | refine zS ?_ | refine zK ?_ | refine zR ?_ | refine zD ?_ | refine zB ?_ | refine zI ?_ | refine zJ ?_ | refine zP ?_ | refine zE ?_ | refine zG ?_ | refine zF ?_ | refine zH (by decide) ?_ | refine zQ ?_ | ((first | refine zC ?_ | refine zM ?_ | refine zO rfl rfl ?_ | refine zN rfl ?_ | refine zL ?_); simp only [yq250.down, zA, lemS.down, lemC.down, Int.reduceBEq, Nat.reduceAdd, Nat.reduceLeDiff, reduceIte, Nat.reduceEqDiff, Int.reduceLT, Int.reduceLE, Int.reduceGT, Int.reduceGE, Int.reduceEq, Int.reduceAdd, Int.reduceSub, Int.reduceMul, reduceCtorEq, lemH.down, lemW.down, t1, t5, t20, t21])))
    refine ⟨fun hlt => ?_, fun hge => ?_⟩
    · have hi' : i < 64 := by omega
      have ww : IntKind.i64.wrap ((i : Int) + 1) = ((i + 1 : Nat) : Int) := by rw [wrap_i64 (by omega) (by omega)]; omega
      obtain ⟨B, o, a1, l1, st⟩ := gO.set1 (i := i) (k := .i64) (by omega)
      rw [zBa (by rw [xorP_len]; omega), xorP_get (by omega)] at l1
      obtain ⟨g2, st2, gO2, gk2⟩ := st (uw .u8 (((keyB k).getD i 0).toNat ^^^ b.toNat)) rfl rfl
      rw [← UInt8.toNat_xor, uw_byte, cellsOfBytes_set, xorP_set (by omega)] at gO2
      (repeat (first | refine zS ?_ | refine zK ?_ | refine zR ?_ | refine zD ?_ | refine zB ?_ | refine zI ?_ | refine zJ ?_ | refine zP ?_ | refine zE ?_ | refine zG ?_ | refine zF ?_ | refine zH (by decide) ?_ | refine zQ ?_ | ((first | refine zC ?_ | refine zM ?_ | refine zO rfl rfl ?_ | refine zN rfl ?_ | refine zL ?_); simp only [yq250.down, zA, lemS.down, lemC.down, Int.reduceBEq, Nat.reduceAdd, Nat.reduceLeDiff, reduceIte, Nat.reduceEqDiff, Int.reduceLT, Int.reduceLE, Int.reduceGT, Int.reduceGE, Int.reduceEq, Int.reduceAdd, Int.reduceSub, Int.reduceMul, reduceCtorEq, lemH.down, lemW.down, t1, t5, t20, t21, p_iaddrS, a1, l1, st2, ww])))
      refine hnext (64 - (i + 1)) _ _ (by omega) ⟨i + 1, rfl, by omega, gO2, gk.trans gk2 (fun _ _ e => e), ?_, ?_, ?_, ?_⟩ <;> simp only [yq250.down, zA, lemS.down, lemC.down, Int.reduceBEq, Nat.reduceAdd, Nat.reduceLeDiff, reduceIte, Nat.reduceEqDiff, Int.reduceLT, Int.reduceLE, Int.reduceGT, Int.reduceGE, Int.reduceEq, Int.reduceAdd, Int.reduceSub, Int.reduceMul, reduceCtorEq, t1, t5, t20]
    · obtain rfl : i = 64 := by omega
      have hx : xorP (keyB k) b 64 = padK k b := by
        unfold xorP padK
        rw [List.take_of_length_le (by omega), List.drop_of_length_le (by omega), List.append_nil]
      rw [hx] at gO
      (repeat (first | refine zS ?_ | refine zK ?_ | refine zR ?_ | refine zD ?_ | refine zB ?_ | refine zI ?_ | refine zJ ?_ | refine zP ?_ | refine zE ?_ | refine zG ?_ | refine zF ?_ | refine zH (by decide) ?_ | refine zQ ?_ | ((first | refine zC ?_ | refine zM ?_ | refine zO rfl rfl ?_ | refine zN rfl ?_ | refine zL ?_); simp only [yq250.down, zA, lemS.down, lemC.down, Int.reduceBEq, Nat.reduceAdd, Nat.reduceLeDiff, reduceIte, Nat.reduceEqDiff, Int.reduceLT, Int.reduceLE, Int.reduceGT, Int.reduceGE, Int.reduceEq, Int.reduceAdd, Int.reduceSub, Int.reduceMul, reduceCtorEq, lemH.down, lemW.down, t1, t5, t20, t21, gO.cb2s])))
      exact ⟨.inr rfl, by simp only [yq250.down, zA, lemS.down, lemC.down, Int.reduceBEq, Nat.reduceAdd, Nat.reduceLeDiff, reduceIte, Nat.reduceEqDiff, Int.reduceLT, Int.reduceLE, Int.reduceGT, Int.reduceGE, Int.reduceEq, Int.reduceAdd, Int.reduceSub, Int.reduceMul, reduceCtorEq], hg.then gk (fun A hA e => by omega)⟩
  (repeat (first | refine zS ?_ | refine zK ?_ | refine zR ?_ | refine zD ?_ | refine zB ?_ | refine zI ?_ | refine zJ ?_ | refine zP ?_ | refine zE ?_ | refine zG ?_ | refine zF ?_ | refine zH (by decide) ?_ | refine zQ ?_ | ((first | refine zC ?_ | refine zM ?_ | refine zO rfl rfl ?_ | refine zN rfl ?_ | refine zL ?_); simp only [yq250.down, zA, lemS.down, lemC.down, Int.reduceBEq, Nat.reduceAdd, Nat.reduceLeDiff, reduceIte, Nat.reduceEqDiff, Int.reduceLT, Int.reduceLE, Int.reduceGT, Int.reduceGE, Int.reduceEq, Int.reduceAdd, Int.reduceSub, Int.reduceMul, reduceCtorEq, lemH.down, lemW.down])))
  refine ⟨fun hl => ?_, fun hl => ?_⟩
  · refine zC ?_
    simp only [yq250.down, zA, lemS.down, lemC.down, Int.reduceBEq, Nat.reduceAdd, Nat.reduceLeDiff, reduceIte, Nat.reduceEqDiff, Int.reduceLT, Int.reduceLE, Int.reduceGT, Int.reduceGE, Int.reduceEq, Int.reduceAdd, Int.reduceSub, Int.reduceMul, reduceCtorEq, zg hs (shaS_at hk)]
    refine zB (main (sha k) _ (by rw [sha_len]; decide) ?_ (by simp only [yq250.down, zA, lemS.down, lemC.down, Int.reduceBEq, Nat.reduceAdd, Nat.reduceLeDiff, reduceIte, Nat.reduceEqDiff, Int.reduceLT, Int.reduceLE, Int.reduceGT, Int.reduceGE, Int.reduceEq, Int.reduceAdd, Int.reduceSub, Int.reduceMul, reduceCtorEq]) (by simp only [yq250.down, zA, lemS.down, lemC.down, Int.reduceBEq, Nat.reduceAdd, Nat.reduceLeDiff, reduceIte, Nat.reduceEqDiff, Int.reduceLT, Int.reduceLE, Int.reduceGT, Int.reduceGE, Int.reduceEq, Int.reduceAdd, Int.reduceSub, Int.reduceMul, reduceCtorEq]))
    unfold keyB
    rw [if_pos (by omega)]
  · refine zD (zB (main k _ (by omega) ?_ (by simp only [yq250.down, zA, lemS.down, lemC.down, Int.reduceBEq, Nat.reduceAdd, Nat.reduceLeDiff, reduceIte, Nat.reduceEqDiff, Int.reduceLT, Int.reduceLE, Int.reduceGT, Int.reduceGE, Int.reduceEq, Int.reduceAdd, Int.reduceSub, Int.reduceMul, reduceCtorEq]) (by simp only [yq250.down, zA, lemS.down, lemC.down, Int.reduceBEq, Nat.reduceAdd, Nat.reduceLeDiff, reduceIte, Nat.reduceEqDiff, Int.reduceLT, Int.reduceLE, Int.reduceGT, Int.reduceGE, Int.reduceEq, Int.reduceAdd, Int.reduceSub, Int.reduceMul, reduceCtorEq])))
    unfold keyB
    rw [if_neg (by omega)]
end Go.X
end
section
open Go Go.X
namespace Go.X
set_option linter.unusedVariables false
def padS : List Value → Option Value
  | [.string k, .int .u8 b] => if k.data.toList.length + 400 ≤ zX ∧ 0 ≤ b ∧ b < 256 then some (.string (strOf (padK k.data.toList (UInt8.ofNat b.toNat)))) else none
  | _ => none
theorem padS_at {k : List UInt8} {b : Nat} (h : k.length + 400 ≤ zX) (hb : b < 256) : padS [.string (strOf k), .int .u8 (OfNat.ofNat b)] = some (.string (strOf (padK k (UInt8.ofNat b)))) := by
  have e : (OfNat.ofNat b : Int) = (b : Int) := rfl
  simp only [padS, zAj, e]
  rw [if_pos ⟨h, by omega, by omega⟩]
  simp
def tagS : List Value → Option Value
  | [.string k, .string s] => if k.data.toList.length + 400 ≤ zX ∧ s.data.toList.length + 500 ≤ zX then some (.string (strOf (mac k.data.toList s.data.toList))) else none
  | _ => none
theorem tagS_at {k s : List UInt8} (h : k.length + 400 ≤ zX) (h2 : s.length + 500 ≤ zX) : tagS [.string (strOf k), .string (strOf s)] = some (.string (strOf (mac k s))) := by
  simp only [tagS, zAj, if_pos (And.intro h h2)]
theorem tag_ok (pr : Prog) (hs : pr.prim 156 = some (zY shaS)) (hp : pr.prim 250 = some (zY padS)) (k s : List UInt8) (hk : k.length + 400 ≤ zX) (hs5 : s.length + 500 ≤ zX) (h : Heap) : Comes pr xq216 [.string (strOf k), .string (strOf s)] h (.string (strOf (mac k s))) := by
  apply Comes.of
  unfold xq216
  dsimp only [zh]
  have hr64 : zX = 140737488355328 := rfl
  have p1 := zg (h := h) hp (padS_at (b := 92) hk (by decide))
  have p2 := zg (h := h) hp (padS_at (b := 54) hk (by decide))
  have c1 := bin_cat (a := padK k (UInt8.ofNat 54)) (b := s) (by rw [padK_len]; omega)
  have s1 := zg (h := h) hs (shaS_at (s := padK k (UInt8.ofNat 54) ++ s) (by rw [List.length_append, padK_len]; omega))
  have c2 := bin_cat (a := padK k (UInt8.ofNat 92)) (b := sha (padK k (UInt8.ofNat 54) ++ s)) (by rw [padK_len, sha_len]; omega)
  have s2 := zg (h := h) hs (shaS_at (s := padK k (UInt8.ofNat 92) ++ sha (padK k (UInt8.ofNat 54) ++ s)) (by rw [List.length_append, padK_len, sha_len]; omega))
  have p1 : cfi pr 250 [.string (strOf k), .int .u8 92] h = _ := p1
  have p2 : cfi pr 250 [.string (strOf k), .int .u8 54] h = _ := p2
  (repeat (first | refine zS ?_ | refine zK ?_ | refine zR ?_ | refine zD ?_ | refine zB ?_ | refine zI ?_ | refine zJ ?_ | refine zP ?_ | refine zE ?_ | refine zG ?_ | refine zF ?_ | refine zH (by decide) ?_ | refine zQ ?_ | ((first | refine zC ?_ | refine zM ?_ | refine zO rfl rfl ?_ | refine zN rfl ?_ | refine zL ?_); simp only [yq216.down, zA, lemS.down, lemC.down, Int.reduceBEq, Nat.reduceAdd, Nat.reduceLeDiff, reduceIte, Nat.reduceEqDiff, Int.reduceLT, Int.reduceLE, Int.reduceGT, Int.reduceGE, Int.reduceEq, Int.reduceAdd, Int.reduceSub, Int.reduceMul, reduceCtorEq, p1, p2, c1, s1, c2, s2])))
  exact ⟨.inr rfl, by (simp only [yq216.down, zA, lemS.down, lemC.down, Int.reduceBEq, Nat.reduceAdd, Nat.reduceLeDiff, reduceIte, Nat.reduceEqDiff, Int.reduceLT, Int.reduceLE, Int.reduceGT, Int.reduceGE, Int.reduceEq, Int.reduceAdd, Int.reduceSub, Int.reduceMul, reduceCtorEq]) <;> rfl, Grows.refl h⟩
def sameB (x : UInt8) : List UInt8 → List UInt8 → UInt8
  | a :: l, b :: m => sameB (x ||| (a ^^^ b)) l m
  | _, _ => x
theorem or_zero8 {x y : UInt8} : (x ||| y = 0) ↔ (x = 0 ∧ y = 0) := by
  constructor
  · intro h
    have e : x.toNat ||| y.toNat = 0 := by rw [← UInt8.toNat_or, h]; rfl
    have := Nat.or_eq_zero_iff.1 e
    exact ⟨UInt8.toNat_inj.1 this.1, UInt8.toNat_inj.1 this.2⟩
  · rintro ⟨rfl, rfl⟩; rfl
theorem sameB_iff : ∀ (a b : List UInt8) (x : UInt8), a.length = b.length → (sameB x a b = 0 ↔ x = 0 ∧ a = b)
  | [], [], x, _ => by simp [sameB]
  | a :: l, b :: m, x, h => by
    simp only [sameB]
    rw [sameB_iff l m _ (by simpa using h), or_zero8, UInt8.xor_eq_zero_iff]
    simp only [List.cons.injEq]
    constructor
    · rintro ⟨⟨h1, h2⟩, h3⟩; exact ⟨h1, h2, h3⟩
    · rintro ⟨h1, h2, h3⟩; exact ⟨⟨h1, h2⟩, h3⟩
  | [], _ :: _, _, h => by simp at h
  | _ :: _, [], _, h => by simp at h
def sameS : List Value → Option Value
  | [.string a, .string b] => if a.data.toList.length ≤ zX then some (.bool (a.data.toList == b.data.toList)) else none
  | _ => none
theorem sameS_at {a b : List UInt8} (h : a.length ≤ zX) : sameS [.string (strOf a), .string (strOf b)] = some (.bool (a == b)) := by
  simp only [sameS, zAj, if_pos h]
theorem same_ok (pr : Prog) (a b : List UInt8) (hr : a.length ≤ zX) (h : Heap) : Comes pr xq183 [.string (strOf a), .string (strOf b)] h (.bool (a == b)) := by
  apply Comes.of
  unfold xq183
  dsimp only [zh]
  have hr64 : zX = 140737488355328 := rfl
  (repeat (first | refine zS ?_ | refine zK ?_ | refine zR ?_ | refine zD ?_ | refine zB ?_ | refine zI ?_ | refine zJ ?_ | refine zP ?_ | refine zE ?_ | refine zG ?_ | refine zF ?_ | refine zH (by decide) ?_ | refine zQ ?_ | ((first | refine zC ?_ | refine zM ?_ | refine zO rfl rfl ?_ | refine zN rfl ?_ | refine zL ?_); simp only [yq183.down, zA, lemS.down, lemC.down, Int.reduceBEq, Nat.reduceAdd, Nat.reduceLeDiff, reduceIte, Nat.reduceEqDiff, Int.reduceLT, Int.reduceLE, Int.reduceGT, Int.reduceGE, Int.reduceEq, Int.reduceAdd, Int.reduceSub, Int.reduceMul, reduceCtorEq, lemH.down, lemW.down])))
  refine ⟨fun hne => ?_, fun heq => ?_⟩
  · (repeat (first | refine zS ?_ | refine zK ?_ | refine zR ?_ | refine zD ?_ | refine zB ?_ | refine zI ?_ | refine zJ ?_ | refine zP ?_ | refine zE ?_ | refine zG ?_ | refine zF ?_ | refine zH (by decide) ?_ | refine zQ ?_ | ((first | refine zC ?_ | refine zM ?_ | refine zO rfl rfl ?_ | refine zN rfl ?_ | refine zL ?_); simp only [yq183.down, zA, lemS.down, lemC.down, Int.reduceBEq, Nat.reduceAdd, Nat.reduceLeDiff, reduceIte, Nat.reduceEqDiff, Int.reduceLT, Int.reduceLE, Int.reduceGT, Int.reduceGE, Int.reduceEq, Int.reduceAdd, Int.reduceSub, Int.reduceMul, reduceCtorEq, lemH.down, lemW.down])))
    refine ⟨.inr rfl, ?_, Grows.refl h⟩
    simp only [yq183.down, zA, lemS.down, lemC.down, Int.reduceBEq, Nat.reduceAdd, Nat.reduceLeDiff, reduceIte, Nat.reduceEqDiff, Int.reduceLT, Int.reduceLE, Int.reduceGT, Int.reduceGE, Int.reduceEq, Int.reduceAdd, Int.reduceSub, Int.reduceMul, reduceCtorEq]
    congr 1
    symm
    rw [beq_eq_false_iff_ne]
    rintro rfl
    exact hne rfl
  · have hl : a.length = b.length := by omega
    (repeat (first | refine zS ?_ | refine zK ?_ | refine zR ?_ | refine zD ?_ | refine zB ?_ | refine zI ?_ | refine zJ ?_ | refine zP ?_ | refine zE ?_ | refine zG ?_ | refine zF ?_ | refine zH (by decide) ?_ | refine zQ ?_ | ((first | refine zC ?_ | refine zM ?_ | refine zO rfl rfl ?_ | refine zN rfl ?_ | refine zL ?_); simp only [yq183.down, zA, lemS.down, lemC.down, Int.reduceBEq, Nat.reduceAdd, Nat.reduceLeDiff, reduceIte, Nat.reduceEqDiff, Int.reduceLT, Int.reduceLE, Int.reduceGT, Int.reduceGE, Int.reduceEq, Int.reduceAdd, Int.reduceSub, Int.reduceMul, reduceCtorEq, lemH.down, lemW.down])))
    refine zw (fun m t g => ∃ i x, m = a.length - i ∧ i ≤ a.length ∧ g = h ∧ sameB x (a.drop i) (b.drop i) = sameB 0 a b ∧ t.get 0 = .string (strOf a) ∧ t.get 1 = .string (strOf b) ∧ t.get 5 = uw .u8 x.toNat ∧ t.get 13 = .int .i64 (a.length : Int) ∧ t.get 14 = .int .i64 (i : Int)) ?_ a.length _ _ ⟨0, 0, rfl, by omega, rfl, rfl, by simp only [yq183.down, zA, lemS.down, lemC.down, Int.reduceBEq, Nat.reduceAdd, Nat.reduceLeDiff, reduceIte, Nat.reduceEqDiff, Int.reduceLT, Int.reduceLE, Int.reduceGT, Int.reduceGE, Int.reduceEq, Int.reduceAdd, Int.reduceSub, Int.reduceMul, reduceCtorEq], by simp only [yq183.down, zA, lemS.down, lemC.down, Int.reduceBEq, Nat.reduceAdd, Nat.reduceLeDiff, reduceIte, Nat.reduceEqDiff, Int.reduceLT, Int.reduceLE, Int.reduceGT, Int.reduceGE, Int.reduceEq, Int.reduceAdd, Int.reduceSub, Int.reduceMul, reduceCtorEq], by (simp only [yq183.down, zA, lemS.down, lemC.down, Int.reduceBEq, Nat.reduceAdd, Nat.reduceLeDiff, reduceIte, Nat.reduceEqDiff, Int.reduceLT, Int.reduceLE, Int.reduceGT, Int.reduceGE, Int.reduceEq, Int.reduceAdd, Int.reduceSub, Int.reduceMul, reduceCtorEq]) <;> rfl, by simp only [yq183.down, zA, lemS.down, lemC.down, Int.reduceBEq, Nat.reduceAdd, Nat.reduceLeDiff, reduceIte, Nat.reduceEqDiff, Int.reduceLT, Int.reduceLE, Int.reduceGT, Int.reduceGE, Int.reduceEq, Int.reduceAdd, Int.reduceSub, Int.reduceMul, reduceCtorEq], by (simp only [yq183.down, zA, lemS.down, lemC.down, Int.reduceBEq, Nat.reduceAdd, Nat.reduceLeDiff, reduceIte, Nat.reduceEqDiff, Int.reduceLT, Int.reduceLE, Int.reduceGT, Int.reduceGE, Int.reduceEq, Int.reduceAdd, Int.reduceSub, Int.reduceMul, reduceCtorEq]) <;> rfl⟩
    rintro m t g ⟨i, x, rfl, hi, rfl, hx, t0, t1, t5, t13, t14⟩ hnext
    refine xq183_9k ?_
    dsimp only [xq183_9b]
    (repeat (first | refine zS ?_ | refine zK ?_ | refine zR ?_ | refine zD ?_ | refine zB ?_ | refine zI ?_ | refine zJ ?_ | refine zP ?_ | refine zE ?_ | refine zG ?_ | refine zF ?_ | refine zH (by decide) ?_ | refine zQ ?_ | ((first | refine zC ?_ | refine zM ?_ | refine zO rfl rfl ?_ | refine zN rfl ?_ | refine zL ?_); simp only [yq183.down, zA, lemS.down, lemC.down, Int.reduceBEq, Nat.reduceAdd, Nat.reduceLeDiff, reduceIte, Nat.reduceEqDiff, Int.reduceLT, Int.reduceLE, Int.reduceGT, Int.reduceGE, Int.reduceEq, Int.reduceAdd, Int.reduceSub, Int.reduceMul, reduceCtorEq, lemH.down, lemW.down, t0, t1, t5, t13, t14])))
    refine ⟨fun hlt => ?_, fun hge => ?_⟩
    · have hi' : i < a.length := by omega
      have ww : IntKind.i64.wrap ((i : Int) + 1) = ((i + 1 : Nat) : Int) := by rw [wrap_i64 (by omega) (by omega)]; omega
      (repeat (first | refine zS ?_ | refine zK ?_ | refine zR ?_ | refine zD ?_ | refine zB ?_ | refine zI ?_ | refine zJ ?_ | refine zP ?_ | refine zE ?_ | refine zG ?_ | refine zF ?_ | refine zH (by decide) ?_ | refine zQ ?_ | ((first | refine zC ?_ | refine zM ?_ | refine zO rfl rfl ?_ | refine zN rfl ?_ | refine zL ?_); simp only [yq183.down, zA, lemS.down, lemC.down, Int.reduceBEq, Nat.reduceAdd, Nat.reduceLeDiff, reduceIte, Nat.reduceEqDiff, Int.reduceLT, Int.reduceLE, Int.reduceGT, Int.reduceGE, Int.reduceEq, Int.reduceAdd, Int.reduceSub, Int.reduceMul, reduceCtorEq, lemH.down, lemW.down, t0, t1, t5, t13, t14, idxSV_at hi', idxSV_at (s := b) (i := i) (by omega), ww])))
      refine hnext (a.length - (i + 1)) _ _ (by omega) ⟨i + 1, x ||| (a.getD i 0 ^^^ b.getD i 0), rfl, by omega, rfl, ?_, by simp only [yq183.down, zA, lemS.down, lemC.down, Int.reduceBEq, Nat.reduceAdd, Nat.reduceLeDiff, reduceIte, Nat.reduceEqDiff, Int.reduceLT, Int.reduceLE, Int.reduceGT, Int.reduceGE, Int.reduceEq, Int.reduceAdd, Int.reduceSub, Int.reduceMul, reduceCtorEq, t0], by simp only [yq183.down, zA, lemS.down, lemC.down, Int.reduceBEq, Nat.reduceAdd, Nat.reduceLeDiff, reduceIte, Nat.reduceEqDiff, Int.reduceLT, Int.reduceLE, Int.reduceGT, Int.reduceGE, Int.reduceEq, Int.reduceAdd, Int.reduceSub, Int.reduceMul, reduceCtorEq, t1], by simp only [yq183.down, zA, lemS.down, lemC.down, Int.reduceBEq, Nat.reduceAdd, Nat.reduceLeDiff, reduceIte, Nat.reduceEqDiff, Int.reduceLT, Int.reduceLE, Int.reduceGT, Int.reduceGE, Int.reduceEq, Int.reduceAdd, Int.reduceSub, Int.reduceMul, reduceCtorEq]; rw [UInt8.toNat_or, UInt8.toNat_xor], by simp only [yq183.down, zA, lemS.down, lemC.down, Int.reduceBEq, Nat.reduceAdd, Nat.reduceLeDiff, reduceIte, Nat.reduceEqDiff, Int.reduceLT, Int.reduceLE, Int.reduceGT, Int.reduceGE, Int.reduceEq, Int.reduceAdd, Int.reduceSub, Int.reduceMul, reduceCtorEq, t13], by simp only [yq183.down, zA, lemS.down, lemC.down, Int.reduceBEq, Nat.reduceAdd, Nat.reduceLeDiff, reduceIte, Nat.reduceEqDiff, Int.reduceLT, Int.reduceLE, Int.reduceGT, Int.reduceGE, Int.reduceEq, Int.reduceAdd, Int.reduceSub, Int.reduceMul, reduceCtorEq]⟩
      rw [← hx, List.drop_eq_getElem_cons (l := a) hi', List.drop_eq_getElem_cons (l := b) (show i < b.length by omega)]
      simp only [sameB, List.getD_eq_getElem?_getD, List.getElem?_eq_getElem hi', List.getElem?_eq_getElem (show i < b.length by omega), Option.getD_some]
    · obtain rfl : i = a.length := by omega
      rw [List.drop_of_length_le (Nat.le_refl _), List.drop_of_length_le (by omega)] at hx
      have hx' : x = sameB 0 a b := hx
      have hz := sameB_iff a b 0 hl
      rw [← hx'] at hz
      rw [show uw .u8 x.toNat = .int .u8 (x.toNat : Int) from uw_byte x] at t5
      (repeat (first | refine zS ?_ | refine zK ?_ | refine zR ?_ | refine zD ?_ | refine zB ?_ | refine zI ?_ | refine zJ ?_ | refine zP ?_ | refine zE ?_ | refine zG ?_ | refine zF ?_ | refine zH (by decide) ?_ | refine zQ ?_ | ((first | refine zC ?_ | refine zM ?_ | refine zO rfl rfl ?_ | refine zN rfl ?_ | refine zL ?_); simp only [yq183.down, zA, lemS.down, lemC.down, Int.reduceBEq, Nat.reduceAdd, Nat.reduceLeDiff, reduceIte, Nat.reduceEqDiff, Int.reduceLT, Int.reduceLE, Int.reduceGT, Int.reduceGE, Int.reduceEq, Int.reduceAdd, Int.reduceSub, Int.reduceMul, reduceCtorEq, lemH.down, lemW.down, t5])))
      refine ⟨.inr rfl, ?_, Grows.refl _⟩
      simp only [yq183.down, zA, lemS.down, lemC.down, Int.reduceBEq, Nat.reduceAdd, Nat.reduceLeDiff, reduceIte, Nat.reduceEqDiff, Int.reduceLT, Int.reduceLE, Int.reduceGT, Int.reduceGE, Int.reduceEq, Int.reduceAdd, Int.reduceSub, Int.reduceMul, reduceCtorEq]
      congr 1
      by_cases e : a = b
      · have hx0 := hz.2 ⟨rfl, e⟩
        rw [hx0, e]; simp
      · have : x ≠ 0 := fun e' => e (hz.1 e').2
        have : x.toNat ≠ 0 := fun e' => this (UInt8.toNat_inj.1 e')
        rw [show (a == b) = false by rw [beq_eq_false_iff_ne]; exact e, beq_eq_false_iff_ne]
        omega
def checkS : List Value → Option Value
  | [.string k, .string s, .string t] => if k.data.toList.length + 400 ≤ zX ∧ s.data.toList.length + 500 ≤ zX then some (.bool (mac k.data.toList s.data.toList == t.data.toList)) else none
  | _ => none
theorem check_ok (pr : Prog) (hs : pr.prim 183 = some (zY sameS)) (hp : pr.prim 216 = some (zY tagS)) (k s t : List UInt8) (hk : k.length + 400 ≤ zX) (hs5 : s.length + 500 ≤ zX) (h : Heap) : Comes pr xq222 [.string (strOf k), .string (strOf s), .string (strOf t)] h (.bool (mac k s == t)) := by
  apply Comes.of
  unfold xq222
  dsimp only [zh]
  (repeat (first | refine zS ?_ | refine zK ?_ | refine zR ?_ | refine zD ?_ | refine zB ?_ | refine zI ?_ | refine zJ ?_ | refine zP ?_ | refine zE ?_ | refine zG ?_ | refine zF ?_ | refine zH (by decide) ?_ | refine zQ ?_ | ((first | refine zC ?_ | refine zM ?_ | refine zO rfl rfl ?_ | refine zN rfl ?_ | refine zL ?_); simp only [yq222.down, zA, lemS.down, lemC.down, Int.reduceBEq, Nat.reduceAdd, Nat.reduceLeDiff, reduceIte, Nat.reduceEqDiff, Int.reduceLT, Int.reduceLE, Int.reduceGT, Int.reduceGE, Int.reduceEq, Int.reduceAdd, Int.reduceSub, Int.reduceMul, reduceCtorEq, zg hp (tagS_at hk hs5), zg hs (sameS_at (show (mac k s).length ≤ zX by rw [mac_len]; decide))])))
  exact ⟨.inr rfl, by simp only [yq222.down, zA, lemS.down, lemC.down, Int.reduceBEq, Nat.reduceAdd, Nat.reduceLeDiff, reduceIte, Nat.reduceEqDiff, Int.reduceLT, Int.reduceLE, Int.reduceGT, Int.reduceGE, Int.reduceEq, Int.reduceAdd, Int.reduceSub, Int.reduceMul, reduceCtorEq], Grows.refl h⟩
end Go.X
end
