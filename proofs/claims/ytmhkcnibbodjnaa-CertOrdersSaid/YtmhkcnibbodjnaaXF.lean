/- The digest: what is written and what is summed. -/
import Derived.Test.YtmhkcnibbodjnaaXE
set_option linter.unusedSimpArgs false
set_option linter.unusedVariables false
set_option maxHeartbeats 2000000
section
open Go Go.X
namespace Go.X
set_option linter.unusedVariables false
def zj (hs : List Nat) (v : Value) (n : Nat) : List Value := hs.map (uw .u32) ++ [v, uw .u64 n]
theorem zB0 {hs : List Nat} (h8 : hs.length = 8) {v : Value} {n : Nat} : (zj hs v n).length = 10 := by simp [zj, h8]
theorem zCI {hs : List Nat} (h8 : hs.length = 8) {v : Value} {n : Nat} : (zj hs v n)[8]? = some v := by
  unfold zj; rw [List.getElem?_append_right (by simp [h8])]; simp [h8]
theorem zF7 {hs : List Nat} (h8 : hs.length = 8) {v : Value} {n : Nat} : (zj hs v n)[9]? = some (uw .u64 n) := by
  unfold zj; rw [List.getElem?_append_right (by simp [h8])]; simp [h8]
theorem zD5 {hs : List Nat} (h8 : hs.length = 8) {v w : Value} {n : Nat} : (zj hs v n).set 8 w = zj hs w n := by
  unfold zj; rw [List.set_append_right _ _ (by simp [h8])]; simp [h8]
theorem zVQ {hs : List Nat} (h8 : hs.length = 8) {v : Value} {n m : Nat} : (zj hs v n).set 9 (uw .u64 m) = zj hs v m := by
  unfold zj; rw [List.set_append_right _ _ (by simp [h8])]; simp [h8]
def Dig (h : Heap) (N D : Nat) (hs : List Nat) (r : List UInt8) (n : Nat) : Prop :=
  hs.length = 8 ∧ N ≤ D ∧ ∃ v, Var h D (zj hs v n) ∧ Own h (fun A => N ≤ A ∧ A ≠ D) 1 v r.length (zV r)
theorem Dig.keep {W : Nat → Prop} {h h' : Heap} {N D n : Nat} {hs : List Nat} {r : List UInt8} (hd : Dig h N D hs r n) (hk : Keeps W h h') (hW : ∀ A, N ≤ A → ¬ W A) : Dig h' N D hs r n := by
  obtain ⟨h1, h2, v, h3, h4⟩ := hd
  exact ⟨h1, h2, v, h3.keep hk (hW D h2), h4.keep hk fun A hA => hW A hA.1⟩
theorem zDA : ∀ (i : Nat) {h : List Nat} {b : List UInt8}, h.length = 8 → (zl i h b).length = 8
  | 0, h, b, h8 => h8
  | i + 1, h, b, h8 => zDA i (by
      unfold Sha.block
      rw [show Sha.sched 64 (winB b) = Sha.ext (winB b) 48 from Sha.sched_ext 48 _ (zBW _)]
      have hw : (Sha.ext (winB b) 48).length = 64 := by rw [Sha.ext_len, winB, zBW]
      have hr : (Sha.rounds Sha.K (Sha.ext (winB b) 48) h).length = 8 := by rw [← zFG hw]; exact zDY hw h8 64 (by omega)
      rw [zIX _ _ (by rw [hr, h8]), h8])
theorem zIS (pr : Prog) (hb : pr.prim 103 = some (za zDu)) (hn : pr.prim 85 = none) (hc : pr.code 85 = some xq85) (h : Heap) :
    ∃ v h', cfi pr 85 [] h = some (v, h') ∧ v = .pointer (some ⟨h.next, 0, none⟩) ∧ Dig h' h.next h.next Sha.H0 [] 0 ∧ Grows h h' := by
  refine zAg hn hc rfl ?_
  unfold xq85
  dsimp only [zc]
  refine wpk.out (k := []) ?_
  (repeat (first | refine zS ?_ | refine zL ?_ | refine zR ?_ | refine zE ?_ | refine zC ?_ | refine zJ ?_ | refine zK ?_ | refine zP ?_ | refine zF ?_ | refine zH ?_ | refine zG ?_ | refine zI (by decide) ?_ | refine zQ ?_ | ((first | refine zD ?_ | refine zN ?_ | refine zT rfl rfl ?_ | refine zO rfl ?_ | refine zM ?_); simp only [yq85.down, zA, lemS.down, lemC.down, Int.reduceBEq, Nat.reduceAdd, Nat.reduceLeDiff, reduceIte, Nat.reduceEqDiff, Int.reduceLT, Int.reduceLE, Int.reduceGT, Int.reduceGE, Int.reduceEq, Int.reduceAdd, Int.reduceSub, Int.reduceMul, reduceCtorEq, zY, zX, lemH.down, zf hb (s := zDu) (args := []) rfl])))
  refine zEe (v := .agg (zj Sha.H0 (.slice none 0 0) 0).toArray) (by kernel_rfl) ?_
  dsimp only
  simp only [yq85.down, zA, lemS.down, lemC.down, Int.reduceBEq, Nat.reduceAdd, Nat.reduceLeDiff, reduceIte, Nat.reduceEqDiff, Int.reduceLT, Int.reduceLE, Int.reduceGT, Int.reduceGE, Int.reduceEq, Int.reduceAdd, Int.reduceSub, Int.reduceMul, reduceCtorEq, zY, zX, lemH.down]
  (repeat (first | refine zS ?_ | refine zL ?_ | refine zR ?_ | refine zE ?_ | refine zC ?_ | refine zJ ?_ | refine zK ?_ | refine zP ?_ | refine zF ?_ | refine zH ?_ | refine zG ?_ | refine zI (by decide) ?_ | refine zQ ?_ | ((first | refine zD ?_ | refine zN ?_ | refine zT rfl rfl ?_ | refine zO rfl ?_ | refine zM ?_); simp only [yq85.down, zA, lemS.down, lemC.down, Int.reduceBEq, Nat.reduceAdd, Nat.reduceLeDiff, reduceIte, Nat.reduceEqDiff, Int.reduceLT, Int.reduceLE, Int.reduceGT, Int.reduceGE, Int.reduceEq, Int.reduceAdd, Int.reduceSub, Int.reduceMul, reduceCtorEq, zY, zX, lemH.down])))
  exact ⟨.inr rfl, _, rfl, rfl, ⟨rfl, Nat.le_refl _, _, Var.new_self, Own.nil⟩, Grows.new⟩
theorem zIW (pr : Prog) (hp : pr.prim 118 = some (za zA9)) (hw : pr.prim 117 = some zBu) (hk : pr.prim 116 = some (za zCH)) (hb : pr.prim 104 = none) (hc : pr.code 104 = some zC8)
    (hn : pr.prim 86 = none) (hcw : pr.code 86 = some xq86) (h : Heap) (N D n : Nat) (hs : List Nat) (r s : List UInt8) (hd : Dig h N D hs r n) (hroom : r.length + s.length ≤ zU) :
    ∃ v h', cfi pr 86 [.pointer (some ⟨D, 0, none⟩), .string (zB s)] h = some (v, h') ∧ v = .tuple #[] ∧ Dig h' N D (zl ((r ++ s).length / 64) hs (r ++ s)) ((r ++ s).drop (64 * ((r ++ s).length / 64))) (n + s.length) ∧ Keeps (fun A => N ≤ A) h h' := by
  refine zAg hn hcw rfl ?_
  unfold xq86
  dsimp only [zc]
  refine wpk.out (k := []) ?_
  obtain ⟨h8, hND, v, hD, hO⟩ := hd
  have hlt : D < h.next := hD.1
  have i8 := fun (v : Value) (n : Nat) => zCI (v := v) (n := n) h8
  have i9 := fun (v : Value) (n : Nat) => zF7 (v := v) (n := n) h8
  have st9 := hD.store1 (i := 9) (v := uw .u64 (n + s.length)) (sp := none) (by rw [zB0 h8]; decide) rfl
  rw [zVQ h8] at st9
  have hD1 := hD.wr (m := zj hs v (n + s.length))
  have hO1 := hO.keep (Keeps.wr (A := D) (l := zj hs v (n + s.length))) (fun A hA => hA.2)
  have hk1 : Keeps (fun A => N ≤ A) h (h.wr D (zj hs v (n + s.length))) := Keeps.wr.mono fun A _ e => e ▸ hND
  have hn1 : (h.wr D (zj hs v (n + s.length))).next = h.next := rfl
  (repeat (first | refine zS ?_ | refine zL ?_ | refine zR ?_ | refine zE ?_ | refine zC ?_ | refine zJ ?_ | refine zK ?_ | refine zP ?_ | refine zF ?_ | refine zH ?_ | refine zG ?_ | refine zI (by decide) ?_ | refine zQ ?_ | ((first | refine zD ?_ | refine zN ?_ | refine zT rfl rfl ?_ | refine zO rfl ?_ | refine zM ?_); simp only [yq86.down, zA, lemS.down, lemC.down, Int.reduceBEq, Nat.reduceAdd, Nat.reduceLeDiff, reduceIte, Nat.reduceEqDiff, Int.reduceLT, Int.reduceLE, Int.reduceGT, Int.reduceGE, Int.reduceEq, Int.reduceAdd, Int.reduceSub, Int.reduceMul, reduceCtorEq, zY, zX, lemH.down, lemW.down, zB1, hD.load, i9, st9, zBU zC4])))
  obtain ⟨v2, h2, e2, hO2, k2⟩ := hO1.append (bytes := 1) (m := s.length) (new := zV s) (by simp [zBz]) zDx (by decide) (by decide) (by omega)
  have hD2 := hD1.keep k2 (fun e => e.2 rfl)
  rw [← zBy] at hO2
  have hO2 : Own h2 (fun A => N ≤ A ∧ A ≠ D) 1 v2 (r ++ s).length (zV (r ++ s)) := by
    rw [List.length_append]; exact hO2.mono fun A hA => by
      rcases hA with hA | hA
      · exact hA
      · rw [hn1] at hA; exact ⟨by omega, by omega⟩
  have hk2 := hk1.trans k2 (fun A _ e => e.1)
  have st8 := hO2.store (i := 8) hD2 (by rw [zB0 h8]; decide)
  rw [zD5 h8] at st8
  simp only [yq86.down, zA, lemS.down, lemC.down, Int.reduceBEq, Nat.reduceAdd, Nat.reduceLeDiff, reduceIte, Nat.reduceEqDiff, Int.reduceLT, Int.reduceLE, Int.reduceGT, Int.reduceGE, Int.reduceEq, Int.reduceAdd, Int.reduceSub, Int.reduceMul, reduceCtorEq, zY, zX, lemH.down, hD1.load, i8, e2, st8]
  have hD3 := hD2.wr (m := zj hs v2 (n + s.length))
  have hO3 := hO2.keep (Keeps.wr (A := D) (l := zj hs v2 (n + s.length))) (fun A hA => hA.2)
  have hk3 := hk2.trans (Keeps.wr (A := D) (l := zj hs v2 (n + s.length))) (fun A _ e => e ▸ hND)
  generalize h2.wr D (zj hs v2 (n + s.length)) = h3 at *
  clear hD2 hO2 hk2 st8 k2 e2 hD1 hO1 hk1 st9 hD hO
  generalize hb0 : r ++ s = b at *
  generalize n + s.length = n' at *
  (repeat (first | refine zS ?_ | refine zL ?_ | refine zR ?_ | refine zE ?_ | refine zC ?_ | refine zJ ?_ | refine zK ?_ | refine zP ?_ | refine zF ?_ | refine zH ?_ | refine zG ?_ | refine zI (by decide) ?_ | refine zQ ?_ | ((first | refine zD ?_ | refine zN ?_ | refine zT rfl rfl ?_ | refine zO rfl ?_ | refine zM ?_); simp only [yq86.down, zA, lemS.down, lemC.down, Int.reduceBEq, Nat.reduceAdd, Nat.reduceLeDiff, reduceIte, Nat.reduceEqDiff, Int.reduceLT, Int.reduceLE, Int.reduceGT, Int.reduceGE, Int.reduceEq, Int.reduceAdd, Int.reduceSub, Int.reduceMul, reduceCtorEq, zY, zX, lemH.down])))
  refine zo (fun m t g => ∃ i v, m = b.length - 64 * i ∧ 64 * i ≤ b.length ∧ (zl i hs b).length = 8 ∧ Var g D (zj (zl i hs b) v n') ∧ Own g (fun A => N ≤ A ∧ A ≠ D) 1 v (b.drop (64 * i)).length (zV (b.drop (64 * i))) ∧ Keeps (fun A => N ≤ A) h g ∧ t.get 0 = .pointer (some ⟨D, 0, none⟩)) ?_ b.length _ _ ⟨0, v2, rfl, by omega, h8, hD3, hO3, hk3, by simp only [yq86.down, zA, lemS.down, lemC.down, Int.reduceBEq, Nat.reduceAdd, Nat.reduceLeDiff, reduceIte, Nat.reduceEqDiff, Int.reduceLT, Int.reduceLE, Int.reduceGT, Int.reduceGE, Int.reduceEq, Int.reduceAdd, Int.reduceSub, Int.reduceMul, reduceCtorEq]⟩
  rintro m t g ⟨i, v, rfl, hi, g8, gD, gO, gk, t0⟩ hnext
  refine xq86_6k ?_
  dsimp only [zIE]
  have i8 := fun (v : Value) (n : Nat) => zCI (v := v) (n := n) g8
  (repeat (first | refine zS ?_ | refine zL ?_ | refine zR ?_ | refine zE ?_ | refine zC ?_ | refine zJ ?_ | refine zK ?_ | refine zP ?_ | refine zF ?_ | refine zH ?_ | refine zG ?_ | refine zI (by decide) ?_ | refine zQ ?_ | ((first | refine zD ?_ | refine zN ?_ | refine zT rfl rfl ?_ | refine zO rfl ?_ | refine zM ?_); simp only [yq86.down, zA, lemS.down, lemC.down, Int.reduceBEq, Nat.reduceAdd, Nat.reduceLeDiff, reduceIte, Nat.reduceEqDiff, Int.reduceLT, Int.reduceLE, Int.reduceGT, Int.reduceGE, Int.reduceEq, Int.reduceAdd, Int.reduceSub, Int.reduceMul, reduceCtorEq, zY, zX, lemH.down, t0, gD.load, i8, gO.lenV])))
  refine ⟨fun hlt => ?_, fun hge => ?_⟩
  · have hlt' : 64 ≤ (b.drop (64 * i)).length := by omega
    obtain ⟨v3, e3, o3⟩ := gO.to (j := 64) (k := .i64) hlt'
    have e3' : zAs 1 v none (some (.int .i64 64)) none = some v3 := e3
    (repeat (first | refine zS ?_ | refine zL ?_ | refine zR ?_ | refine zE ?_ | refine zC ?_ | refine zJ ?_ | refine zK ?_ | refine zP ?_ | refine zF ?_ | refine zH ?_ | refine zG ?_ | refine zI (by decide) ?_ | refine zQ ?_ | ((first | refine zD ?_ | refine zN ?_ | refine zT rfl rfl ?_ | refine zO rfl ?_ | refine zM ?_); simp only [yq86.down, zA, lemS.down, lemC.down, Int.reduceBEq, Nat.reduceAdd, Nat.reduceLeDiff, reduceIte, Nat.reduceEqDiff, Int.reduceLT, Int.reduceLE, Int.reduceGT, Int.reduceGE, Int.reduceEq, Int.reduceAdd, Int.reduceSub, Int.reduceMul, reduceCtorEq, zY, zX, lemH.down, t0, gD.load, i8, e3'])))
    obtain ⟨a3, c3, rfl, s3⟩ := o3.shape
    obtain ⟨B, off, sp, rfl, ld3, _⟩ := s3 (by decide)
    rw [zDy] at ld3
    obtain ⟨_, g2, e4, rfl, gD4, k4⟩ := zIs pr hp hw hk hb hc g D c3 ⟨B, off, sp⟩ _ g8 [v, uw .u64 n'] rfl _ gD ld3
    rw [zHP (by decide), ← zEk] at gD4
    have g8' : (zl (i + 1) hs b).length = 8 := zDA _ h8
    have gO4 := gO.keep k4 (fun A hA => hA.2)
    have gk4 := gk.trans k4 (fun A _ e => e ▸ hND)
    obtain ⟨v5, e5, o5⟩ := gO4.from (j := 64) (k := .i64) hlt'
    have e5' : zAs 1 v (some (.int .i64 64)) none none = some v5 := e5
    have j8 := zCI (v := v) (n := n') g8'
    have gD4' : Var g2 D (zj (zl (i + 1) hs b) v n') := gD4
    rw [zEp, List.drop_drop, show 64 * i + 64 * 1 = 64 * (i + 1) by omega] at o5
    have o5 : Own g2 (fun A => N ≤ A ∧ A ≠ D) 1 v5 (b.drop (64 * (i + 1))).length (zV (b.drop (64 * (i + 1)))) := by
      rw [show (b.drop (64 * (i + 1))).length = (b.drop (64 * i)).length - 64 by simp; omega]; exact o5
    have st8 := o5.store (i := 8) gD4' (by rw [zB0 g8']; decide)
    rw [zD5 g8'] at st8
    simp only [yq86.down, zA, lemS.down, lemC.down, Int.reduceBEq, Nat.reduceAdd, Nat.reduceLeDiff, reduceIte, Nat.reduceEqDiff, Int.reduceLT, Int.reduceLE, Int.reduceGT, Int.reduceGE, Int.reduceEq, Int.reduceAdd, Int.reduceSub, Int.reduceMul, reduceCtorEq, zY, zX, lemH.down, e4]
    (repeat (first | refine zS ?_ | refine zL ?_ | refine zR ?_ | refine zE ?_ | refine zC ?_ | refine zJ ?_ | refine zK ?_ | refine zP ?_ | refine zF ?_ | refine zH ?_ | refine zG ?_ | refine zI (by decide) ?_ | refine zQ ?_ | ((first | refine zD ?_ | refine zN ?_ | refine zT rfl rfl ?_ | refine zO rfl ?_ | refine zM ?_); simp only [yq86.down, zA, lemS.down, lemC.down, Int.reduceBEq, Nat.reduceAdd, Nat.reduceLeDiff, reduceIte, Nat.reduceEqDiff, Int.reduceLT, Int.reduceLE, Int.reduceGT, Int.reduceGE, Int.reduceEq, Int.reduceAdd, Int.reduceSub, Int.reduceMul, reduceCtorEq, zY, zX, lemH.down, t0, gD4'.load, j8, e5', st8])))
    rw [List.length_drop] at hlt'
    refine hnext (b.length - 64 * (i + 1)) _ _ (by omega) ⟨i + 1, v5, rfl, by omega, g8', gD4'.wr, o5.keep Keeps.wr (fun A hA => hA.2), gk4.trans Keeps.wr (fun A _ e => e ▸ hND), by simp only [yq86.down, zA, lemS.down, lemC.down, Int.reduceBEq, Nat.reduceAdd, Nat.reduceLeDiff, reduceIte, Nat.reduceEqDiff, Int.reduceLT, Int.reduceLE, Int.reduceGT, Int.reduceGE, Int.reduceEq, Int.reduceAdd, Int.reduceSub, Int.reduceMul, reduceCtorEq, t0]⟩
  · (repeat (first | refine zS ?_ | refine zL ?_ | refine zR ?_ | refine zE ?_ | refine zC ?_ | refine zJ ?_ | refine zK ?_ | refine zP ?_ | refine zF ?_ | refine zH ?_ | refine zG ?_ | refine zI (by decide) ?_ | refine zQ ?_ | ((first | refine zD ?_ | refine zN ?_ | refine zT rfl rfl ?_ | refine zO rfl ?_ | refine zM ?_); simp only [yq86.down, zA, lemS.down, lemC.down, Int.reduceBEq, Nat.reduceAdd, Nat.reduceLeDiff, reduceIte, Nat.reduceEqDiff, Int.reduceLT, Int.reduceLE, Int.reduceGT, Int.reduceGE, Int.reduceEq, Int.reduceAdd, Int.reduceSub, Int.reduceMul, reduceCtorEq, zY, zX, lemH.down, t0])))
    have hd : b.length / 64 = i := by rw [List.length_drop] at hge; omega
    refine ⟨.inl rfl, _, rfl, rfl, ⟨by rw [hd]; exact g8, hND, v, by rw [hd]; exact gD, by rw [hd]; exact gO⟩, gk⟩
end Go.X
end
section
open Go Go.X
namespace Go.X
set_option linter.unusedVariables false
theorem fill_dig {hs : List Nat} (h8 : hs.length = 8) {n : Nat} {z : Value} : zt [z, z, z, z, z, z, z, z, .slice none 0 0, .int .u64 0] [(0, 8, .agg (hs.map (uw .u32)).toArray), (9, 1, uw .u64 n)] = some (zj hs (.slice none 0 0) n) := by
  obtain ⟨a, b, c, d, e, f, g, i, rfl⟩ := len8 h8
  simp [zt, zI2, zD1, putN, zj]
theorem Dig.push {g : Heap} {N D n : Nat} {hs : List Nat} {q : List UInt8} (hd : Dig g N D hs q n) (x : Nat) (hroom : q.length + 1 ≤ zU) :
    ∃ v v' g2, Var g D (zj hs v n) ∧ Var (g.new [uw .u8 x]) D (zj hs v n) ∧ zAp (g.new [uw .u8 x]) 1 1 v (.slice (some ⟨g.next, 0, none⟩) 1 1) = some (v', g2) ∧
      zu g2 1 (.pointer (some ⟨D, 8, none⟩)) v' = some (.tuple #[], g2.wr D (zj hs v' n)) ∧ Dig (g2.wr D (zj hs v' n)) N D hs (q ++ [UInt8.ofNat x]) n ∧ Keeps (fun A => N ≤ A) g (g2.wr D (zj hs v' n)) := by
  obtain ⟨h8, hND, v, hD, hO⟩ := hd
  have hlt : D < g.next := hD.1
  have hD1 := hD.new_old (m := [uw .u8 x])
  have hO1 := hO.grow (Grows.new (l := [uw .u8 x]))
  have hk1 : Keeps (fun A => N ≤ A) g (g.new [uw .u8 x]) := Keeps.new
  have hs1 := (Var.new_self (h := g) (l := [uw .u8 x])).src (n := 1) (esz := 1) (bytes := 1) (s := v) (sp := none) (c := 1) rfl (by decide)
  have hn1 : (g.new [uw .u8 x]).next = g.next + 1 := rfl
  obtain ⟨v', g2, e2, hO2, k2⟩ := hO1.append (bytes := 1) (m := 1) (new := [uw .u8 x]) rfl rfl (by decide) (by decide) (by omega)
  have hD2 := hD1.keep k2 (fun e => e.2 rfl)
  rw [← zBX, ← zBy] at hO2
  have hO2 : Own g2 (fun A => N ≤ A ∧ A ≠ D) 1 v' (q ++ [UInt8.ofNat x]).length (zV (q ++ [UInt8.ofNat x])) := by
    rw [List.length_append]; exact hO2.mono fun A hA => by
      rcases hA with hA | hA
      · exact hA
      · rw [zBX, hn1] at hA; exact ⟨by omega, by omega⟩
  have st8 := hO2.store (i := 8) hD2 (by rw [zB0 h8]; decide)
  rw [zD5 h8] at st8
  refine ⟨v, v', g2, hD, hD1, by rw [hs1, e2], st8, ⟨h8, hND, v', hD2.wr, hO2.keep Keeps.wr (fun A hA => hA.2)⟩, (hk1.trans k2 (fun A _ e => e.1)).trans Keeps.wr (fun A _ e => e ▸ hND)⟩
theorem sum1_ok (pr : Prog) (k : List KI) (Q : XE → Fr → Heap → Prop) (h g : Heap) (O n : Nat) (hs : List Nat) (r : List UInt8) (hroom : r.length + 200 ≤ zU) (hd : Dig g O O hs (r ++ [128]) n) (hk : Keeps (fun A => O ≤ A) h g)
    (hQ : ∀ t' g', Dig g' O O hs (r ++ [128] ++ List.replicate (zAB r.length) 0) n → Keeps (fun A => O ≤ A) h g' → t'.get 3 = .pointer (some ⟨O, 0, none⟩) → extk pr k 0 Q t' g') (t : Fr) (t3 : t.get 3 = .pointer (some ⟨O, 0, none⟩)) :
    wpk pr (.loop zIN) k Q t g := by
  refine zo (fun m t g => ∃ j, m = zAB r.length - j ∧ j ≤ zAB r.length ∧ Dig g O O hs (r ++ [128] ++ List.replicate j 0) n ∧ Keeps (fun A => O ≤ A) h g ∧ t.get 3 = .pointer (some ⟨O, 0, none⟩)) ?_ (zAB r.length) _ _ ⟨0, rfl, by omega, by simpa using hd, hk, t3⟩
  rintro m t g ⟨j, rfl, hj, gd, gk, t3⟩ hnext
  refine xq87_7k ?_
  dsimp only [zIO]
  have hlen : (r ++ [128] ++ List.replicate j (0 : UInt8)).length = r.length + 1 + j := by simp; omega
  have hz : zAB r.length < 64 := Nat.mod_lt _ (by decide)
  obtain ⟨v, v', g2, gD, gD1, e1, e2, gd', gk'⟩ := gd.push 0 (by rw [hlen]; omega)
  rw [show uw .u8 0 = .int .u8 0 from rfl] at gD1 e1
  have h8 := gd.1
  obtain ⟨_, _, v0, gD0, gO⟩ := id gd
  have i8 := fun (v : Value) (n : Nat) => zCI (v := v) (n := n) h8
  obtain rfl : v = v0 := by
    have a := gD.load (i := 8) (sp := none)
    rw [gD0.load (i := 8) (sp := none), i8, i8] at a
    exact (Option.some.inj a).symm
  have e40 : binX .rem (.int .i64 (((r ++ [128] ++ List.replicate j (0 : UInt8)).length : Nat) : Int)) (.int .i64 64) = some (.int .i64 (((r.length + 1 + j) % 64 : Nat) : Int)) := by
    rw [hlen]; exact zEQ (by decide)
  (repeat (first | refine zS ?_ | refine zL ?_ | refine zR ?_ | refine zE ?_ | refine zC ?_ | refine zJ ?_ | refine zK ?_ | refine zP ?_ | refine zF ?_ | refine zH ?_ | refine zG ?_ | refine zI (by decide) ?_ | refine zQ ?_ | ((first | refine zD ?_ | refine zN ?_ | refine zT rfl rfl ?_ | refine zO rfl ?_ | refine zM ?_); simp only [yq87.down, zA, lemS.down, lemC.down, Int.reduceBEq, Nat.reduceAdd, Nat.reduceLeDiff, reduceIte, Nat.reduceEqDiff, Int.reduceLT, Int.reduceLE, Int.reduceGT, Int.reduceGE, Int.reduceEq, Int.reduceAdd, Int.reduceSub, Int.reduceMul, reduceCtorEq, zY, zX, lemH.down, lemW.down, t3, gD.load, i8, gO.lenV, e40])))
  refine ⟨fun hlt => ?_, fun hge => ?_⟩
  · (repeat (first | refine zS ?_ | refine zL ?_ | refine zR ?_ | refine zE ?_ | refine zC ?_ | refine zJ ?_ | refine zK ?_ | refine zP ?_ | refine zF ?_ | refine zH ?_ | refine zG ?_ | refine zI (by decide) ?_ | refine zQ ?_ | ((first | refine zD ?_ | refine zN ?_ | refine zT rfl rfl ?_ | refine zO rfl ?_ | refine zM ?_); simp only [yq87.down, zA, lemS.down, lemC.down, Int.reduceBEq, Nat.reduceAdd, Nat.reduceLeDiff, reduceIte, Nat.reduceEqDiff, Int.reduceLT, Int.reduceLE, Int.reduceGT, Int.reduceGE, Int.reduceEq, Int.reduceAdd, Int.reduceSub, Int.reduceMul, reduceCtorEq, zY, zX, lemH.down, lemW.down, t3, gD.load, i8, e1, e2])))
    have hj' : j < zAB r.length := by
      unfold zAB at *; omega
    refine hnext (zAB r.length - (j + 1)) _ _ (by omega) ⟨j + 1, rfl, by omega, ?_, gk.trans gk' (fun A _ e => e), by simp only [yq87.down, zA, lemS.down, lemC.down, Int.reduceBEq, Nat.reduceAdd, Nat.reduceLeDiff, reduceIte, Nat.reduceEqDiff, Int.reduceLT, Int.reduceLE, Int.reduceGT, Int.reduceGE, Int.reduceEq, Int.reduceAdd, Int.reduceSub, Int.reduceMul, reduceCtorEq, t3]⟩
    rw [List.append_assoc] at gd'
    rw [List.replicate_succ']
    exact gd'
  · (repeat (first | refine zS ?_ | refine zL ?_ | refine zR ?_ | refine zE ?_ | refine zC ?_ | refine zJ ?_ | refine zK ?_ | refine zP ?_ | refine zF ?_ | refine zH ?_ | refine zG ?_ | refine zI (by decide) ?_ | refine zQ ?_ | ((first | refine zD ?_ | refine zN ?_ | refine zT rfl rfl ?_ | refine zO rfl ?_ | refine zM ?_); simp only [yq87.down, zA, lemS.down, lemC.down, Int.reduceBEq, Nat.reduceAdd, Nat.reduceLeDiff, reduceIte, Nat.reduceEqDiff, Int.reduceLT, Int.reduceLE, Int.reduceGT, Int.reduceGE, Int.reduceEq, Int.reduceAdd, Int.reduceSub, Int.reduceMul, reduceCtorEq, zY, zX, lemH.down, lemW.down])))
    obtain rfl : j = zAB r.length := by
      unfold zAB at *; omega
    exact hQ _ _ gd gk (by simp only [yq87.down, zA, lemS.down, lemC.down, Int.reduceBEq, Nat.reduceAdd, Nat.reduceLeDiff, reduceIte, Nat.reduceEqDiff, Int.reduceLT, Int.reduceLE, Int.reduceGT, Int.reduceGE, Int.reduceEq, Int.reduceAdd, Int.reduceSub, Int.reduceMul, reduceCtorEq, t3])
theorem sum2_ok (pr : Prog) (k : List KI) (Q : XE → Fr → Heap → Prop) (h g : Heap) (O n : Nat) (hs : List Nat) (p : List UInt8) (hroom : p.length + 100 ≤ zU) (hd : Dig g O O hs p n) (hk : Keeps (fun A => O ≤ A) h g)
    (hQ : ∀ t' g', Dig g' O O hs (p ++ lenB (n * 8)) n → Keeps (fun A => O ≤ A) h g' → t'.get 3 = .pointer (some ⟨O, 0, none⟩) → extk pr k 2 Q t' g') (t : Fr) (t3 : t.get 3 = .pointer (some ⟨O, 0, none⟩)) (t51 : t.get 51 = .int .i64 0) :
    wpk pr (.loop zIF) k Q t g := by
  have hlb : ∀ j, j ≤ 8 → ((lenB (n * 8)).take j).length = j := fun j hj => by rw [List.length_take, zBl]; omega
  refine zo (fun m t g => ∃ j, m = 8 - j ∧ j ≤ 8 ∧ Dig g O O hs (p ++ (lenB (n * 8)).take j) n ∧ Keeps (fun A => O ≤ A) h g ∧ t.get 3 = .pointer (some ⟨O, 0, none⟩) ∧ t.get 51 = .int .i64 (j : Int)) ?_ 8 _ _ ⟨0, rfl, by omega, by simpa using hd, hk, t3, t51⟩
  rintro m t g ⟨j, rfl, hj, gd, gk, t3, t51⟩ hnext
  refine xq87_13k ?_
  dsimp only [zIG]
  (repeat (first | refine zS ?_ | refine zL ?_ | refine zR ?_ | refine zE ?_ | refine zC ?_ | refine zJ ?_ | refine zK ?_ | refine zP ?_ | refine zF ?_ | refine zH ?_ | refine zG ?_ | refine zI (by decide) ?_ | refine zQ ?_ | ((first | refine zD ?_ | refine zN ?_ | refine zT rfl rfl ?_ | refine zO rfl ?_ | refine zM ?_); simp only [yq87.down, zA, lemS.down, lemC.down, Int.reduceBEq, Nat.reduceAdd, Nat.reduceLeDiff, reduceIte, Nat.reduceEqDiff, Int.reduceLT, Int.reduceLE, Int.reduceGT, Int.reduceGE, Int.reduceEq, Int.reduceAdd, Int.reduceSub, Int.reduceMul, reduceCtorEq, zY, zX, lemH.down, lemW.down, t3, t51])))
  refine ⟨fun hlt => ?_, fun hge => ?_⟩
  · have hj' : j < 8 := by omega
    obtain ⟨v, v', g2, gD, gD1, e1, e2, gd', gk'⟩ := gd.push (((n * 8) % 18446744073709551616) >>> (8 * (7 - j))) (by rw [List.length_append, hlb j hj]; omega)
    have h8 := gd.1
    have i8 := fun (v : Value) (n : Nat) => zCI (v := v) (n := n) h8
    have i9 := fun (v : Value) (n : Nat) => zF7 (v := v) (n := n) h8
    have w7 : IntKind.i64.wrap (7 - (j : Int)) = ((7 - j : Nat) : Int) := by rw [wrap_i64 (by omega) (by omega)]; omega
    have w8 : IntKind.i64.wrap (8 * ((7 - j : Nat) : Int)) = ((8 * (7 - j) : Nat) : Int) := by rw [wrap_i64 (by omega) (by omega)]; omega
    have ww : IntKind.i64.wrap ((j : Int) + 1) = ((j + 1 : Nat) : Int) := by rw [wrap_i64 (by omega) (by omega)]; omega
    have u8 : Value.int .u64 8 = uw .u64 8 := rfl
    have sh := fun x => zG3 (k' := .i64) (x := x) (n := 8 * (7 - j)) (by omega)
    (repeat (first | refine zS ?_ | refine zL ?_ | refine zR ?_ | refine zE ?_ | refine zC ?_ | refine zJ ?_ | refine zK ?_ | refine zP ?_ | refine zF ?_ | refine zH ?_ | refine zG ?_ | refine zI (by decide) ?_ | refine zQ ?_ | ((first | refine zD ?_ | refine zN ?_ | refine zT rfl rfl ?_ | refine zO rfl ?_ | refine zM ?_); simp only [yq87.down, zA, lemS.down, lemC.down, Int.reduceBEq, Nat.reduceAdd, Nat.reduceLeDiff, reduceIte, Nat.reduceEqDiff, Int.reduceLT, Int.reduceLE, Int.reduceGT, Int.reduceGE, Int.reduceEq, Int.reduceAdd, Int.reduceSub, Int.reduceMul, reduceCtorEq, zY, zX, lemH.down, lemW.down, t3, t51, gD.load, gD1.load, i8, i9, w7, w8, u8, sh, e1, e2])))
    refine ⟨⟨?_, ?_⟩, ?_⟩
    · (refine zAa rfl rfl rfl ?_ ?_ <;> simp only [yq87.down, zA, lemS.down, lemC.down, Int.reduceBEq, Nat.reduceAdd, Nat.reduceLeDiff, reduceIte, Nat.reduceEqDiff, Int.reduceLT, Int.reduceLE, Int.reduceGT, Int.reduceGE, Int.reduceEq, Int.reduceAdd, Int.reduceSub, Int.reduceMul, reduceCtorEq, t3, gD.load, gD1.load, i8, i9, zAH, zAE, zAI, zAF, zAD, Option.isSome_some])
    · (refine zAa rfl rfl rfl ?_ ?_ <;> simp only [yq87.down, zA, lemS.down, lemC.down, Int.reduceBEq, Nat.reduceAdd, Nat.reduceLeDiff, reduceIte, Nat.reduceEqDiff, Int.reduceLT, Int.reduceLE, Int.reduceGT, Int.reduceGE, Int.reduceEq, Int.reduceAdd, Int.reduceSub, Int.reduceMul, reduceCtorEq, t3, gD.load, gD1.load, i8, i9, zAH, zAE, zAI, zAF, zAD, Option.isSome_some])
    (repeat (first | refine zS ?_ | refine zL ?_ | refine zR ?_ | refine zE ?_ | refine zC ?_ | refine zJ ?_ | refine zK ?_ | refine zP ?_ | refine zF ?_ | refine zH ?_ | refine zG ?_ | refine zI (by decide) ?_ | refine zQ ?_ | ((first | refine zD ?_ | refine zN ?_ | refine zT rfl rfl ?_ | refine zO rfl ?_ | refine zM ?_); simp only [yq87.down, zA, lemS.down, lemC.down, Int.reduceBEq, Nat.reduceAdd, Nat.reduceLeDiff, reduceIte, Nat.reduceEqDiff, Int.reduceLT, Int.reduceLE, Int.reduceGT, Int.reduceGE, Int.reduceEq, Int.reduceAdd, Int.reduceSub, Int.reduceMul, reduceCtorEq, zY, zX, lemH.down, lemW.down, t3, t51, ww])))
    refine hnext (8 - (j + 1)) _ _ (by omega) ⟨j + 1, rfl, by omega, ?_, gk.trans gk' (fun A _ e => e), by simp only [yq87.down, zA, lemS.down, lemC.down, Int.reduceBEq, Nat.reduceAdd, Nat.reduceLeDiff, reduceIte, Nat.reduceEqDiff, Int.reduceLT, Int.reduceLE, Int.reduceGT, Int.reduceGE, Int.reduceEq, Int.reduceAdd, Int.reduceSub, Int.reduceMul, reduceCtorEq, t3], by simp only [yq87.down, zA, lemS.down, lemC.down, Int.reduceBEq, Nat.reduceAdd, Nat.reduceLeDiff, reduceIte, Nat.reduceEqDiff, Int.reduceLT, Int.reduceLE, Int.reduceGT, Int.reduceGE, Int.reduceEq, Int.reduceAdd, Int.reduceSub, Int.reduceMul, reduceCtorEq]⟩
    rw [List.take_succ_eq_append_getElem (by rw [zBl]; exact hj'), ← List.append_assoc]
    have : (lenB (n * 8))[j]'(by rw [zBl]; exact hj') = UInt8.ofNat (((n * 8) % 18446744073709551616) >>> (8 * (7 - j))) := by simp [lenB]
    rw [this]
    exact gd'
  · (repeat (first | refine zS ?_ | refine zL ?_ | refine zR ?_ | refine zE ?_ | refine zC ?_ | refine zJ ?_ | refine zK ?_ | refine zP ?_ | refine zF ?_ | refine zH ?_ | refine zG ?_ | refine zI (by decide) ?_ | refine zQ ?_ | ((first | refine zD ?_ | refine zN ?_ | refine zT rfl rfl ?_ | refine zO rfl ?_ | refine zM ?_); simp only [yq87.down, zA, lemS.down, lemC.down, Int.reduceBEq, Nat.reduceAdd, Nat.reduceLeDiff, reduceIte, Nat.reduceEqDiff, Int.reduceLT, Int.reduceLE, Int.reduceGT, Int.reduceGE, Int.reduceEq, Int.reduceAdd, Int.reduceSub, Int.reduceMul, reduceCtorEq, zY, zX, lemH.down, lemW.down, t3])))
    obtain rfl : j = 8 := by omega
    rw [List.take_of_length_le (by rw [zBl]; decide)] at gd
    exact hQ _ _ gd gk (by simp only [yq87.down, zA, lemS.down, lemC.down, Int.reduceBEq, Nat.reduceAdd, Nat.reduceLeDiff, reduceIte, Nat.reduceEqDiff, Int.reduceLT, Int.reduceLE, Int.reduceGT, Int.reduceGE, Int.reduceEq, Int.reduceAdd, Int.reduceSub, Int.reduceMul, reduceCtorEq, t3])
theorem sum3_ok (pr : Prog) (hp : pr.prim 118 = some (za zA9)) (hw : pr.prim 117 = some zBu) (hk : pr.prim 116 = some (za zCH)) (hb : pr.prim 104 = none) (hc : pr.code 104 = some zC8)
    (k : List KI) (Q : XE → Fr → Heap → Prop) (h g : Heap) (O n : Nat) (hs : List Nat) (b : List UInt8) (hb64 : b.length = 64 * (b.length / 64)) (hd : Dig g O O hs b n) (hk : Keeps (fun A => O ≤ A) h g)
    (hQ : ∀ t' g', Dig g' O O (zl (b.length / 64) hs b) [] n → Keeps (fun A => O ≤ A) h g' → t'.get 3 = .pointer (some ⟨O, 0, none⟩) → extk pr k 4 Q t' g') (t : Fr) (t3 : t.get 3 = .pointer (some ⟨O, 0, none⟩)) :
    wpk pr (.loop zIH) k Q t g := by
  have h8 := hd.1
  refine zo (fun m t g => ∃ i, m = b.length - 64 * i ∧ 64 * i ≤ b.length ∧ Dig g O O (zl i hs b) (b.drop (64 * i)) n ∧ Keeps (fun A => O ≤ A) h g ∧ t.get 3 = .pointer (some ⟨O, 0, none⟩)) ?_ b.length _ _ ⟨0, rfl, by omega, hd, hk, t3⟩
  rintro m t g ⟨i, rfl, hi, gd, gk, t3⟩ hnext
  refine xq87_17k ?_
  dsimp only [zII]
  obtain ⟨g8, gND, v, gD, gO⟩ := id gd
  have i8 := fun (v : Value) (n : Nat) => zCI (v := v) (n := n) g8
  (repeat (first | refine zS ?_ | refine zL ?_ | refine zR ?_ | refine zE ?_ | refine zC ?_ | refine zJ ?_ | refine zK ?_ | refine zP ?_ | refine zF ?_ | refine zH ?_ | refine zG ?_ | refine zI (by decide) ?_ | refine zQ ?_ | ((first | refine zD ?_ | refine zN ?_ | refine zT rfl rfl ?_ | refine zO rfl ?_ | refine zM ?_); simp only [yq87.down, zA, lemS.down, lemC.down, Int.reduceBEq, Nat.reduceAdd, Nat.reduceLeDiff, reduceIte, Nat.reduceEqDiff, Int.reduceLT, Int.reduceLE, Int.reduceGT, Int.reduceGE, Int.reduceEq, Int.reduceAdd, Int.reduceSub, Int.reduceMul, reduceCtorEq, zY, zX, lemH.down, t3, gD.load, i8, gO.lenV])))
  refine ⟨fun hlt => ?_, fun hge => ?_⟩
  · have hlt' : 64 ≤ (b.drop (64 * i)).length := by rw [List.length_drop] at *; omega
    obtain ⟨v3, e3, o3⟩ := gO.to (j := 64) (k := .i64) hlt'
    have e3' : zAs 1 v none (some (.int .i64 64)) none = some v3 := e3
    (repeat (first | refine zS ?_ | refine zL ?_ | refine zR ?_ | refine zE ?_ | refine zC ?_ | refine zJ ?_ | refine zK ?_ | refine zP ?_ | refine zF ?_ | refine zH ?_ | refine zG ?_ | refine zI (by decide) ?_ | refine zQ ?_ | ((first | refine zD ?_ | refine zN ?_ | refine zT rfl rfl ?_ | refine zO rfl ?_ | refine zM ?_); simp only [yq87.down, zA, lemS.down, lemC.down, Int.reduceBEq, Nat.reduceAdd, Nat.reduceLeDiff, reduceIte, Nat.reduceEqDiff, Int.reduceLT, Int.reduceLE, Int.reduceGT, Int.reduceGE, Int.reduceEq, Int.reduceAdd, Int.reduceSub, Int.reduceMul, reduceCtorEq, zY, zX, lemH.down, t3, gD.load, i8, e3'])))
    obtain ⟨a3, c3, rfl, s3⟩ := o3.shape
    obtain ⟨B, off, sp, rfl, ld3, _⟩ := s3 (by decide)
    rw [zDy] at ld3
    obtain ⟨_, g2, e4, rfl, gD4, k4⟩ := zIs pr hp hw ‹_› hb hc g O c3 ⟨B, off, sp⟩ _ g8 [v, uw .u64 n] rfl _ gD ld3
    rw [zHP (by decide), ← zEk] at gD4
    have g8' : (zl (i + 1) hs b).length = 8 := zDA _ h8
    have gO4 := gO.keep k4 (fun A hA => hA.2)
    have gk4 := gk.trans k4 (fun A _ e => Nat.le_of_eq e.symm)
    obtain ⟨v5, e5, o5⟩ := gO4.from (j := 64) (k := .i64) hlt'
    have e5' : zAs 1 v (some (.int .i64 64)) none none = some v5 := e5
    have j8 := zCI (v := v) (n := n) g8'
    have gD4' : Var g2 O (zj (zl (i + 1) hs b) v n) := gD4
    rw [zEp, List.drop_drop, show 64 * i + 64 * 1 = 64 * (i + 1) by omega] at o5
    have o5 : Own g2 (fun A => O ≤ A ∧ A ≠ O) 1 v5 (b.drop (64 * (i + 1))).length (zV (b.drop (64 * (i + 1)))) := by
      rw [show (b.drop (64 * (i + 1))).length = (b.drop (64 * i)).length - 64 by simp; omega]; exact o5
    have st8 := o5.store (i := 8) gD4' (by rw [zB0 g8']; decide)
    rw [zD5 g8'] at st8
    simp only [yq87.down, zA, lemS.down, lemC.down, Int.reduceBEq, Nat.reduceAdd, Nat.reduceLeDiff, reduceIte, Nat.reduceEqDiff, Int.reduceLT, Int.reduceLE, Int.reduceGT, Int.reduceGE, Int.reduceEq, Int.reduceAdd, Int.reduceSub, Int.reduceMul, reduceCtorEq, zY, zX, lemH.down, e4]
    (repeat (first | refine zS ?_ | refine zL ?_ | refine zR ?_ | refine zE ?_ | refine zC ?_ | refine zJ ?_ | refine zK ?_ | refine zP ?_ | refine zF ?_ | refine zH ?_ | refine zG ?_ | refine zI (by decide) ?_ | refine zQ ?_ | ((first | refine zD ?_ | refine zN ?_ | refine zT rfl rfl ?_ | refine zO rfl ?_ | refine zM ?_); simp only [yq87.down, zA, lemS.down, lemC.down, Int.reduceBEq, Nat.reduceAdd, Nat.reduceLeDiff, reduceIte, Nat.reduceEqDiff, Int.reduceLT, Int.reduceLE, Int.reduceGT, Int.reduceGE, Int.reduceEq, Int.reduceAdd, Int.reduceSub, Int.reduceMul, reduceCtorEq, zY, zX, lemH.down, t3, gD4'.load, j8, e5', st8])))
    rw [List.length_drop] at hlt'
    refine hnext (b.length - 64 * (i + 1)) _ _ (by omega) ⟨i + 1, rfl, by omega, ⟨g8', Nat.le_refl _, v5, gD4'.wr, o5.keep Keeps.wr (fun A hA => hA.2)⟩, gk4.trans Keeps.wr (fun A _ e => Nat.le_of_eq e.symm), by simp only [yq87.down, zA, lemS.down, lemC.down, Int.reduceBEq, Nat.reduceAdd, Nat.reduceLeDiff, reduceIte, Nat.reduceEqDiff, Int.reduceLT, Int.reduceLE, Int.reduceGT, Int.reduceGE, Int.reduceEq, Int.reduceAdd, Int.reduceSub, Int.reduceMul, reduceCtorEq, t3]⟩
  · (repeat (first | refine zS ?_ | refine zL ?_ | refine zR ?_ | refine zE ?_ | refine zC ?_ | refine zJ ?_ | refine zK ?_ | refine zP ?_ | refine zF ?_ | refine zH ?_ | refine zG ?_ | refine zI (by decide) ?_ | refine zQ ?_ | ((first | refine zD ?_ | refine zN ?_ | refine zT rfl rfl ?_ | refine zO rfl ?_ | refine zM ?_); simp only [yq87.down, zA, lemS.down, lemC.down, Int.reduceBEq, Nat.reduceAdd, Nat.reduceLeDiff, reduceIte, Nat.reduceEqDiff, Int.reduceLT, Int.reduceLE, Int.reduceGT, Int.reduceGE, Int.reduceEq, Int.reduceAdd, Int.reduceSub, Int.reduceMul, reduceCtorEq, zY, zX, lemH.down, t3])))
    rw [List.length_drop] at hge
    have hd' : b.length / 64 = i := by omega
    have he : b.drop (64 * i) = [] := List.drop_of_length_le (by omega)
    rw [he, ← hd'] at gd
    exact hQ _ _ gd gk (by simp only [yq87.down, zA, lemS.down, lemC.down, Int.reduceBEq, Nat.reduceAdd, Nat.reduceLeDiff, reduceIte, Nat.reduceEqDiff, Int.reduceLT, Int.reduceLE, Int.reduceGT, Int.reduceGE, Int.reduceEq, Int.reduceAdd, Int.reduceSub, Int.reduceMul, reduceCtorEq, t3])
theorem sum4i_ok (pr : Prog) (k : List KI) (Q : XE → Fr → Heap → Prop) (h g : Heap) (N x : Nat) (v : Value) (p : List UInt8) (r98 r99 : Value) (hN : N ≤ g.next) (hroom : p.length + 100 ≤ zU) (hd : Own g (fun A => N ≤ A) 1 v p.length (zV p)) (hk : Keeps (fun A => N ≤ A) h g)
    (hQ : ∀ t' g' v', Own g' (fun A => N ≤ A) 1 v' (p ++ outW x).length (zV (p ++ outW x)) → Keeps (fun A => N ≤ A) h g' → N ≤ g'.next → t'.get 5 = v' → t'.get 98 = r98 → t'.get 99 = r99 → extk pr k 8 Q t' g') (t : Fr)
    (t5 : t.get 5 = v) (t7 : t.get 7 = uw .u32 x) (t98 : t.get 98 = r98) (t99 : t.get 99 = r99) (t102 : t.get 102 = .int .i64 0) :
    wpk pr (.loop zIJ) k Q t g := by
  have hol : (outW x).length = 4 := by simp [outW]
  have hlb : ∀ j, j ≤ 4 → ((outW x).take j).length = j := fun j hj => by rw [List.length_take, hol]; omega
  refine zo (fun m t g => ∃ j v, m = 4 - j ∧ j ≤ 4 ∧ Own g (fun A => N ≤ A) 1 v (p ++ (outW x).take j).length (zV (p ++ (outW x).take j)) ∧ Keeps (fun A => N ≤ A) h g ∧ N ≤ g.next ∧ t.get 5 = v ∧ t.get 7 = uw .u32 x ∧ t.get 98 = r98 ∧ t.get 99 = r99 ∧ t.get 102 = .int .i64 (j : Int)) ?_ 4 _ _ ⟨0, v, rfl, by omega, by simpa using hd, hk, hN, t5, t7, t98, t99, t102⟩
  rintro m t g ⟨j, v, rfl, hj, gO, gk, gN, t5, t7, t98, t99, t102⟩ hnext
  refine xq87_27k ?_
  dsimp only [zIK]
  (repeat (first | refine zS ?_ | refine zL ?_ | refine zR ?_ | refine zE ?_ | refine zC ?_ | refine zJ ?_ | refine zK ?_ | refine zP ?_ | refine zF ?_ | refine zH ?_ | refine zG ?_ | refine zI (by decide) ?_ | refine zQ ?_ | ((first | refine zD ?_ | refine zN ?_ | refine zT rfl rfl ?_ | refine zO rfl ?_ | refine zM ?_); simp only [yq87.down, zA, lemS.down, lemC.down, Int.reduceBEq, Nat.reduceAdd, Nat.reduceLeDiff, reduceIte, Nat.reduceEqDiff, Int.reduceLT, Int.reduceLE, Int.reduceGT, Int.reduceGE, Int.reduceEq, Int.reduceAdd, Int.reduceSub, Int.reduceMul, reduceCtorEq, zY, zX, lemH.down, lemW.down, t5, t7, t102])))
  refine ⟨fun hlt => ?_, fun hge => ?_⟩
  · have hj' : j < 4 := by omega
    have w7 : IntKind.i64.wrap (3 - (j : Int)) = ((3 - j : Nat) : Int) := by rw [wrap_i64 (by omega) (by omega)]; omega
    have w8 : IntKind.i64.wrap (8 * ((3 - j : Nat) : Int)) = ((8 * (3 - j) : Nat) : Int) := by rw [wrap_i64 (by omega) (by omega)]; omega
    have ww : IntKind.i64.wrap ((j : Int) + 1) = ((j + 1 : Nat) : Int) := by rw [wrap_i64 (by omega) (by omega)]; omega
    have sh := zG2 (k' := .i64) (x := x) (n := 8 * (3 - j)) (by omega)
    have hO1 := gO.grow (Grows.new (l := [uw .u8 ((x % 4294967296) >>> (8 * (3 - j)))]))
    have hs1 := (Var.new_self (h := g) (l := [uw .u8 ((x % 4294967296) >>> (8 * (3 - j)))])).src (n := 1) (esz := 1) (bytes := 1) (s := v) (sp := none) (c := 1) rfl (by decide)
    obtain ⟨v', g2, e2, hO2, k2⟩ := hO1.append (bytes := 1) (m := 1) (new := [uw .u8 ((x % 4294967296) >>> (8 * (3 - j)))]) rfl rfl (by decide) (by decide) (by rw [List.length_append, hlb j hj]; omega)
    rw [e2] at hs1
    (repeat (first | refine zS ?_ | refine zL ?_ | refine zR ?_ | refine zE ?_ | refine zC ?_ | refine zJ ?_ | refine zK ?_ | refine zP ?_ | refine zF ?_ | refine zH ?_ | refine zG ?_ | refine zI (by decide) ?_ | refine zQ ?_ | ((first | refine zD ?_ | refine zN ?_ | refine zT rfl rfl ?_ | refine zO rfl ?_ | refine zM ?_); simp only [yq87.down, zA, lemS.down, lemC.down, Int.reduceBEq, Nat.reduceAdd, Nat.reduceLeDiff, reduceIte, Nat.reduceEqDiff, Int.reduceLT, Int.reduceLE, Int.reduceGT, Int.reduceGE, Int.reduceEq, Int.reduceAdd, Int.reduceSub, Int.reduceMul, reduceCtorEq, zY, zX, lemH.down, lemW.down, t5, t7, t102, w7, w8, sh, hs1, ww])))
    refine hnext (4 - (j + 1)) _ _ (by omega) ⟨j + 1, v', rfl, by omega, ?_, (gk.trans (Keeps.new (W := fun A => N ≤ A)) (fun A _ e => e)).trans k2 (fun A _ e => e), Nat.le_trans gN (Nat.le_trans (Nat.le_succ _) k2.next), by simp only [yq87.down, zA, lemS.down, lemC.down, Int.reduceBEq, Nat.reduceAdd, Nat.reduceLeDiff, reduceIte, Nat.reduceEqDiff, Int.reduceLT, Int.reduceLE, Int.reduceGT, Int.reduceGE, Int.reduceEq, Int.reduceAdd, Int.reduceSub, Int.reduceMul, reduceCtorEq], by simp only [yq87.down, zA, lemS.down, lemC.down, Int.reduceBEq, Nat.reduceAdd, Nat.reduceLeDiff, reduceIte, Nat.reduceEqDiff, Int.reduceLT, Int.reduceLE, Int.reduceGT, Int.reduceGE, Int.reduceEq, Int.reduceAdd, Int.reduceSub, Int.reduceMul, reduceCtorEq, t7], by simp only [yq87.down, zA, lemS.down, lemC.down, Int.reduceBEq, Nat.reduceAdd, Nat.reduceLeDiff, reduceIte, Nat.reduceEqDiff, Int.reduceLT, Int.reduceLE, Int.reduceGT, Int.reduceGE, Int.reduceEq, Int.reduceAdd, Int.reduceSub, Int.reduceMul, reduceCtorEq, t98], by simp only [yq87.down, zA, lemS.down, lemC.down, Int.reduceBEq, Nat.reduceAdd, Nat.reduceLeDiff, reduceIte, Nat.reduceEqDiff, Int.reduceLT, Int.reduceLE, Int.reduceGT, Int.reduceGE, Int.reduceEq, Int.reduceAdd, Int.reduceSub, Int.reduceMul, reduceCtorEq, t99], by simp only [yq87.down, zA, lemS.down, lemC.down, Int.reduceBEq, Nat.reduceAdd, Nat.reduceLeDiff, reduceIte, Nat.reduceEqDiff, Int.reduceLT, Int.reduceLE, Int.reduceGT, Int.reduceGE, Int.reduceEq, Int.reduceAdd, Int.reduceSub, Int.reduceMul, reduceCtorEq]⟩
    rw [List.take_succ_eq_append_getElem (by rw [hol]; exact hj'), ← List.append_assoc]
    have : (outW x)[j]'(by rw [hol]; exact hj') = UInt8.ofNat ((x % 4294967296) >>> (8 * (3 - j))) := by simp [outW]
    rw [this, zBy (b := [_]), zBX, List.length_append (bs := [_])]
    exact hO2.mono fun A hA => by
      rcases hA with hA | hA
      · exact hA
      · have : (g.new [uw .u8 ((x % 4294967296) >>> (8 * (3 - j)))]).next = g.next + 1 := rfl
        show N ≤ A
        omega
  · (repeat (first | refine zS ?_ | refine zL ?_ | refine zR ?_ | refine zE ?_ | refine zC ?_ | refine zJ ?_ | refine zK ?_ | refine zP ?_ | refine zF ?_ | refine zH ?_ | refine zG ?_ | refine zI (by decide) ?_ | refine zQ ?_ | ((first | refine zD ?_ | refine zN ?_ | refine zT rfl rfl ?_ | refine zO rfl ?_ | refine zM ?_); simp only [yq87.down, zA, lemS.down, lemC.down, Int.reduceBEq, Nat.reduceAdd, Nat.reduceLeDiff, reduceIte, Nat.reduceEqDiff, Int.reduceLT, Int.reduceLE, Int.reduceGT, Int.reduceGE, Int.reduceEq, Int.reduceAdd, Int.reduceSub, Int.reduceMul, reduceCtorEq, zY, zX, lemH.down, lemW.down])))
    obtain rfl : j = 4 := by omega
    rw [List.take_of_length_le (by rw [hol]; decide)] at gO
    exact hQ _ _ _ gO gk gN (by simp only [yq87.down, zA, lemS.down, lemC.down, Int.reduceBEq, Nat.reduceAdd, Nat.reduceLeDiff, reduceIte, Nat.reduceEqDiff, Int.reduceLT, Int.reduceLE, Int.reduceGT, Int.reduceGE, Int.reduceEq, Int.reduceAdd, Int.reduceSub, Int.reduceMul, reduceCtorEq, t5]) (by simp only [yq87.down, zA, lemS.down, lemC.down, Int.reduceBEq, Nat.reduceAdd, Nat.reduceLeDiff, reduceIte, Nat.reduceEqDiff, Int.reduceLT, Int.reduceLE, Int.reduceGT, Int.reduceGE, Int.reduceEq, Int.reduceAdd, Int.reduceSub, Int.reduceMul, reduceCtorEq, t98]) (by simp only [yq87.down, zA, lemS.down, lemC.down, Int.reduceBEq, Nat.reduceAdd, Nat.reduceLeDiff, reduceIte, Nat.reduceEqDiff, Int.reduceLT, Int.reduceLE, Int.reduceGT, Int.reduceGE, Int.reduceEq, Int.reduceAdd, Int.reduceSub, Int.reduceMul, reduceCtorEq, t99])
theorem sum4_ok (pr : Prog) (k : List KI) (Q : XE → Fr → Heap → Prop) (h g : Heap) (N : Nat) (hs : List Nat) (h8 : hs.length = 8) (hN : N ≤ g.next) (hk : Keeps (fun A => N ≤ A) h g)
    (hQ : ∀ t' g' v', Own g' (fun A => N ≤ A) 1 v' (outB hs).length (zV (outB hs)) → Keeps (fun A => N ≤ A) h g' → t'.get 5 = v' → extk pr k 6 Q t' g') (t : Fr)
    (t5 : t.get 5 = .slice none 0 0) (t98 : t.get 98 = .agg (hs.map (uw .u32)).toArray) (t99 : t.get 99 = .int .i64 0) :
    wpk pr (.loop zIL) k Q t g := by
  refine zo (fun m t g => ∃ j v, m = 8 - j ∧ j ≤ 8 ∧ Own g (fun A => N ≤ A) 1 v (outB (hs.take j)).length (zV (outB (hs.take j))) ∧ Keeps (fun A => N ≤ A) h g ∧ N ≤ g.next ∧ t.get 5 = v ∧ t.get 98 = .agg (hs.map (uw .u32)).toArray ∧ t.get 99 = .int .i64 (j : Int)) ?_ 8 _ _ ⟨0, _, rfl, by omega, Own.nil, hk, hN, t5, t98, t99⟩
  rintro m t g ⟨j, v, rfl, hj, gO, gk, gN, t5, t98, t99⟩ hnext
  refine xq87_29k ?_
  dsimp only [zIM]
  (repeat (first | refine zS ?_ | refine zL ?_ | refine zR ?_ | refine zE ?_ | refine zC ?_ | refine zJ ?_ | refine zK ?_ | refine zP ?_ | refine zF ?_ | refine zH ?_ | refine zG ?_ | refine zI (by decide) ?_ | refine zQ ?_ | ((first | refine zD ?_ | refine zN ?_ | refine zT rfl rfl ?_ | refine zO rfl ?_ | refine zM ?_); simp only [yq87.down, zA, lemS.down, lemC.down, Int.reduceBEq, Nat.reduceAdd, Nat.reduceLeDiff, reduceIte, Nat.reduceEqDiff, Int.reduceLT, Int.reduceLE, Int.reduceGT, Int.reduceGE, Int.reduceEq, Int.reduceAdd, Int.reduceSub, Int.reduceMul, reduceCtorEq, zY, zX, lemH.down, lemW.down, t5, t98, t99])))
  refine ⟨fun hlt => ?_, fun hge => ?_⟩
  · have hj' : j < 8 := by omega
    have ww : IntKind.i64.wrap ((j : Int) + 1) = ((j + 1 : Nat) : Int) := by rw [wrap_i64 (by omega) (by omega)]; omega
    have gi : (hs.map (uw .u32))[j]? = some (uw .u32 (hs.getD j 0)) := zBc (by omega)
    have hroom : (outB (hs.take j)).length + 100 ≤ zU := by
      rw [zE9, List.length_take]; unfold zU; omega
    (repeat (first | refine zS ?_ | refine zL ?_ | refine zR ?_ | refine zE ?_ | refine zC ?_ | refine zJ ?_ | refine zK ?_ | refine zP ?_ | refine zF ?_ | refine zH ?_ | refine zG ?_ | refine zI (by decide) ?_ | refine zQ ?_ | ((first | refine zD ?_ | refine zN ?_ | refine zT rfl rfl ?_ | refine zO rfl ?_ | refine zM ?_); simp only [yq87.down, zA, lemS.down, lemC.down, Int.reduceBEq, Nat.reduceAdd, Nat.reduceLeDiff, reduceIte, Nat.reduceEqDiff, Int.reduceLT, Int.reduceLE, Int.reduceGT, Int.reduceGE, Int.reduceEq, Int.reduceAdd, Int.reduceSub, Int.reduceMul, reduceCtorEq, zY, zX, lemH.down, lemW.down, t5, t98, t99, zVy hj', gi])))
    refine sum4i_ok pr _ _ h g N (hs.getD j 0) v _ (.agg (hs.map (uw .u32)).toArray) (.int .i64 (j : Int)) gN hroom gO gk ?_ _ (by simp only [yq87.down, zA, lemS.down, lemC.down, Int.reduceBEq, Nat.reduceAdd, Nat.reduceLeDiff, reduceIte, Nat.reduceEqDiff, Int.reduceLT, Int.reduceLE, Int.reduceGT, Int.reduceGE, Int.reduceEq, Int.reduceAdd, Int.reduceSub, Int.reduceMul, reduceCtorEq, t5]) (by simp only [yq87.down, zA, lemS.down, lemC.down, Int.reduceBEq, Nat.reduceAdd, Nat.reduceLeDiff, reduceIte, Nat.reduceEqDiff, Int.reduceLT, Int.reduceLE, Int.reduceGT, Int.reduceGE, Int.reduceEq, Int.reduceAdd, Int.reduceSub, Int.reduceMul, reduceCtorEq]) (by simp only [yq87.down, zA, lemS.down, lemC.down, Int.reduceBEq, Nat.reduceAdd, Nat.reduceLeDiff, reduceIte, Nat.reduceEqDiff, Int.reduceLT, Int.reduceLE, Int.reduceGT, Int.reduceGE, Int.reduceEq, Int.reduceAdd, Int.reduceSub, Int.reduceMul, reduceCtorEq, t98]) (by simp only [yq87.down, zA, lemS.down, lemC.down, Int.reduceBEq, Nat.reduceAdd, Nat.reduceLeDiff, reduceIte, Nat.reduceEqDiff, Int.reduceLT, Int.reduceLE, Int.reduceGT, Int.reduceGE, Int.reduceEq, Int.reduceAdd, Int.reduceSub, Int.reduceMul, reduceCtorEq, t99]) (by simp only [yq87.down, zA, lemS.down, lemC.down, Int.reduceBEq, Nat.reduceAdd, Nat.reduceLeDiff, reduceIte, Nat.reduceEqDiff, Int.reduceLT, Int.reduceLE, Int.reduceGT, Int.reduceGE, Int.reduceEq, Int.reduceAdd, Int.reduceSub, Int.reduceMul, reduceCtorEq])
    intro t' g' v' o' k' n' q5 q98 q99
    (repeat (first | refine zS ?_ | refine zL ?_ | refine zR ?_ | refine zE ?_ | refine zC ?_ | refine zJ ?_ | refine zK ?_ | refine zP ?_ | refine zF ?_ | refine zH ?_ | refine zG ?_ | refine zI (by decide) ?_ | refine zQ ?_ | ((first | refine zD ?_ | refine zN ?_ | refine zT rfl rfl ?_ | refine zO rfl ?_ | refine zM ?_); simp only [yq87.down, zA, lemS.down, lemC.down, Int.reduceBEq, Nat.reduceAdd, Nat.reduceLeDiff, reduceIte, Nat.reduceEqDiff, Int.reduceLT, Int.reduceLE, Int.reduceGT, Int.reduceGE, Int.reduceEq, Int.reduceAdd, Int.reduceSub, Int.reduceMul, reduceCtorEq, zY, zX, lemH.down, lemW.down, q5, q98, q99, ww])))
    refine hnext (8 - (j + 1)) _ _ (by omega) ⟨j + 1, v', rfl, by omega, ?_, k', n', by simp only [yq87.down, zA, lemS.down, lemC.down, Int.reduceBEq, Nat.reduceAdd, Nat.reduceLeDiff, reduceIte, Nat.reduceEqDiff, Int.reduceLT, Int.reduceLE, Int.reduceGT, Int.reduceGE, Int.reduceEq, Int.reduceAdd, Int.reduceSub, Int.reduceMul, reduceCtorEq, q5], by simp only [yq87.down, zA, lemS.down, lemC.down, Int.reduceBEq, Nat.reduceAdd, Nat.reduceLeDiff, reduceIte, Nat.reduceEqDiff, Int.reduceLT, Int.reduceLE, Int.reduceGT, Int.reduceGE, Int.reduceEq, Int.reduceAdd, Int.reduceSub, Int.reduceMul, reduceCtorEq, q98], by simp only [yq87.down, zA, lemS.down, lemC.down, Int.reduceBEq, Nat.reduceAdd, Nat.reduceLeDiff, reduceIte, Nat.reduceEqDiff, Int.reduceLT, Int.reduceLE, Int.reduceGT, Int.reduceGE, Int.reduceEq, Int.reduceAdd, Int.reduceSub, Int.reduceMul, reduceCtorEq]⟩
    have : outB (hs.take (j + 1)) = outB (hs.take j) ++ outW (hs.getD j 0) := by
      unfold outB
      rw [List.take_succ_eq_append_getElem (by omega), List.flatMap_append, List.flatMap_cons, List.flatMap_nil, List.append_nil, List.getD_eq_getElem?_getD, List.getElem?_eq_getElem (show j < hs.length by omega)]
      rfl
    rw [this]
    exact o'
  · (repeat (first | refine zS ?_ | refine zL ?_ | refine zR ?_ | refine zE ?_ | refine zC ?_ | refine zJ ?_ | refine zK ?_ | refine zP ?_ | refine zF ?_ | refine zH ?_ | refine zG ?_ | refine zI (by decide) ?_ | refine zQ ?_ | ((first | refine zD ?_ | refine zN ?_ | refine zT rfl rfl ?_ | refine zO rfl ?_ | refine zM ?_); simp only [yq87.down, zA, lemS.down, lemC.down, Int.reduceBEq, Nat.reduceAdd, Nat.reduceLeDiff, reduceIte, Nat.reduceEqDiff, Int.reduceLT, Int.reduceLE, Int.reduceGT, Int.reduceGE, Int.reduceEq, Int.reduceAdd, Int.reduceSub, Int.reduceMul, reduceCtorEq, zY, zX, lemH.down, lemW.down])))
    obtain rfl : j = 8 := by omega
    rw [List.take_of_length_le (by omega)] at gO
    exact hQ _ _ _ gO gk (by simp only [yq87.down, zA, lemS.down, lemC.down, Int.reduceBEq, Nat.reduceAdd, Nat.reduceLeDiff, reduceIte, Nat.reduceEqDiff, Int.reduceLT, Int.reduceLE, Int.reduceGT, Int.reduceGE, Int.reduceEq, Int.reduceAdd, Int.reduceSub, Int.reduceMul, reduceCtorEq, t5])
theorem zIU (pr : Prog) (hp : pr.prim 118 = some (za zA9)) (hw : pr.prim 117 = some zBu) (hk : pr.prim 116 = some (za zCH)) (hb : pr.prim 104 = none) (hc : pr.code 104 = some zC8)
    (hn : pr.prim 87 = none) (hcs : pr.code 87 = some xq87) (h : Heap) (N D n : Nat) (hs : List Nat) (r : List UInt8) (hd : Dig h N D hs r n) (hroom : r.length + 300 ≤ zU) :
    ∃ v h', cfi pr 87 [.pointer (some ⟨D, 0, none⟩)] h = some (v, h') ∧ v = .string (zB (fin hs r n)) ∧ Grows h h' := by
  refine zAg hn hcs rfl ?_
  unfold xq87
  dsimp only [zc]
  refine wpk.out (k := []) ?_
  obtain ⟨h8, hND, v, hD, hO⟩ := hd
  have i8 := fun (v : Value) (n : Nat) => zCI (v := v) (n := n) h8
  have i9 := fun (v : Value) (n : Nat) => zF7 (v := v) (n := n) h8
  have ldD : ∀ sp, h.loadN ⟨D, 0, sp⟩ 8 = some (hs.map (uw .u32)) := fun sp => by
    rw [hD.loadN]
    simp [zAo, zB0 h8]
    rw [show Nat.ble 8 10 = true from rfl]
    simp [zj, h8]
  (repeat (first | refine zS ?_ | refine zL ?_ | refine zR ?_ | refine zE ?_ | refine zC ?_ | refine zJ ?_ | refine zK ?_ | refine zP ?_ | refine zF ?_ | refine zH ?_ | refine zG ?_ | refine zI (by decide) ?_ | refine zQ ?_ | ((first | refine zD ?_ | refine zN ?_ | refine zT rfl rfl ?_ | refine zO rfl ?_ | refine zM ?_); simp only [yq87.down, zA, lemS.down, lemC.down, Int.reduceBEq, Nat.reduceAdd, Nat.reduceLeDiff, reduceIte, Nat.reduceEqDiff, Int.reduceLT, Int.reduceLE, Int.reduceGT, Int.reduceGE, Int.reduceEq, Int.reduceAdd, Int.reduceSub, Int.reduceMul, reduceCtorEq, zY, zX, lemH.down, lemW.down, zB1, ldD, hD.load, i9, fill_dig h8])))
  have hn1 : (h.new (zj hs (.slice none 0 0) n)).next = h.next + 1 := rfl
  have hD1 := hD.new_old (m := zj hs (.slice none 0 0) n)
  have hO1 := hO.grow (Grows.new (l := zj hs (.slice none 0 0) n))
  have hd1 : Var (h.new (zj hs (.slice none 0 0) n)) h.next (zj hs (.slice none 0 0) n) := Var.new_self
  have hg1 : Grows h (h.new (zj hs (.slice none 0 0) n)) := Grows.new
  have ldD1 : ∀ sp, (h.new (zj hs (.slice none 0 0) n)).loadN ⟨D, 0, sp⟩ 8 = some (hs.map (uw .u32)) := fun sp => by
    rw [hD1.loadN]
    simp [zAo, zB0 h8]
    rw [show Nat.ble 8 10 = true from rfl]
    simp [zj, h8]
  refine ⟨⟨?_, ?_⟩, ?_⟩
  · (refine zAa rfl rfl rfl ?_ ?_ <;> simp only [yq87.down, zA, lemS.down, lemC.down, Int.reduceBEq, Nat.reduceAdd, Nat.reduceLeDiff, reduceIte, Nat.reduceEqDiff, Int.reduceLT, Int.reduceLE, Int.reduceGT, Int.reduceGE, Int.reduceEq, Int.reduceAdd, Int.reduceSub, Int.reduceMul, reduceCtorEq, ldD, ldD1, zAH, zAE, zAI, zAF, zAD, Option.isSome_some])
  · (refine zAa rfl rfl rfl ?_ ?_ <;> simp only [yq87.down, zA, lemS.down, lemC.down, Int.reduceBEq, Nat.reduceAdd, Nat.reduceLeDiff, reduceIte, Nat.reduceEqDiff, Int.reduceLT, Int.reduceLE, Int.reduceGT, Int.reduceGE, Int.reduceEq, Int.reduceAdd, Int.reduceSub, Int.reduceMul, reduceCtorEq, hD.load, hD1.load, i9, zAH, zAE, zAI, zAF, zAD, Option.isSome_some])
  generalize h.new (zj hs (.slice none 0 0) n) = h1 at *
  have hlt : D < h.next := hD.1
  clear hD hO ldD ldD1
  obtain ⟨va, h2, e2, hO2, k2⟩ := (Own.nil (h := h1) (S := zB5) (esz := 1)).append (bytes := 1) (m := r.length) (new := zV r) (by simp [zBz]) zDx (by decide) (by decide) (by omega)
  have e2' := hO1.src (bytes := 1) (s := .slice none 0 0)
  rw [e2] at e2'
  (repeat (first | refine zS ?_ | refine zL ?_ | refine zR ?_ | refine zE ?_ | refine zC ?_ | refine zJ ?_ | refine zK ?_ | refine zP ?_ | refine zF ?_ | refine zH ?_ | refine zG ?_ | refine zI (by decide) ?_ | refine zQ ?_ | ((first | refine zD ?_ | refine zN ?_ | refine zT rfl rfl ?_ | refine zO rfl ?_ | refine zM ?_); simp only [yq87.down, zA, lemS.down, lemC.down, Int.reduceBEq, Nat.reduceAdd, Nat.reduceLeDiff, reduceIte, Nat.reduceEqDiff, Int.reduceLT, Int.reduceLE, Int.reduceGT, Int.reduceGE, Int.reduceEq, Int.reduceAdd, Int.reduceSub, Int.reduceMul, reduceCtorEq, zY, zX, lemH.down, lemW.down, hd1.load, i8, hD1.load, e2'])))
  have hd2 := hd1.keep k2 id
  have hg2 := hg1.then k2 (fun _ _ => id)
  have hO3 := hO2.grow (Grows.new (l := [.int .u8 128]))
  have hs3 := (Var.new_self (h := h2) (l := [.int .u8 128])).src (n := 1) (esz := 1) (bytes := 1) (s := va) (sp := none) (c := 1) rfl (by decide)
  obtain ⟨vb, h4, e4, hO4, k4⟩ := hO3.append (bytes := 1) (m := 1) (new := [.int .u8 128]) rfl rfl (by decide) (by decide) (by omega)
  rw [e4] at hs3
  have hd4 := (hd2.new_old (m := [.int .u8 128])).keep k4 (fun e => by rcases e with e | e; exact e.elim; omega)
  have hg4 := (hg2.trans (Grows.new (l := [.int .u8 128]))).then k4 (fun A hA e => by rcases e with e | e; exact e.elim; omega)
  have hO4 : Own h4 (fun A => h.next ≤ A ∧ A ≠ h.next) 1 vb (r ++ [128]).length (zV (r ++ [128])) := by
    have e : zV (r ++ [128]) = [] ++ zV r ++ [.int .u8 128] := by rw [zBy]; rfl
    have hn3 : (h2.new [.int .u8 128]).next = h2.next + 1 := rfl
    have := k2.next
    rw [e, List.length_append, ← Nat.zero_add r.length]
    refine hO4.mono fun A hA => ?_
    rcases hA with (hA | hA) | hA
    · exact hA.elim
    · exact ⟨by omega, by omega⟩
    · exact ⟨by omega, by omega⟩
  have st8 := hO4.store (i := 8) hd4 (by rw [zB0 h8]; decide)
  rw [zD5 h8] at st8
  simp only [yq87.down, zA, lemS.down, lemC.down, Int.reduceBEq, Nat.reduceAdd, Nat.reduceLeDiff, reduceIte, Nat.reduceEqDiff, Int.reduceLT, Int.reduceLE, Int.reduceGT, Int.reduceGE, Int.reduceEq, Int.reduceAdd, Int.reduceSub, Int.reduceMul, reduceCtorEq, zY, zX, lemH.down, hs3, st8]
  have hd5 : Dig (h4.wr h.next (zj hs vb n)) h.next h.next hs (r ++ [128]) n := ⟨h8, Nat.le_refl _, vb, hd4.wr, hO4.keep Keeps.wr (fun A hA => hA.2)⟩
  have hk5 : Keeps (fun A => h.next ≤ A) h (h4.wr h.next (zj hs vb n)) := Keeps.trans hg4.keeps Keeps.wr (fun A _ e => Nat.le_of_eq e.symm)
  generalize h4.wr h.next (zj hs vb n) = h5 at *
  clear hd1 hg1 hD1 hO1 hd2 hg2 hO2 k2 e2 e2' hO3 hs3 e4 k4 hd4 hg4 hO4 st8
  (repeat (first | refine zS ?_ | refine zL ?_ | refine zR ?_ | refine zE ?_ | refine zC ?_ | refine zJ ?_ | refine zK ?_ | refine zP ?_ | refine zF ?_ | refine zH ?_ | refine zG ?_ | refine zI (by decide) ?_ | refine zQ ?_ | ((first | refine zD ?_ | refine zN ?_ | refine zT rfl rfl ?_ | refine zO rfl ?_ | refine zM ?_); simp only [yq87.down, zA, lemS.down, lemC.down, Int.reduceBEq, Nat.reduceAdd, Nat.reduceLeDiff, reduceIte, Nat.reduceEqDiff, Int.reduceLT, Int.reduceLE, Int.reduceGT, Int.reduceGE, Int.reduceEq, Int.reduceAdd, Int.reduceSub, Int.reduceMul, reduceCtorEq, zY, zX, lemH.down])))
  refine sum1_ok pr _ _ h h5 h.next n hs r (by omega) hd5 hk5 ?_ _ (by simp only [yq87.down, zA, lemS.down, lemC.down, Int.reduceBEq, Nat.reduceAdd, Nat.reduceLeDiff, reduceIte, Nat.reduceEqDiff, Int.reduceLT, Int.reduceLE, Int.reduceGT, Int.reduceGE, Int.reduceEq, Int.reduceAdd, Int.reduceSub, Int.reduceMul, reduceCtorEq])
  intro t g gd gk t3
  (repeat (first | refine zS ?_ | refine zL ?_ | refine zR ?_ | refine zE ?_ | refine zC ?_ | refine zJ ?_ | refine zK ?_ | refine zP ?_ | refine zF ?_ | refine zH ?_ | refine zG ?_ | refine zI (by decide) ?_ | refine zQ ?_ | ((first | refine zD ?_ | refine zN ?_ | refine zT rfl rfl ?_ | refine zO rfl ?_ | refine zM ?_); simp only [yq87.down, zA, lemS.down, lemC.down, Int.reduceBEq, Nat.reduceAdd, Nat.reduceLeDiff, reduceIte, Nat.reduceEqDiff, Int.reduceLT, Int.reduceLE, Int.reduceGT, Int.reduceGE, Int.reduceEq, Int.reduceAdd, Int.reduceSub, Int.reduceMul, reduceCtorEq, zY, zX, lemH.down])))
  have hz : zAB r.length < 64 := Nat.mod_lt _ (by decide)
  refine sum2_ok pr _ _ h g h.next n hs _ (by simp; omega) gd gk ?_ _ (by simp only [yq87.down, zA, lemS.down, lemC.down, Int.reduceBEq, Nat.reduceAdd, Nat.reduceLeDiff, reduceIte, Nat.reduceEqDiff, Int.reduceLT, Int.reduceLE, Int.reduceGT, Int.reduceGE, Int.reduceEq, Int.reduceAdd, Int.reduceSub, Int.reduceMul, reduceCtorEq, t3]) (by simp only [yq87.down, zA, lemS.down, lemC.down, Int.reduceBEq, Nat.reduceAdd, Nat.reduceLeDiff, reduceIte, Nat.reduceEqDiff, Int.reduceLT, Int.reduceLE, Int.reduceGT, Int.reduceGE, Int.reduceEq, Int.reduceAdd, Int.reduceSub, Int.reduceMul, reduceCtorEq])
  intro t g gd gk t3
  (repeat (first | refine zS ?_ | refine zL ?_ | refine zR ?_ | refine zE ?_ | refine zC ?_ | refine zJ ?_ | refine zK ?_ | refine zP ?_ | refine zF ?_ | refine zH ?_ | refine zG ?_ | refine zI (by decide) ?_ | refine zQ ?_ | ((first | refine zD ?_ | refine zN ?_ | refine zT rfl rfl ?_ | refine zO rfl ?_ | refine zM ?_); simp only [yq87.down, zA, lemS.down, lemC.down, Int.reduceBEq, Nat.reduceAdd, Nat.reduceLeDiff, reduceIte, Nat.reduceEqDiff, Int.reduceLT, Int.reduceLE, Int.reduceGT, Int.reduceGE, Int.reduceEq, Int.reduceAdd, Int.reduceSub, Int.reduceMul, reduceCtorEq, zY, zX, lemH.down])))
  refine sum3_ok pr hp hw hk hb hc _ _ h g h.next n hs (padB r n) (zGi r n) gd gk ?_ _ (by simp only [yq87.down, zA, lemS.down, lemC.down, Int.reduceBEq, Nat.reduceAdd, Nat.reduceLeDiff, reduceIte, Nat.reduceEqDiff, Int.reduceLT, Int.reduceLE, Int.reduceGT, Int.reduceGE, Int.reduceEq, Int.reduceAdd, Int.reduceSub, Int.reduceMul, reduceCtorEq, t3])
  intro t g gd gk t3
  obtain ⟨f8, fN, v, gD, gO⟩ := gd
  have ldE : ∀ sp, g.loadN ⟨h.next, 0, sp⟩ 8 = some ((zl ((padB r n).length / 64) hs (padB r n)).map (uw .u32)) := fun sp => by
    rw [gD.loadN]
    simp [zAo, zB0 f8]
    rw [show Nat.ble 8 10 = true from rfl]
    simp [zj, f8]
  (repeat (first | refine zS ?_ | refine zL ?_ | refine zR ?_ | refine zE ?_ | refine zC ?_ | refine zJ ?_ | refine zK ?_ | refine zP ?_ | refine zF ?_ | refine zH ?_ | refine zG ?_ | refine zI (by decide) ?_ | refine zQ ?_ | ((first | refine zD ?_ | refine zN ?_ | refine zT rfl rfl ?_ | refine zO rfl ?_ | refine zM ?_); simp only [yq87.down, zA, lemS.down, lemC.down, Int.reduceBEq, Nat.reduceAdd, Nat.reduceLeDiff, reduceIte, Nat.reduceEqDiff, Int.reduceLT, Int.reduceLE, Int.reduceGT, Int.reduceGE, Int.reduceEq, Int.reduceAdd, Int.reduceSub, Int.reduceMul, reduceCtorEq, zY, zX, lemH.down, t3, ldE])))
  refine sum4_ok pr _ _ h g h.next _ f8 (Nat.le_of_lt gD.1) gk ?_ _ (by simp only [yq87.down, zA, lemS.down, lemC.down, Int.reduceBEq, Nat.reduceAdd, Nat.reduceLeDiff, reduceIte, Nat.reduceEqDiff, Int.reduceLT, Int.reduceLE, Int.reduceGT, Int.reduceGE, Int.reduceEq, Int.reduceAdd, Int.reduceSub, Int.reduceMul, reduceCtorEq]) (by simp only [yq87.down, zA, lemS.down, lemC.down, Int.reduceBEq, Nat.reduceAdd, Nat.reduceLeDiff, reduceIte, Nat.reduceEqDiff, Int.reduceLT, Int.reduceLE, Int.reduceGT, Int.reduceGE, Int.reduceEq, Int.reduceAdd, Int.reduceSub, Int.reduceMul, reduceCtorEq]) (by simp only [yq87.down, zA, lemS.down, lemC.down, Int.reduceBEq, Nat.reduceAdd, Nat.reduceLeDiff, reduceIte, Nat.reduceEqDiff, Int.reduceLT, Int.reduceLE, Int.reduceGT, Int.reduceGE, Int.reduceEq, Int.reduceAdd, Int.reduceSub, Int.reduceMul, reduceCtorEq])
  intro t g v' go gk t5
  (repeat (first | refine zS ?_ | refine zL ?_ | refine zR ?_ | refine zE ?_ | refine zC ?_ | refine zJ ?_ | refine zK ?_ | refine zP ?_ | refine zF ?_ | refine zH ?_ | refine zG ?_ | refine zI (by decide) ?_ | refine zQ ?_ | ((first | refine zD ?_ | refine zN ?_ | refine zT rfl rfl ?_ | refine zO rfl ?_ | refine zM ?_); simp only [yq87.down, zA, lemS.down, lemC.down, Int.reduceBEq, Nat.reduceAdd, Nat.reduceLeDiff, reduceIte, Nat.reduceEqDiff, Int.reduceLT, Int.reduceLE, Int.reduceGT, Int.reduceGE, Int.reduceEq, Int.reduceAdd, Int.reduceSub, Int.reduceMul, reduceCtorEq, zY, zX, lemH.down, t5, go.cb2s])))
  refine ⟨.inr rfl, _, rfl, ?_, gk.grows (fun A hA => by omega)⟩
  simp only [yq87.down, zA, lemS.down, lemC.down, Int.reduceBEq, Nat.reduceAdd, Nat.reduceLeDiff, reduceIte, Nat.reduceEqDiff, Int.reduceLT, Int.reduceLE, Int.reduceGT, Int.reduceGE, Int.reduceEq, Int.reduceAdd, Int.reduceSub, Int.reduceMul, reduceCtorEq]
  rfl
end Go.X
end
section
open Go Go.X
namespace Go.X
set_option linter.unusedVariables false
def shaS : List Value → Option Value
  | [.string s] => if s.data.toList.length + 400 ≤ zU then some (.string (zB (sha s.data.toList))) else none
  | _ => none
theorem zCX {s : List UInt8} (h : s.length + 400 ≤ zU) : shaS [.string (zB s)] = some (.string (zB (sha s))) := by
  simp only [shaS, zAh, if_pos h]
structure zBv (pr : Prog) : Prop where
  right : pr.prim 118 = some (za zA9)
  words : pr.prim 117 = some zBu
  consts : pr.prim 116 = some (za zCH)
  begin : pr.prim 103 = some (za zDu)
  blk : pr.prim 104 = none
  blkC : pr.code 104 = some zC8
  new : pr.prim 85 = none
  newC : pr.code 85 = some xq85
  wr : pr.prim 86 = none
  wrC : pr.code 86 = some xq86
  sum : pr.prim 87 = none
  sumC : pr.code 87 = some xq87
theorem zW5 (pr : Prog) (T : zBv pr) (s : List UInt8) (hs : s.length + 400 ≤ zU) (h : Heap) : Comes pr xq59 [.string (zB s)] h (.string (zB (sha s))) := by
  apply Comes.of
  unfold xq59
  dsimp only [zc]
  obtain ⟨_, h1, e1, rfl, d1, g1⟩ := zIS pr T.begin T.new T.newC h
  obtain ⟨_, h2, e2, rfl, d2, k2⟩ := zIW pr T.right T.words T.consts T.blk T.blkC T.wr T.wrC h1 _ _ _ _ [] s d1 (by simp; omega)
  rw [List.nil_append] at d2
  obtain ⟨_, h3, e3, rfl, g3⟩ := zIU pr T.right T.words T.consts T.blk T.blkC T.sum T.sumC h2 _ _ _ _ _ d2 (by simp; omega)
  rw [Nat.zero_add, zKQ] at e3
  (repeat (first | refine zS ?_ | refine zL ?_ | refine zR ?_ | refine zE ?_ | refine zC ?_ | refine zJ ?_ | refine zK ?_ | refine zP ?_ | refine zF ?_ | refine zH ?_ | refine zG ?_ | refine zI (by decide) ?_ | refine zQ ?_ | ((first | refine zD ?_ | refine zN ?_ | refine zT rfl rfl ?_ | refine zO rfl ?_ | refine zM ?_); simp only [yq59.down, zA, lemS.down, lemC.down, Int.reduceBEq, Nat.reduceAdd, Nat.reduceLeDiff, reduceIte, Nat.reduceEqDiff, Int.reduceLT, Int.reduceLE, Int.reduceGT, Int.reduceGE, Int.reduceEq, Int.reduceAdd, Int.reduceSub, Int.reduceMul, reduceCtorEq, e1, e2, e3])))
  exact ⟨.inr rfl, by simp only [yq59.down, zA, lemS.down, lemC.down, Int.reduceBEq, Nat.reduceAdd, Nat.reduceLeDiff, reduceIte, Nat.reduceEqDiff, Int.reduceLT, Int.reduceLE, Int.reduceGT, Int.reduceGE, Int.reduceEq, Int.reduceAdd, Int.reduceSub, Int.reduceMul, reduceCtorEq], (g1.then k2 (fun A hA => by omega)).trans g3⟩
end Go.X
end
