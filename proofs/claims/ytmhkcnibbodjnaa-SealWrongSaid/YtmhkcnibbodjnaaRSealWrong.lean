/- The statement SealWrong: whatever the input, the law returns true and its arguments read afterwards as they read before. No condition. -/
import Derived.Test.YtmhkcnibbodjnaaXO
import Derived.Test.YtmhkcnibbodjnaaRows
import Derived.WalkKit
import Derived.ProofKit
import Derived.OpenShut
import Derived.ShutString
import Derived.ChangeOld
import Derived.Below
import Derived.SizedLaws
namespace Go.Proofs.Ytmhkcnibbodjnaa.sealWrong
open Go.ChangeShapes Go.WideShapes Go.ChangeAt Go.RowKit
open Go.ChangeMaps (open_string shut_string)
set_option linter.unusedVariables false
theorem own : ownKnob Try.prog.godebug = none := by kernel_rfl
theorem laidOut : laidOutB Try.prog = true := by kernel_rfl
theorem two_ints {P : Program} {W : World} {t u : TypeId} {k : Nat} {base : Nat} {v : Value} (ht : P.underlying t = some (.array k u)) (hu : P.underlying u = some (.int .i64)) (hc : P.cellsOf t = 2) (hcs : P.cellTypes P.depth t = some [u, u]) (h : Value.okWide P W .any base t v) : ∃ a b, v = .agg #[.int .i64 a, .int .i64 b] ∧ IntKind.i64.has a ∧ IntKind.i64.has b := by
  simp only [Value.okWide, ht] at h
  obtain ⟨cs, rfl, hs, ts, h1, _, h3⟩ := h
  rw [hcs] at h1
  obtain rfl := Option.some.inj h1
  rw [hc] at hs
  have e0 : cs[0]? = some (cs[0]'(by omega)) := Array.getElem?_eq_getElem (by omega)
  have e1 : cs[1]? = some (cs[1]'(by omega)) := Array.getElem?_eq_getElem (by omega)
  obtain ⟨u0, hu0, g0⟩ := h3 0 _ e0
  obtain ⟨u1, hu1, g1⟩ := h3 1 _ e1
  obtain rfl : u = u0 := by simpa using hu0
  obtain rfl : u = u1 := by simpa using hu1
  have s0 : ∃ a, cs[0]'(by omega) = .int .i64 a ∧ IntKind.i64.has a := by
    generalize cs[0]'(by omega) = x at g0
    simp only [Cell.okWide, hu] at g0
    cases x <;> simp_all [Cell.ok]
  have s1 : ∃ a, cs[1]'(by omega) = .int .i64 a ∧ IntKind.i64.has a := by
    generalize cs[1]'(by omega) = x at g1
    simp only [Cell.okWide, hu] at g1
    cases x <;> simp_all [Cell.ok]
  obtain ⟨a, ha, ga⟩ := s0
  obtain ⟨b, hb, gb⟩ := s1
  refine ⟨a, b, ?_, ga, gb⟩
  congr 1
  apply Array.ext
  · simpa using hs
  · intro i h1 h2
    match i, h2 with
    | 0, _ => exact ha
    | 1, _ => exact hb
set_option maxRecDepth 100000 in
theorem lifted (os : Os) (started : os.Started) (H : Type) (enc : TypeId × Value → H) :
    ReturnsInHanded {} Try.checked os 10 .any (Rows.sealWrongSpec.pre6 enc Try.prog Try.f10 Rows.sealWrongRow.domain false) (Rows.sealWrongSpec.post enc Try.prog Try.f10 false true false false) := by
  refine returnsInHanded_of_change_sized (C := Try.checked) own started (by kernel_rfl) Try.func10
    (ChangeSpec.witness6 (enc := enc) (C := Try.checked) false ⟨#[], #[.agg #[.int .i64 0, .int .i64 0], .string ByteArray.empty, .int .i64 0], []⟩ 8 (by kernel_rfl) (by kernel_rfl) (by kernel_rfl) (by kernel_rfl)) ?_
  intro W base args ds gs before hval0 hW hcnd hsz0 _
  have hval : ∀ (j : Nat) t v, Try.f10.params[j]? = some t → args[j]? = some v → Value.okWide Try.prog W .any base t v := hval0
  have hW' := hW
  obtain ⟨p, q, hA0, hV, rfl, hfz, hnd⟩ := hW
  have hA : DataW.TrodAll enc Try.prog W 0 (fun _ => true) true Try.f10.params.toList args.toList ds p := hA0
  rw [Try.params10] at hA hval
  obtain ⟨v0, vs0, d0, ds0, p0, q0, hargs, rfl, rfl, h0, r0⟩ := trodAll_cons hA
  obtain ⟨v1, vs1, d1, ds1, p1, q1, rfl, rfl, rfl, h1, r1⟩ := trodAll_cons r0
  obtain ⟨v2, vs2, d2, ds2, p2, q2, rfl, rfl, rfl, h2, r2⟩ := trodAll_cons r1
  obtain ⟨rfl, rfl, rfl⟩ := trodAll_nil r2
  obtain rfl : args = #[v0, v1, v2] := by cases args; simp_all
  obtain ⟨rfl, rfl⟩ := trodVars_none hV
  have k0 := h0
  have lt0 : ∀ x ∈ p0, x.block < W.heap.size := by obtain ⟨m, hm⟩ := k0; exact DataW.trod_lt m _ _ _ hm
  obtain ⟨a0, b0, rfl, u0, v0⟩ := two_ints Try.underlying62 Try.underlying3 (by kernel_rfl) (by kernel_rfl) (hval 0 62 v0 rfl rfl)
  obtain ⟨a1, rfl, rfl, rfl, y1⟩ := open_string Try.underlying9 (hval 1 9 v1 rfl rfl) h1
  obtain ⟨a2, rfl, rfl, rfl, w2⟩ := open_int Try.underlying3 (hval 2 3 v2 rfl rfl) h2
  clear hA0 hval0 hsz0
  refine ((fun p q hp hq s r hr W => Go.X.walkSealWrong p q hp hq s r hr W) a0 b0 u0 v0 a1 a2 w2 W).mono fun e W' ⟨he, bel⟩ => ?_
  subst he
  exact ⟨_, rfl, _, _, _, [], _, [], hW', trodAll_mk1 (shut_bool Try.underlying4 _), (trodAll_cons_mk (Below.trod laidOut (by kernel_rfl) (of_decide_eq_true (by kernel_rfl)) k0 bel lt0) (trodAll_cons_mk (shut_string Try.underlying9 y1) (trodAll_cons_mk (shut_int Try.underlying3 w2) trodAll_mk0))), rfl, bel.frame _, fun h => by cases h⟩
theorem over : Rows.sealWrongRow.holds Try.pinned (OpenSpec.ofChange Rows.sealWrongSpec) :=
  OpenClaim.holds_of_wide 10 Try.f10 rfl rfl rfl rfl rfl rfl rfl ⟨rfl, rfl, rfl, rfl, rfl⟩ rfl rfl rfl rfl rfl (by kernel_rfl) Try.func10 (by kernel_rfl)
    (of_decide_eq_true (by kernel_rfl)) (by unfold Func.isWrapper; first | (rw [if_pos (by decide +kernel)]; kernel_rfl) | (rw [if_neg (by decide +kernel)]; exact ⟨rfl, rfl⟩))
    (fun os started H enc _ => lifted os started H enc)
end Go.Proofs.Ytmhkcnibbodjnaa.sealWrong
namespace Go.Proofs.Ytmhkcnibbodjnaa
/-- The row. -/
theorem sealWrong_holds : Rows.SealWrongSaid := sealWrong.over
#print axioms sealWrong_holds
end Go.Proofs.Ytmhkcnibbodjnaa

