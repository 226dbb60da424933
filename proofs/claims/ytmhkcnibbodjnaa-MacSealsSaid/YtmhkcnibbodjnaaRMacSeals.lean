/- The statement MacSeals: whatever the input, the law returns true and its arguments read afterwards as they read before. No condition. -/
import Derived.Test.YtmhkcnibbodjnaaXI
import Derived.Carry
import Derived.Test.YtmhkcnibbodjnaaRows
import Derived.WalkKit
import Derived.ProofKit
import Derived.OpenShut
import Derived.ShutString
import Derived.ChangeOld
import Derived.Below
import Derived.SizedLaws
namespace Go.Proofs.Ytmhkcnibbodjnaa.macSeals
open Go.ChangeShapes Go.WideShapes Go.ChangeAt Go.RowKit
open Go.ChangeMaps (open_string shut_string)
set_option linter.unusedVariables false
theorem own : ownKnob Try.prog.godebug = none := by kernel_rfl
theorem laidOut : laidOutB Try.prog = true := by kernel_rfl
theorem two_strings {P : Program} {W : World} {t u : TypeId} {k : Nat} {base : Nat} {v : Value} (ht : P.underlying t = some (.array k u)) (hu : P.underlying u = some .string) (hc : P.cellsOf t = 2) (hcs : P.cellTypes P.depth t = some [u, u]) (h : Value.okWide P W .any base t v) : ∃ a b, v = .agg #[.string a, .string b] := by
  simp only [Value.okWide, ht] at h
  obtain ⟨cs, rfl, hs, ts, h1, _, h3⟩ := h
  rw [hcs] at h1
  obtain rfl := Option.some.inj h1
  rw [hc] at hs
  have e0 : cs[0]? = some (cs[0]'(by omega)) := Array.getElem?_eq_getElem (by omega)
  have e1 : cs[1]? = some (cs[1]'(by omega)) := Array.getElem?_eq_getElem (by omega)
  obtain ⟨u0, hu0, g0⟩ := h3 0 _ e0
  obtain ⟨u1, hu1, g1⟩ := h3 1 _ e1
  obtain rfl : u = u0 := by simpa using hu0
  obtain rfl : u = u1 := by simpa using hu1
  have s0 : ∃ a, cs[0]'(by omega) = .string a := by
    generalize cs[0]'(by omega) = x at g0
    simp only [Cell.okWide, hu] at g0
    cases x <;> simp_all [Cell.ok]
  have s1 : ∃ a, cs[1]'(by omega) = .string a := by
    generalize cs[1]'(by omega) = x at g1
    simp only [Cell.okWide, hu] at g1
    cases x <;> simp_all [Cell.ok]
  obtain ⟨a, ha⟩ := s0
  obtain ⟨b, hb⟩ := s1
  refine ⟨a, b, ?_⟩
  congr 1
  apply Array.ext
  · simpa using hs
  · intro i h1 h2
    match i, h2 with
    | 0, _ => exact ha
    | 1, _ => exact hb
set_option maxRecDepth 100000 in
theorem lifted (os : Os) (started : os.Started) (H : Type) (enc : TypeId × Value → H) :
    ReturnsInHanded {} Try.checked os 5 .any (Rows.macSealsSpec.pre6 enc Try.prog Try.f5 Rows.macSealsRow.domain false) (Rows.macSealsSpec.post enc Try.prog Try.f5 false true false false) := by
  refine returnsInHanded_of_change_sized (C := Try.checked) own started (by kernel_rfl) Try.func5
    (ChangeSpec.witness6 (enc := enc) (C := Try.checked) false ⟨#[], #[.agg #[.string ByteArray.empty, .string ByteArray.empty], .string ByteArray.empty, .string ByteArray.empty], []⟩ 8 (by kernel_rfl) (by kernel_rfl) (by kernel_rfl) (by kernel_rfl)) ?_
  intro W base args ds gs before hval0 hW hcnd hsz0 _
  have hval : ∀ (j : Nat) t v, Try.f5.params[j]? = some t → args[j]? = some v → Value.okWide Try.prog W .any base t v := hval0
  have hW' := hW
  obtain ⟨p, q, hA0, hV, rfl, hfz, hnd⟩ := hW
  have hA : DataW.TrodAll enc Try.prog W 0 (fun _ => true) true Try.f5.params.toList args.toList ds p := hA0
  rw [Try.params5] at hA hval
  obtain ⟨v0, vs0, d0, ds0, p0, q0, hargs, rfl, rfl, h0, r0⟩ := trodAll_cons hA
  obtain ⟨v1, vs1, d1, ds1, p1, q1, rfl, rfl, rfl, h1, r1⟩ := trodAll_cons r0
  obtain ⟨v2, vs2, d2, ds2, p2, q2, rfl, rfl, rfl, h2, r2⟩ := trodAll_cons r1
  obtain ⟨rfl, rfl, rfl⟩ := trodAll_nil r2
  obtain rfl : args = #[v0, v1, v2] := by cases args; simp_all
  obtain ⟨rfl, rfl⟩ := trodVars_none hV
  have k0 := h0
  have lt0 : ∀ x ∈ p0, x.block < W.heap.size := by obtain ⟨m, hm⟩ := k0; exact DataW.trod_lt m _ _ _ hm
  obtain ⟨a0, b0, rfl⟩ := two_strings Try.underlying27 Try.underlying9 (by kernel_rfl) (by kernel_rfl) (hval 0 27 v0 rfl rfl)
  obtain ⟨a1, rfl, rfl, rfl, y1⟩ := open_string Try.underlying9 (hval 1 9 v1 rfl rfl) h1
  obtain ⟨a2, rfl, rfl, rfl, y2⟩ := open_string Try.underlying9 (hval 2 9 v2 rfl rfl) h2
  clear hA0 hval0 hsz0
  refine ((fun a b c d W => Go.X.walkMacSeals a b c d W) a0 b0 a1 a2  W).mono fun e W' ⟨he, bel⟩ => ?_
  subst he
  exact ⟨_, rfl, _, _, _, [], _, [], hW', trodAll_mk1 (shut_bool Try.underlying4 _), (trodAll_cons_mk (Below.trod laidOut (by kernel_rfl) (of_decide_eq_true (by kernel_rfl)) k0 bel lt0) (trodAll_cons_mk (shut_string Try.underlying9 y1) (trodAll_cons_mk (shut_string Try.underlying9 y2) trodAll_mk0))), rfl, bel.frame _, fun h => by cases h⟩
theorem over : Rows.macSealsRow.holds Try.pinned (OpenSpec.ofChange Rows.macSealsSpec) :=
  OpenClaim.holds_of_wide 5 Try.f5 rfl rfl rfl rfl rfl rfl rfl ⟨rfl, rfl, rfl, rfl, rfl⟩ rfl rfl rfl rfl rfl (by kernel_rfl) Try.func5 (by kernel_rfl)
    (of_decide_eq_true (by kernel_rfl)) (by unfold Func.isWrapper; first | (rw [if_pos (by decide +kernel)]; kernel_rfl) | (rw [if_neg (by decide +kernel)]; exact ⟨rfl, rfl⟩))
    (fun os started H enc _ => lifted os started H enc)
end Go.Proofs.Ytmhkcnibbodjnaa.macSeals
namespace Go.Proofs.Ytmhkcnibbodjnaa
/-- The row. -/
theorem macSeals_holds : Rows.MacSealsSaid := macSeals.over
#print axioms macSeals_holds
end Go.Proofs.Ytmhkcnibbodjnaa

