/- The statement StateNil: whatever the input, the law returns true and its arguments read afterwards as they read before. No condition. -/
import Derived.Test.YtbbmklepnfmppaaXF
import Derived.Test.YtbbmklepnfmppaaRows
import Derived.WalkKit
import Derived.ProofKit
import Derived.OpenShut
import Derived.ShutString
import Derived.ChangeOld
import Derived.Below
import Derived.SizedLaws
namespace Go.Proofs.Ytbbmklepnfmppaa.stateNil
open Go.ChangeShapes Go.WideShapes Go.ChangeAt Go.RowKit
open Go.ChangeMaps (open_string shut_string)
set_option linter.unusedVariables false
theorem own : ownKnob Try.prog.godebug = none := by kernel_rfl
theorem laidOut : laidOutB Try.prog = true := by kernel_rfl
theorem u64_has {c : Int} (h : IntKind.u64.has c) : 0 ≤ c ∧ c < 18446744073709551616 := by
  have e1 : IntKind.u64.min = 0 := by decide
  have e2 : IntKind.u64.max = 18446744073709551615 := by decide
  obtain ⟨h1, h2⟩ := h
  rw [e1] at h1
  rw [e2] at h2
  omega
theorem tx_cells {P : Program} {W : World} {t u v : TypeId} {fs : Array Field} {el : TypeId} {base : Nat} {x : Value} (ht : P.underlying t = some (.struct fs)) (hu : P.underlying u = some (.int .u64)) (hv : P.underlying v = some (.slice el)) (hc : P.cellsOf t = 3) (hcs : P.cellTypes P.depth t = some [u, u, v]) (h : Value.okWide P W .any base t x) :
    ∃ a b sv, x = .agg #[.int .u64 a, .int .u64 b, sv] ∧ IntKind.u64.has a ∧ Go.X.InSlice W sv := by
  simp only [Value.okWide, ht] at h
  obtain ⟨cs, rfl, hs, ts, h1, _, h3⟩ := h
  rw [hcs] at h1
  obtain rfl := Option.some.inj h1
  rw [hc] at hs
  have e0 : cs[0]? = some (cs[0]'(by omega)) := Array.getElem?_eq_getElem (by omega)
  have e1 : cs[1]? = some (cs[1]'(by omega)) := Array.getElem?_eq_getElem (by omega)
  have e2 : cs[2]? = some (cs[2]'(by omega)) := Array.getElem?_eq_getElem (by omega)
  obtain ⟨u0, hu0, g0⟩ := h3 0 _ e0
  obtain ⟨u1, hu1, g1⟩ := h3 1 _ e1
  obtain ⟨u2, hu2, g2⟩ := h3 2 _ e2
  obtain rfl : u = u0 := by simpa using hu0
  obtain rfl : u = u1 := by simpa using hu1
  obtain rfl : v = u2 := by simpa using hu2
  have s0 : ∃ a, cs[0]'(by omega) = .int .u64 a ∧ IntKind.u64.has a := by
    generalize cs[0]'(by omega) = y at g0
    simp only [Cell.okWide, hu] at g0
    cases y <;> simp_all [Cell.ok]
  have s1 : ∃ a, cs[1]'(by omega) = .int .u64 a ∧ IntKind.u64.has a := by
    generalize cs[1]'(by omega) = y at g1
    simp only [Cell.okWide, hu] at g1
    cases y <;> simp_all [Cell.ok]
  have s2 : Go.X.InSlice W (cs[2]'(by omega)) := by
    generalize cs[2]'(by omega) = y at g2
    simp only [Cell.okWide, hv] at g2
    cases y
    case slice a len cap =>
      cases a with
      | none =>
        cases len <;> cases cap <;> simp only [Cell.ok, hv] at g2
        exact .inl rfl
      | some a =>
        simp only [Cell.ok, hv, World.has] at g2
        obtain ⟨hle, _, _, hsp, row, cells, hsh, _⟩ := g2
        refine .inr ⟨a, len, cap, rfl, hsp, hle, ?_⟩
        unfold World.shape? at hsh
        split at hsh
        · rename_i c elem fz hb
          exact (Array.getElem?_eq_some_iff.1 hb).1
        · cases hsh
    all_goals simp [Cell.ok, hv] at g2
  obtain ⟨a, ha, ga⟩ := s0
  obtain ⟨b, hb, _⟩ := s1
  refine ⟨a, b, _, ?_, ga, s2⟩
  congr 1
  apply Array.ext
  · simpa using hs
  · intro i h1 h2
    match i, h2 with
    | 0, _ => exact ha
    | 1, _ => exact hb
    | 2, _ => rfl
set_option maxRecDepth 100000 in
theorem lifted (os : Os) (started : os.Started) (H : Type) (enc : TypeId × Value → H) :
    ReturnsInHanded {} Try.checked os 3 .any (Rows.stateNilSpec.pre6 enc Try.prog Try.f3 Rows.stateNilRow.domain false) (Rows.stateNilSpec.post enc Try.prog Try.f3 false true false false) := by
  refine returnsInHanded_of_change_sized (C := Try.checked) own started (by kernel_rfl) Try.func3
    (ChangeSpec.witness6 (enc := enc) (C := Try.checked) false ⟨#[], #[.agg #[.int .u64 0, .int .u64 0, .slice none 0 0], .string ByteArray.empty], []⟩ 8 (by kernel_rfl) (by kernel_rfl) (by kernel_rfl) (by kernel_rfl)) ?_
  intro W base args ds gs before hval0 hW hcnd hsz0 _
  have hval : ∀ (j : Nat) t v, Try.f3.params[j]? = some t → args[j]? = some v → Value.okWide Try.prog W .any base t v := hval0
  have hW' := hW
  obtain ⟨p, q, hA0, hV, rfl, hfz, hnd⟩ := hW
  have hA : DataW.TrodAll enc Try.prog W 0 (fun _ => true) true Try.f3.params.toList args.toList ds p := hA0
  rw [Try.params3] at hA hval
  obtain ⟨v0, vs0, d0, ds0, p0, q0, hargs, rfl, rfl, h0, r0⟩ := trodAll_cons hA
  obtain ⟨v1, vs1, d1, ds1, p1, q1, rfl, rfl, rfl, h1, r1⟩ := trodAll_cons r0
  obtain ⟨rfl, rfl, rfl⟩ := trodAll_nil r1
  obtain rfl : args = #[v0, v1] := by cases args; simp_all
  obtain ⟨rfl, rfl⟩ := trodVars_none hV
  have k0 := h0
  have lt0 : ∀ x ∈ p0, x.block < W.heap.size := by obtain ⟨m, hm⟩ := k0; exact DataW.trod_lt m _ _ _ hm
  obtain ⟨c0, n0, sv, rfl, u0, i0⟩ := tx_cells Try.underlying25 Try.underlying22 Try.underlying23 (by kernel_rfl) (by kernel_rfl) (hval 0 25 v0 rfl rfl)
  obtain ⟨a1, rfl, rfl, rfl, y1⟩ := open_string Try.underlying9 (hval 1 9 v1 rfl rfl) h1
  have z1 : a1.data.toList.length ≤ reachBytes := by
    rw [Try.params3] at hsz0
    simp only [DataW.weightsEach, DataW.weights, List.cons_append, List.append_assoc, List.all_append, List.all_cons, List.all_nil, List.nil_append, Bool.and_eq_true, decide_eq_true_eq] at hsz0
    first | exact hsz0.2.1 | exact hsz0.2.1.1 | simp_all
  clear hA0 hval0 hsz0
  refine (Go.X.walkStateNil c0 n0 sv a1 W (u64_has u0) (by unfold reachBytes at z1; unfold Go.X.roomX; omega) i0).mono fun e W' ⟨he, bel⟩ => ?_
  subst he
  exact ⟨_, rfl, _, _, _, [], _, [], hW', trodAll_mk1 (shut_bool Try.underlying4 _), (trodAll_cons_mk (Below.trod laidOut (by kernel_rfl) (of_decide_eq_true (by kernel_rfl)) k0 bel lt0) (trodAll_cons_mk (shut_string Try.underlying9 y1) trodAll_mk0)), rfl, bel.frame _, fun h => by cases h⟩
theorem over : Rows.stateNilRow.holds Try.pinned (OpenSpec.ofChange Rows.stateNilSpec) :=
  OpenClaim.holds_of_wide 3 Try.f3 rfl rfl rfl rfl rfl rfl rfl ⟨rfl, rfl, rfl, rfl, rfl⟩ rfl rfl rfl rfl rfl (by kernel_rfl) Try.func3 (by kernel_rfl)
    (of_decide_eq_true (by kernel_rfl)) (by unfold Func.isWrapper; first | (rw [if_pos (by decide +kernel)]; kernel_rfl) | (rw [if_neg (by decide +kernel)]; exact ⟨rfl, rfl⟩))
    (fun os started H enc _ => lifted os started H enc)
end Go.Proofs.Ytbbmklepnfmppaa.stateNil
namespace Go.Proofs.Ytbbmklepnfmppaa
/-- The row. -/
theorem stateNil_holds : Rows.StateNilSaid := stateNil.over
#print axioms stateNil_holds
end Go.Proofs.Ytbbmklepnfmppaa

