/- The statement LightNil: whatever the input, the law returns true and its arguments read afterwards as they read before. No condition. -/
import Derived.Test.YtbbmklepnfmppaaGreatXK
import Derived.Test.YtbbmklepnfmppaaGreatRows
import Derived.WalkKit
import Derived.ProofKit
import Derived.OpenShut
import Derived.ShutString
import Derived.ChangeOld
import Derived.Below
import Derived.SizedLaws
namespace Go.Proofs.YtbbmklepnfmppaaGreat.lightNil
open Go.ChangeShapes Go.WideShapes Go.ChangeAt Go.RowKit
open Go.ChangeMaps (open_string shut_string)
set_option linter.unusedVariables false
theorem own : ownKnob Tryz.prog.godebug = none := by kernel_rfl
theorem laidOut : laidOutB Tryz.prog = true := by kernel_rfl
set_option maxRecDepth 100000 in
theorem lifted (os : Os) (started : os.Started) (H : Type) (enc : TypeId × Value → H) :
    ReturnsInHanded {} Tryz.checked os 7 .any (Rows.lightNilSpec.pre6 enc Tryz.prog Tryz.f7 Rows.lightNilRow.domain false) (Rows.lightNilSpec.post enc Tryz.prog Tryz.f7 false true false false) := by
  refine returnsInHanded_of_change_sized (C := Tryz.checked) own started (by kernel_rfl) Tryz.func7
    (ChangeSpec.witness6 (enc := enc) (C := Tryz.checked) false ⟨#[], #[.string ByteArray.empty, .agg #[.int .u64 0, .string ByteArray.empty, .string ByteArray.empty, .string ByteArray.empty, .slice none 0 0]], []⟩ 8 (by kernel_rfl) (by kernel_rfl) (by kernel_rfl) (by kernel_rfl)) ?_
  intro W base args ds gs before hval0 hW hcnd hsz0 _
  have hval : ∀ (j : Nat) t v, Tryz.f7.params[j]? = some t → args[j]? = some v → Value.okWide Tryz.prog W .any base t v := hval0
  have hW' := hW
  obtain ⟨p, q, hA0, hV, rfl, hfz, hnd⟩ := hW
  have hA : DataW.TrodAll enc Tryz.prog W 0 (fun _ => true) true Tryz.f7.params.toList args.toList ds p := hA0
  rw [Tryz.params7] at hA hval
  obtain ⟨v0, vs0, d0, ds0, p0, q0, hargs, rfl, rfl, h0, r0⟩ := trodAll_cons hA
  obtain ⟨v1, vs1, d1, ds1, p1, q1, rfl, rfl, rfl, h1, r1⟩ := trodAll_cons r0
  obtain ⟨rfl, rfl, rfl⟩ := trodAll_nil r1
  obtain rfl : args = #[v0, v1] := by cases args; simp_all
  obtain ⟨rfl, rfl⟩ := trodVars_none hV
  obtain ⟨a0, rfl, rfl, rfl, y0⟩ := open_string Tryz.underlying9 (hval 0 9 v0 rfl rfl) h0
  have k1 := h1
  have lt1 : ∀ x ∈ p1, x.block < W.heap.size := by obtain ⟨m, hm⟩ := k1; exact DataW.trod_lt m _ _ _ hm
  obtain ⟨cs, rfl, hcs⟩ := Go.X.open_cells (ts := [32, 9, 9, 9, 23]) Tryz.underlying34 (by kernel_rfl) (by kernel_rfl) (hval 1 34 v1 rfl rfl)
  cases hcs with | cons g0 hcs =>
  cases hcs with | cons g1 hcs =>
  cases hcs with | cons g2 hcs =>
  cases hcs with | cons g3 hcs =>
  cases hcs with | cons g4 hcs =>
  cases hcs
  obtain ⟨n, rfl⟩ := Go.X.cell_int Tryz.underlying32 g0
  obtain ⟨b1, rfl⟩ := Go.X.cell_str Tryz.underlying9 g1
  obtain ⟨b2, rfl⟩ := Go.X.cell_str Tryz.underlying9 g2
  obtain ⟨b3, rfl⟩ := Go.X.cell_str Tryz.underlying9 g3
  have i4 := Go.X.cell_slice Tryz.underlying23 g4
  clear hA0 hval0 hsz0
  refine (Go.X.walkLightNil a0 n b1 b2 b3 _ W i4).mono fun e W' ⟨he, bel⟩ => ?_
  subst he
  exact ⟨_, rfl, _, _, _, [], _, [], hW', trodAll_mk1 (shut_bool Tryz.underlying4 _), (trodAll_cons_mk (shut_string Tryz.underlying9 y0) (trodAll_cons_mk (Below.trod laidOut (by kernel_rfl) (of_decide_eq_true (by kernel_rfl)) k1 bel lt1) trodAll_mk0)), rfl, bel.frame _, fun h => by cases h⟩
theorem over : Rows.lightNilRow.holds Tryz.pinned (OpenSpec.ofChange Rows.lightNilSpec) :=
  OpenClaim.holds_of_wide 7 Tryz.f7 rfl rfl rfl rfl rfl rfl rfl ⟨rfl, rfl, rfl, rfl, rfl⟩ rfl rfl rfl rfl rfl (by kernel_rfl) Tryz.func7 (by kernel_rfl)
    (of_decide_eq_true (by kernel_rfl)) (by unfold Func.isWrapper; first | (rw [if_pos (by decide +kernel)]; kernel_rfl) | (rw [if_neg (by decide +kernel)]; exact ⟨rfl, rfl⟩))
    (fun os started H enc _ => lifted os started H enc)
end Go.Proofs.YtbbmklepnfmppaaGreat.lightNil
namespace Go.Proofs.YtbbmklepnfmppaaGreat
/-- The row. -/
theorem lightNil_holds : Rows.LightNilSaid := lightNil.over
#print axioms lightNil_holds
end Go.Proofs.YtbbmklepnfmppaaGreat

