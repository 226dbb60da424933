/- The statement ProofNone: whatever the input, the law returns true and its arguments read afterwards as they read before. No condition. -/
import Derived.Test.YtbbmklepnfmppaaGreatXM
import Derived.Test.YtbbmklepnfmppaaGreatRows
import Derived.WalkKit
import Derived.ProofKit
import Derived.OpenShut
import Derived.ShutString
import Derived.ChangeOld
import Derived.Below
import Derived.SizedLaws
namespace Go.Proofs.YtbbmklepnfmppaaGreat.proofNone
open Go.ChangeShapes Go.WideShapes Go.ChangeAt Go.RowKit
open Go.ChangeMaps (open_string shut_string)
set_option linter.unusedVariables false
theorem own : ownKnob Tryz.prog.godebug = none := by kernel_rfl
theorem laidOut : laidOutB Tryz.prog = true := by kernel_rfl
set_option maxRecDepth 100000 in
theorem lifted (os : Os) (started : os.Started) (H : Type) (enc : TypeId × Value → H) :
    ReturnsInHanded {} Tryz.checked os 6 .any (Rows.proofNoneSpec.pre6 enc Tryz.prog Tryz.f6 Rows.proofNoneRow.domain false) (Rows.proofNoneSpec.post enc Tryz.prog Tryz.f6 false true false false) := by
  refine returnsInHanded_of_change_sized (C := Tryz.checked) own started (by kernel_rfl) Tryz.func6
    (ChangeSpec.witness6 (enc := enc) (C := Tryz.checked) false ⟨#[], #[.string ByteArray.empty, .agg #[.int .u64 0, .string ByteArray.empty, .string ByteArray.empty, .string ByteArray.empty, .slice none 0 0, .slice none 0 0, .string ByteArray.empty, .bool false, .string ByteArray.empty, .slice none 0 0, .bool false, .string ByteArray.empty, .string ByteArray.empty], .agg #[.int .u64 0, .string ByteArray.empty, .string ByteArray.empty, .string ByteArray.empty, .slice none 0 0, .slice none 0 0, .int .u64 0, .int .u64 0, .slice none 0 0, .int .i64 0, .int .i64 0, .slice none 0 0]], []⟩ 8 (by kernel_rfl) (by kernel_rfl) (by kernel_rfl) (by kernel_rfl)) ?_
  intro W base args ds gs before hval0 hW hcnd hsz0 _
  have hval : ∀ (j : Nat) t v, Tryz.f6.params[j]? = some t → args[j]? = some v → Value.okWide Tryz.prog W .any base t v := hval0
  have hW' := hW
  obtain ⟨p, q, hA0, hV, rfl, hfz, hnd⟩ := hW
  have hA : DataW.TrodAll enc Tryz.prog W 0 (fun _ => true) true Tryz.f6.params.toList args.toList ds p := hA0
  rw [Tryz.params6] at hA hval
  obtain ⟨v0, vs0, d0, ds0, p0, q0, hargs, rfl, rfl, h0, r0⟩ := trodAll_cons hA
  obtain ⟨v1, vs1, d1, ds1, p1, q1, rfl, rfl, rfl, h1, r1⟩ := trodAll_cons r0
  obtain ⟨v2, vs2, d2, ds2, p2, q2, rfl, rfl, rfl, h2, r2⟩ := trodAll_cons r1
  obtain ⟨rfl, rfl, rfl⟩ := trodAll_nil r2
  obtain rfl : args = #[v0, v1, v2] := by cases args; simp_all
  obtain ⟨rfl, rfl⟩ := trodVars_none hV
  obtain ⟨a0, rfl, rfl, rfl, y0⟩ := open_string Tryz.underlying9 (hval 0 9 v0 rfl rfl) h0
  have k1 := h1
  have lt1 : ∀ x ∈ p1, x.block < W.heap.size := by obtain ⟨m, hm⟩ := k1; exact DataW.trod_lt m _ _ _ hm
  obtain ⟨cs1, rfl, hcs1⟩ := Go.X.open_cells (ts := [32, 9, 9, 9, 23, 72, 9, 4, 9, 75, 4, 9, 9]) Tryz.underlying81 (by kernel_rfl) (by kernel_rfl) (hval 1 81 v1 rfl rfl)
  cases hcs1 with | cons e0 hcs1 =>
  cases hcs1 with | cons e1 hcs1 =>
  cases hcs1 with | cons e2 hcs1 =>
  cases hcs1 with | cons e3 hcs1 =>
  cases hcs1 with | cons e4 hcs1 =>
  cases hcs1 with | cons e5 hcs1 =>
  cases hcs1 with | cons e6 hcs1 =>
  cases hcs1 with | cons e7 hcs1 =>
  cases hcs1 with | cons e8 hcs1 =>
  cases hcs1 with | cons e9 hcs1 =>
  cases hcs1 with | cons e10 hcs1 =>
  cases hcs1 with | cons e11 hcs1 =>
  cases hcs1 with | cons e12 hcs1 =>
  cases hcs1
  obtain ⟨ev0, rfl⟩ := Go.X.cell_int Tryz.underlying32 e0
  obtain ⟨ev1, rfl⟩ := Go.X.cell_str Tryz.underlying9 e1
  obtain ⟨ev2, rfl⟩ := Go.X.cell_str Tryz.underlying9 e2
  obtain ⟨ev3, rfl⟩ := Go.X.cell_str Tryz.underlying9 e3
  have es4 := Go.X.cell_slice Tryz.underlying23 e4
  have es5 := Go.X.cell_slice Tryz.underlying72 e5
  obtain ⟨ev6, rfl⟩ := Go.X.cell_str Tryz.underlying9 e6
  obtain ⟨ev7, rfl⟩ := Go.X.cell_bool Tryz.underlying4 e7
  obtain ⟨ev8, rfl⟩ := Go.X.cell_str Tryz.underlying9 e8
  have es9 := Go.X.cell_slice Tryz.underlying75 e9
  obtain ⟨ev10, rfl⟩ := Go.X.cell_bool Tryz.underlying4 e10
  obtain ⟨ev11, rfl⟩ := Go.X.cell_str Tryz.underlying9 e11
  obtain ⟨ev12, rfl⟩ := Go.X.cell_str Tryz.underlying9 e12
  have k2 := h2
  have lt2 : ∀ x ∈ p2, x.block < W.heap.size := by obtain ⟨m, hm⟩ := k2; exact DataW.trod_lt m _ _ _ hm
  obtain ⟨cs2, rfl, hcs2⟩ := Go.X.open_cells (ts := [32, 9, 9, 9, 23, 72, 32, 32, 82, 3, 3, 75]) Tryz.underlying86 (by kernel_rfl) (by kernel_rfl) (hval 2 86 v2 rfl rfl)
  cases hcs2 with | cons g0 hcs2 =>
  cases hcs2 with | cons g1 hcs2 =>
  cases hcs2 with | cons g2 hcs2 =>
  cases hcs2 with | cons g3 hcs2 =>
  cases hcs2 with | cons g4 hcs2 =>
  cases hcs2 with | cons g5 hcs2 =>
  cases hcs2 with | cons g6 hcs2 =>
  cases hcs2 with | cons g7 hcs2 =>
  cases hcs2 with | cons g8 hcs2 =>
  cases hcs2 with | cons g9 hcs2 =>
  cases hcs2 with | cons g10 hcs2 =>
  cases hcs2 with | cons g11 hcs2 =>
  cases hcs2
  obtain ⟨gv0, rfl⟩ := Go.X.cell_int Tryz.underlying32 g0
  obtain ⟨gv1, rfl⟩ := Go.X.cell_str Tryz.underlying9 g1
  obtain ⟨gv2, rfl⟩ := Go.X.cell_str Tryz.underlying9 g2
  obtain ⟨gv3, rfl⟩ := Go.X.cell_str Tryz.underlying9 g3
  have gs4 := Go.X.cell_slice Tryz.underlying23 g4
  have gs5 := Go.X.cell_slice Tryz.underlying72 g5
  obtain ⟨gv6, rfl⟩ := Go.X.cell_int Tryz.underlying32 g6
  obtain ⟨gv7, rfl⟩ := Go.X.cell_int Tryz.underlying32 g7
  have gs8 := Go.X.cell_slice Tryz.underlying82 g8
  obtain ⟨gv9, rfl⟩ := Go.X.cell_int Tryz.underlying3 g9
  obtain ⟨gv10, rfl⟩ := Go.X.cell_int Tryz.underlying3 g10
  have gs11 := Go.X.cell_slice Tryz.underlying75 g11
  clear hA0 hval0 hsz0
  refine (Go.X.walkProofNone a0 ev0 gv0 gv6 gv7 gv9 gv10 ev1 ev2 ev3 ev6 ev8 ev11 ev12 gv1 gv2 gv3 ev7 ev10 _ _ _ _ _ _ _ W es4 es5 es9 gs4 gs5 gs8 gs11).mono fun e W' ⟨he, bel⟩ => ?_
  subst he
  exact ⟨_, rfl, _, _, _, [], _, [], hW', trodAll_mk1 (shut_bool Tryz.underlying4 _), (trodAll_cons_mk (shut_string Tryz.underlying9 y0) (trodAll_cons_mk (Below.trod laidOut (by kernel_rfl) (of_decide_eq_true (by kernel_rfl)) k1 bel lt1) (trodAll_cons_mk (Below.trod laidOut (by kernel_rfl) (of_decide_eq_true (by kernel_rfl)) k2 bel lt2) trodAll_mk0))), rfl, bel.frame _, fun h => by cases h⟩
theorem over : Rows.proofNoneRow.holds Tryz.pinned (OpenSpec.ofChange Rows.proofNoneSpec) :=
  OpenClaim.holds_of_wide 6 Tryz.f6 rfl rfl rfl rfl rfl rfl rfl ⟨rfl, rfl, rfl, rfl, rfl⟩ rfl rfl rfl rfl rfl (by kernel_rfl) Tryz.func6 (by kernel_rfl)
    (of_decide_eq_true (by kernel_rfl)) (by unfold Func.isWrapper; first | (rw [if_pos (by decide +kernel)]; kernel_rfl) | (rw [if_neg (by decide +kernel)]; exact ⟨rfl, rfl⟩))
    (fun os started H enc _ => lifted os started H enc)
end Go.Proofs.YtbbmklepnfmppaaGreat.proofNone
namespace Go.Proofs.YtbbmklepnfmppaaGreat
/-- The row. -/
theorem proofNone_holds : Rows.ProofNoneSaid := proofNone.over
#print axioms proofNone_holds
end Go.Proofs.YtbbmklepnfmppaaGreat

