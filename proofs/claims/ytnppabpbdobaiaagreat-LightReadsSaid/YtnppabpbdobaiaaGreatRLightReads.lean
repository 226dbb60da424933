/- The statement LightReads: whatever the input, the law returns true and its arguments read afterwards as they read before. No condition. -/
import Derived.Test.YtnppabpbdobaiaaGreatXN
import Derived.Test.YtnppabpbdobaiaaGreatRows
import Derived.WalkKit
import Derived.ProofKit
import Derived.OpenShut
import Derived.ShutString
import Derived.ChangeOld
import Derived.Below
import Derived.SizedLaws
namespace Go.Proofs.YtnppabpbdobaiaaGreat.lightReads
open Go.ChangeShapes Go.WideShapes Go.ChangeAt Go.RowKit
open Go.ChangeMaps (open_string shut_string)
set_option linter.unusedVariables false
theorem own : ownKnob Tryz.prog.godebug = none := by kernel_rfl
theorem laidOut : laidOutB Tryz.prog = true := by kernel_rfl
theorem c3 : Tryz.prog.cellsOf 3 = 1 := by kernel_rfl
theorem c9 : Tryz.prog.cellsOf 9 = 1 := by kernel_rfl
theorem c23 : Tryz.prog.cellsOf 23 = 1 := by kernel_rfl
theorem c85 : Tryz.prog.cellsOf 85 = 1 := by kernel_rfl
theorem c179 : Tryz.prog.cellsOf 179 = 2 := by kernel_rfl
set_option maxRecDepth 100000 in
theorem lifted (os : Os) (started : os.Started) (H : Type) (enc : TypeId × Value → H) :
    ReturnsInHanded {} Tryz.checked os 10 .any (Rows.lightReadsSpec.pre6 enc Tryz.prog Tryz.f10 Rows.lightReadsRow.domain false) (Rows.lightReadsSpec.post enc Tryz.prog Tryz.f10 false true false false) := by
  refine returnsInHanded_of_change_sized (C := Tryz.checked) own started (by kernel_rfl) Tryz.func10
    (ChangeSpec.witness6 (enc := enc) (C := Tryz.checked) false ⟨#[], #[.string ByteArray.empty, .agg #[.int .u64 0, .string ByteArray.empty, .string ByteArray.empty, .string ByteArray.empty, .slice none 0 0], .agg #[.slice none 0 0]], []⟩ 8 (by kernel_rfl) (by kernel_rfl) (by kernel_rfl) (by kernel_rfl)) ?_
  intro W base args ds gs before hval0 hW hcnd hsz0 _
  have hval : ∀ (j : Nat) t v, Tryz.f10.params[j]? = some t → args[j]? = some v → Value.okWide Tryz.prog W .any base t v := hval0
  have hW' := hW
  obtain ⟨p, q, hA0, hV, rfl, hfz, hnd⟩ := hW
  have hA : DataW.TrodAll enc Tryz.prog W 0 (fun _ => true) true Tryz.f10.params.toList args.toList ds p := hA0
  rw [Tryz.params10] at hA hval
  obtain ⟨v0, vs0, d0, ds0, p0, q0, hargs, rfl, rfl, h0, r0⟩ := trodAll_cons hA
  obtain ⟨v1, vs1, d1, ds1, p1, q1, rfl, rfl, rfl, h1, r1⟩ := trodAll_cons r0
  obtain ⟨v2, vs2, d2, ds2, p2, q2, rfl, rfl, rfl, h2, r2⟩ := trodAll_cons r1
  obtain ⟨rfl, rfl, rfl⟩ := trodAll_nil r2
  obtain rfl : args = #[v0, v1, v2] := by cases args; simp_all
  obtain ⟨rfl, rfl⟩ := trodVars_none hV
  obtain ⟨a0, rfl, rfl, rfl, y0⟩ := open_string Tryz.underlying9 (hval 0 9 v0 rfl rfl) h0
  have k1 := h1
  have lt1 : ∀ x ∈ p1, x.block < W.heap.size := by obtain ⟨m, hm⟩ := k1; exact DataW.trod_lt m _ _ _ hm
  have k2 := h2
  have lt2 : ∀ x ∈ p2, x.block < W.heap.size := by obtain ⟨m, hm⟩ := k2; exact DataW.trod_lt m _ _ _ hm
  obtain ⟨cs, rfl, hcs⟩ := Go.X.open_cells (ts := [32, 9, 9, 9, 23]) Tryz.underlying34 (by kernel_rfl) (by kernel_rfl) (hval 1 34 v1 rfl rfl)
  cases hcs with | cons g0 hcs =>
  cases hcs with | cons g1 hcs =>
  cases hcs with | cons g2 hcs =>
  cases hcs with | cons g3 hcs =>
  cases hcs with | cons g4 hcs =>
  cases hcs
  obtain ⟨n, rfl, hn⟩ := Go.X.cell_u64 Tryz.underlying32 g0
  obtain ⟨b1, rfl⟩ := Go.X.cell_str Tryz.underlying9 g1
  obtain ⟨b2, rfl⟩ := Go.X.cell_str Tryz.underlying9 g2
  obtain ⟨b3, rfl⟩ := Go.X.cell_str Tryz.underlying9 g3
  obtain ⟨ct, rfl, hct⟩ := Go.X.open_cells (ts := [85]) Tryz.underlying87 (by kernel_rfl) (by kernel_rfl) (hval 2 87 v2 rfl rfl)
  cases hct with | cons g5 hct =>
  cases hct
  obtain ⟨f1, hf1⟩ := h1
  obtain ⟨m1, z1, e1⟩ := Go.X.field_at Tryz.underlying34 hf1 4 rfl rfl rfl c23 rfl
  obtain ⟨ml, yy0, nn0, oo0, kk0, i0, hb0, hl0⟩ := Go.X.ins_ints Tryz.underlying23 Tryz.underlying3 c3 e1 rfl (Go.X.cell_sl Tryz.underlying23 g4)
  obtain ⟨f2, hf2⟩ := h2
  obtain ⟨m2, z2, e2⟩ := Go.X.field_at Tryz.underlying87 hf2 0 rfl rfl rfl c85 rfl
  obtain ⟨tl, yy1, nn1, oo1, kk1, i1, hb1, hl1⟩ := Go.X.ins_tags Tryz.underlying85 Tryz.underlying179 ⟨rfl, rfl⟩ ⟨rfl, rfl⟩ Tryz.underlying3 Tryz.underlying9 c179 c3 c9 e2 rfl (Go.X.cell_sl Tryz.underlying85 g5)
  clear hA0 hval0 hsz0
  have walk := Go.X.walkLightReads a0 y0 ⟨n, b1.data.toList, b2.data.toList, b3.data.toList, ml⟩ hn hl0 hb0 tl hl1 hb1 i0 i1
  simp only [Go.X.hcells, Go.X.strOf_data] at walk
  refine walk.mono fun e W' ⟨he, bel⟩ => ?_
  subst he
  exact ⟨_, rfl, _, _, _, [], _, [], hW', trodAll_mk1 (shut_bool Tryz.underlying4 _), (trodAll_cons_mk (shut_string Tryz.underlying9 y0) (trodAll_cons_mk (Below.trod laidOut (by kernel_rfl) (of_decide_eq_true (by kernel_rfl)) k1 bel lt1) (trodAll_cons_mk (Below.trod laidOut (by kernel_rfl) (of_decide_eq_true (by kernel_rfl)) k2 bel lt2) trodAll_mk0))), rfl, bel.frame _, fun h => by cases h⟩
theorem named : Tryz.pinned.checked.prog.funcNamed Rows.lightReadsRow.func = some 10 := by kernel_rfl
theorem j1 : (Rows.lightReadsRow.inPlace == Tryz.pinned.checked.prog.inPlace 10) = true := by kernel_rfl
theorem j2 : (Rows.lightReadsRow.unfollowed == Tryz.pinned.checked.prog.unfollowed 10) = true := by kernel_rfl
theorem j3 : (Rows.lightReadsRow.recurses == Tryz.pinned.checked.prog.recurses 10) = true := by kernel_rfl
theorem j4 : (Rows.lightReadsRow.named == Tryz.pinned.checked.prog.varsNamed 10) = true := by kernel_rfl
theorem closed : joinedFacts Tryz.pinned.checked.prog 10 Tryz.f10 Rows.lightReadsSpec Rows.lightReadsRow = true := by
  unfold joinedFacts
  rw [j1, j2, j3, j4]
  kernel_rfl
theorem inst : Tryz.f10.isInstance Tryz.pinned.checked.prog Rows.lightReadsRow.origin Rows.lightReadsRow.targs := of_decide_eq_true (by kernel_rfl)
theorem over : Rows.lightReadsRow.holds Tryz.pinned (OpenSpec.ofChange Rows.lightReadsSpec) :=
  OpenClaim.holds_of_wide 10 Tryz.f10 rfl rfl rfl rfl rfl rfl rfl ⟨rfl, rfl, rfl, rfl, rfl⟩ rfl rfl rfl rfl rfl named Tryz.func10 closed inst
    (by unfold Func.isWrapper; first | (rw [if_pos (by decide +kernel)]; kernel_rfl) | (rw [if_neg (by decide +kernel)]; exact ⟨rfl, rfl⟩))
    (fun os started H enc _ => lifted os started H enc)
end Go.Proofs.YtnppabpbdobaiaaGreat.lightReads
namespace Go.Proofs.YtnppabpbdobaiaaGreat
/-- The row. -/
theorem lightReads_holds : Rows.LightReadsSaid := lightReads.over
#print axioms lightReads_holds
end Go.Proofs.YtnppabpbdobaiaaGreat
