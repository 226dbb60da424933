/- Of a chain without blocks nothing is proved: the whole statement is run. -/
import Derived.Test.YtbbmklepnfmppaaGreatXJ
import Derived.Test.YtbbmklepnfmppaaGreatXL
set_option linter.unusedSimpArgs false
set_option linter.unusedVariables false
set_option maxHeartbeats 2000000
section
open Go Go.X Go.Proofs Go.RowKit
namespace Go.X
set_option linter.unusedVariables false
def Z5 : List (Nat × Prim) := (30, zY trueS) :: Z4
theorem zk5 : XOK Tryz.prog (Tab Tryz.prog Z5) := Tab.closed zk4 fun args v h => by
  obtain ⟨rfl, rfl⟩ := nilary (s := trueS) (fun _ _ => rfl) rfl h
  obtain ⟨h', e⟩ := isV_some awakeP
  exact ⟨rfl, rfl, 600, h', e⟩
theorem runProof (s : ByteArray) (n1 n2 m1 m2 m3 m4 : Int) (p1 p2 p3 p4 p5 p6 p7 q1 q2 q3 : ByteArray) (b1 b2 : Bool) (a1 a2 a3 c1 c2 c3 c4 : Option Addr) (l1 k1 l2 k2 l3 k3 i1 j1 i2 j2 i3 j3 i4 j4 : Nat) :
    isV (.bool true) (call (Tab Tryz.prog Z5) 600 6 [.string s, .agg [.int .u64 n1, .string p1, .string p2, .string p3, .slice a1 l1 k1, .slice a2 l2 k2, .string p4, .bool b1, .string p5, .slice a3 l3 k3, .bool b2, .string p6, .string p7].toArray,
      .agg [.int .u64 n2, .string q1, .string q2, .string q3, .slice c1 i1 j1, .slice c2 i2 j2, .int .u64 m1, .int .u64 m2, .slice c3 i3 j3, .int .i64 m3, .int .i64 m4, .slice c4 i4 j4].toArray] (inHeap 7)) = true := by kernel_rfl
def seven (x0 x1 x2 x3 x4 x5 x6 : Value) : Ren
  | 0 => locOf x0
  | 1 => locOf x1
  | 2 => locOf x2
  | 3 => locOf x3
  | 4 => locOf x4
  | 5 => locOf x5
  | 6 => locOf x6
  | _ => none
theorem walkProofNone (s : ByteArray) (n1 n2 m1 m2 m3 m4 : Int) (p1 p2 p3 p4 p5 p6 p7 q1 q2 q3 : ByteArray) (b1 b2 : Bool) (x0 x1 x2 x3 x4 x5 x6 : Value) (w : World) (h0 : InSlice w x0) (h1 : InSlice w x1) (h2 : InSlice w x2) (h3 : InSlice w x3) (h4 : InSlice w x4) (h5 : InSlice w x5) (h6 : InSlice w x6) :
    Calls Tryz.prog 6 #[.string s, .agg [.int .u64 n1, .string p1, .string p2, .string p3, x0, x1, .string p4, .bool b1, .string p5, x2, .bool b2, .string p6, .string p7].toArray,
      .agg [.int .u64 n2, .string q1, .string q2, .string q3, x3, x4, .int .u64 m1, .int .u64 m2, x5, .int .i64 m3, .int .i64 m4, x6].toArray] w fun e w' => e = .returned (.bool true) ∧ Below w.heap.size w w' := by
  obtain ⟨a1, l1, k1, f0⟩ := h0.form 0
  obtain ⟨a2, l2, k2, f1⟩ := h1.form 1
  obtain ⟨a3, l3, k3, f2⟩ := h2.form 2
  obtain ⟨c1, i1, j1, f3⟩ := h3.form 3
  obtain ⟨c2, i2, j2, f4⟩ := h4.form 4
  obtain ⟨c3, i3, j3, f5⟩ := h5.form 5
  obtain ⟨c4, i4, j4, f6⟩ := h6.form 6
  obtain ⟨h', e⟩ := isV_some (runProof s n1 n2 m1 m2 m3 m4 p1 p2 p3 p4 p5 p6 p7 q1 q2 q3 b1 b2 a1 a2 a3 c1 c2 c3 c4 l1 k1 l2 k2 l3 k3 i1 j1 i2 j2 i3 j3 i4 j4)
  rw [← f0, ← f1, ← f2, ← f3, ← f4, ← f5, ← f6] at e
  refine calls_of_run (ρ := seven x0 x1 x2 x3 x4 x5 x6) zk5 (fun A hA => ?_) (fun A l hl => ?_) (.cons (.string s) (.cons (VRel.agg_ofL (.cons (.int _ _) (.cons (.string _) (.cons (.string _) (.cons (.string _) (.cons (h0.rel rfl) (.cons (h1.rel rfl) (.cons (.string _) (.cons (.bool _) (.cons (.string _) (.cons (h2.rel rfl) (.cons (.bool _) (.cons (.string _) (.cons (.string _) .nil))))))))))))))
    (.cons (VRel.agg_ofL (.cons (.int _ _) (.cons (.string _) (.cons (.string _) (.cons (.string _) (.cons (h3.rel rfl) (.cons (h4.rel rfl) (.cons (.int _ _) (.cons (.int _ _) (.cons (h5.rel rfl) (.cons (.int _ _) (.cons (.int _ _) (.cons (h6.rel rfl) .nil))))))))))))) .nil))) rfl e
  · match A, hA with
    | A + 7, _ => rfl
  · match A, hl with
    | 0, hl => exact h0.loc hl
    | 1, hl => exact h1.loc hl
    | 2, hl => exact h2.loc hl
    | 3, hl => exact h3.loc hl
    | 4, hl => exact h4.loc hl
    | 5, hl => exact h5.loc hl
    | 6, hl => exact h6.loc hl
    | A + 7, hl => cases hl
end Go.X
end
