/- A nil light client: the whole statement is run. -/
import Derived.Test.YtbbmklepnfmppaaGreatXJ
set_option linter.unusedSimpArgs false
set_option linter.unusedVariables false
set_option maxHeartbeats 2000000
section
open Go Go.X Go.Proofs Go.RowKit
namespace Go.X
set_option linter.unusedVariables false
theorem runLight (n : Int) (p q r s : ByteArray) (a : Option Addr) (len cap : Nat) : isV (.bool true) (call (Tab Tryz.prog Z2) 600 7 [.string s, .agg [.int .u64 n, .string p, .string q, .string r, .slice a len cap].toArray] (inHeap 1)) = true := by kernel_rfl
theorem walkLightNil (s : ByteArray) (n : Int) (p q r : ByteArray) (sv : Value) (w : World) (hsv : InSlice w sv) : Calls Tryz.prog 7 #[.string s, .agg [.int .u64 n, .string p, .string q, .string r, sv].toArray] w fun e w' => e = .returned (.bool true) ∧ Below w.heap.size w w' := by
  obtain ⟨a, len, cap, hf⟩ := hsv.form 0
  obtain ⟨h', e⟩ := isV_some (runLight n p q r s a len cap)
  have hx : VRel (fun A => if A = 0 then locOf sv else none) (.slice a len cap) sv := by rw [← hf]; exact hsv.rel rfl
  refine calls_of_run (ρ := fun A => if A = 0 then locOf sv else none) zk2 (fun A hA => if_neg (by omega)) (fun A l hl => ?_) (.cons (.string s) (.cons (VRel.agg_ofL (.cons (.int _ _) (.cons (.string _) (.cons (.string _) (.cons (.string _) (.cons hx .nil)))))) .nil)) rfl e
  split at hl
  · exact hsv.loc hl
  · cases hl
end Go.X
end
