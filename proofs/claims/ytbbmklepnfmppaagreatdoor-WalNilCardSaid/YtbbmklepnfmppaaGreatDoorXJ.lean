/- A nil log, no disk, a dead one: the whole statement. -/
import Derived.Test.YtbbmklepnfmppaaGreatDoorXH
import Derived.Test.YtbbmklepnfmppaaGreatDoorXI
set_option linter.unusedSimpArgs false
set_option linter.unusedVariables false
set_option maxHeartbeats 2000000
section
open Go Go.X Go.Proofs Go.RowKit
namespace Go.X
set_option linter.unusedVariables false
theorem runNil (a : Option Addr) (len cap : Nat) : ∀ n : Int, isV (.bool true) (call (Tab Tryz.prog D3) 600 6 [.slice a len cap, .int .i64 n] (inHeap 1)) = true
  | .negSucc k => runNil1 a len cap k
  | .ofNat 0 => runNil2 a len cap
  | .ofNat (k + 1) => runNil3 a len cap k
theorem walkWalNil (sv : Value) (n : Int) (w : World) (hsv : InSlice w sv) : Calls Tryz.prog 6 #[sv, .int .i64 n] w fun e w' => e = .returned (.bool true) ∧ Below w.heap.size w w' := by
  obtain ⟨a, len, cap, hf⟩ := hsv.form 0
  obtain ⟨h', e⟩ := isV_some (runNil a len cap n)
  have hx : VRel (fun A => if A = 0 then locOf sv else none) (.slice a len cap) sv := by rw [← hf]; exact hsv.rel rfl
  refine calls_of_run (ρ := fun A => if A = 0 then locOf sv else none) dk3 (fun A hA => if_neg (by omega)) (fun A l hl => ?_) (.cons hx (.cons (.int _ _) .nil)) rfl e
  split at hl
  · exact hsv.loc hl
  · cases hl
theorem arg_slice {P : Program} {W : World} {t el : TypeId} {base : Nat} {x : Value} (ht : P.underlying t = some (.slice el)) (h : Value.okWide P W .any base t x) : InSlice W x := by
  have g : Cell.okWide P W .any base t x := by simpa only [Value.okWide, ht] using h
  exact cell_slice ht g
end Go.X
end
