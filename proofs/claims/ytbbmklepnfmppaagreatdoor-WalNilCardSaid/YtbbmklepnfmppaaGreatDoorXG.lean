/- The table goes on. -/
import Derived.Test.YtbbmklepnfmppaaGreatDoorXE
import Derived.Test.YtbbmklepnfmppaaGreatDoorXF
set_option linter.unusedSimpArgs false
set_option linter.unusedVariables false
set_option maxHeartbeats 2000000
section
open Go Go.X Go.Proofs Go.RowKit
namespace Go.X
set_option linter.unusedVariables false
def trueS : List Value → Option Value
  | [] => some (.bool true)
  | _ => none
theorem nilary {args : List Value} {v w : Value} {s : List Value → Option Value} (hs : ∀ a l, s (a :: l) = none) (hw : s [] = some w) (h : s args = some v) : args = [] ∧ v = w := by
  cases args with
  | nil => rw [hw] at h; exact ⟨rfl, (Option.some.inj h).symm⟩
  | cons a l => rw [hs] at h; cases h
def D3 : List (Nat × Prim) := (11, pureG trueS) :: D2
theorem dk3 : XOK Tryz.prog (Tab Tryz.prog D3) := Tab.closed dk2 fun args v h => by
  obtain ⟨rfl, rfl⟩ := nilary (s := trueS) (fun _ _ => rfl) rfl h
  obtain ⟨h', e⟩ := isV_some awD
  exact ⟨rfl, rfl, 600, h', e⟩
end Go.X
end
