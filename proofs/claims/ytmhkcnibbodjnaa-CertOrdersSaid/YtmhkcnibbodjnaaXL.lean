/- Sealing and opening. -/
import Derived.Test.YtmhkcnibbodjnaaXJ
import Derived.Test.YtmhkcnibbodjnaaXK
set_option linter.unusedSimpArgs false
set_option linter.unusedVariables false
set_option maxHeartbeats 2000000
section
open Go Go.X
namespace Go.X
set_option linter.unusedVariables false
def zEU (a b : Nat) (s : List UInt8) : List UInt8 := tagged 77 [numB a 1, numB b 1, s]
def saidS : List Value → Option Value
  | [.int .i64 a, .int .i64 b, .string s] => if 0 ≤ a ∧ a < 9223372036854775808 ∧ 0 ≤ b ∧ b < 9223372036854775808 ∧ s.data.toList.length + 3000 ≤ zU then some (.string (zB (zEU a.toNat b.toNat s.data.toList))) else none
  | _ => none
def zG0 (a b : Int) (s : List UInt8) : Prop := a < 0 ∨ 16 ≤ a ∨ b < 0 ∨ 16 ≤ b ∨ 1048576 < s.length
instance {a b : Int} {s : List UInt8} : Decidable (zG0 a b s) := by unfold zG0; exact inferInstance
def msgB (a b : Nat) (s tag : List UInt8) : List UInt8 := numB a 1 ++ numB b 1 ++ (numB s.length 4 ++ s) ++ tag
def sealP (l : List (List UInt8)) (a b : Int) (s : List UInt8) : List UInt8 × Nat :=
  if zG0 a b s then ([], 1) else if (tagP l a (zEU a.toNat b.toNat s)).2 ≠ 0 then ([], (tagP l a (zEU a.toNat b.toNat s)).2) else (msgB a.toNat b.toNat s (zAJ (tagP l a (zEU a.toNat b.toNat s)).1), 0)
end Go.X
end
section
open Go Go.X
namespace Go.X
set_option linter.unusedVariables false
theorem ci64 {n : Nat} (hn : n < 9223372036854775808) : zAm .i64 (uw .u64 n) = some (.int .i64 (n : Int)) := by
  rw [← zBP (by omega), zA, wrap_i64 (by omega) (by omega)]
def o1 (s : List UInt8) : RS × Nat := zDS ⟨s, 0, 0⟩ 1
def o2 (s : List UInt8) : RS × Nat := zDS (o1 s).1 1
def o3 (s : List UInt8) : RS × List UInt8 := textR (o2 s).1 1048576
def o4 (s : List UInt8) : RS × List UInt8 := zEo (o3 s).1 32
def o5 (s : List UInt8) : RS := endR (o4 s).1
def openP (l : List (List UInt8)) (b : Int) (s : List UInt8) : Nat × List UInt8 × Nat :=
  if (o5 s).err ≠ 0 then (0, [], (o5 s).err) else if ((o2 s).2 : Int) ≠ b ∨ 16 ≤ (o1 s).2 then (0, [], 6)
  else if zCg l ((o1 s).2 : Int) (zEU (o1 s).2 (o2 s).2 (o3 s).2) (o4 s).2 then ((o1 s).2, (o3 s).2, 0) else (0, [], 20)
end Go.X
end
