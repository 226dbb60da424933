/- The laws of sealing in plain words, the table. -/
import Derived.Test.YtmhkcnibbodjnaaXJ
import Derived.Test.YtmhkcnibbodjnaaXL
import Derived.Test.YtmhkcnibbodjnaaXM
set_option linter.unusedSimpArgs false
set_option linter.unusedVariables false
set_option maxHeartbeats 2000000
section
open Go Go.X
namespace Go.X
set_option linter.unusedVariables false
def sealG : Prim := fun args h => match args with
  | [.pointer (some a), .int .i64 x, .int .i64 y, .string s] => match zy h a with
    | some l => if zAW l = true then some (.tuple #[.string (zB (sealP l x y s.data.toList).1), .int .i64 ((sealP l x y s.data.toList).2 : Int)], h) else none
    | none => none
  | _ => none
def openG : Prim := fun args h => match args with
  | [.pointer (some a), .int .i64 b, .string s] => match zy h a with
    | some l => if zAW l = true ∧ s.data.toList.length + 4000 ≤ zU then some (.tuple #[.int .i64 ((openP l b s.data.toList).1 : Int), .string (zB (openP l b s.data.toList).2.1), .int .i64 ((openP l b s.data.toList).2.2 : Int)], h) else none
    | none => none
  | _ => none
def text3S : List Value → Option Value
  | [.string s] => if s.data.toList.length + 4 ≤ zU then some (.string (zB (numB s.data.toList.length 4 ++ s.data.toList))) else none
  | _ => none
def zBI : List UInt8 := [115, 101, 101, 100]
end Go.X
end
section
open Go Go.X
namespace Go.X
set_option linter.unusedVariables false
end Go.X
end
section
open Go Go.X
namespace Go.X
set_option linter.unusedVariables false
theorem zJf {n a : Nat} (ha : a < n) : keyP (zBH zBI n) (a : Int) = (zA1 zBI a, true) := by
  unfold keyP
  rw [zKF]
  simp only [Int.toNat_natCast]
  rw [zWm ha]
  simp
  omega
end Go.X
end
section
open Go Go.X Go.Proofs Go.RowKit
namespace Go.X
set_option linter.unusedVariables false
def S1 : List (Nat × Prim) := (90, za zBK) :: R7
def S2 : List (Nat × Prim) := (65, za saidS) :: S1
def S3 : List (Nat × Prim) := (30, sealG) :: S2
def S4 : List (Nat × Prim) := (33, openG) :: S3
def S5 : List (Nat × Prim) := (40, za zBK) :: S4
def S6 : List (Nat × Prim) := (73, za text3S) :: S5
theorem zGc {args : List Value} {v : Value} (h : zBK args = some v) : args.length = 2 ∧ zr v = true ∧ ∀ pr h, pr.prim 40 = none → pr.code 40 = some xq40 → Comes pr xq40 args h v := by
  unfold zBK at h
  split at h
  · rename_i n k
    split at h
    · rename_i hc
      cases h
      refine ⟨rfl, rfl, fun pr h h1 h2 => ?_⟩
      have := zJo pr h1 h2 k.toNat n.toNat h (by omega) (by omega)
      rw [show (k.toNat : Int) = k by omega] at this
      have e : uw .u64 n.toNat = .int .u64 n := by unfold uw; rw [zDj, Nat.mod_eq_of_lt (by omega)]; congr 1; omega
      rw [e] at this
      exact this
    · cases h
  · cases h
theorem sk1 : XOK Try.prog (Tab Try.prog S1) := Tab.pure rk7 Try.func90 cq90 fun args v h => ⟨(zHR h).1, (zHR h).2.1, fun g => (zHR h).2.2 _ g⟩
end Go.X
end
