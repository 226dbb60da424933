/- The laws of sealing in plain words, the table. -/
import Derived.Test.YtmhkcnibbodjnaaXJ
import Derived.Test.YtmhkcnibbodjnaaXL
import Derived.Test.YtmhkcnibbodjnaaXM
set_option linter.unusedSimpArgs false
set_option linter.unusedVariables false
set_option maxHeartbeats 2000000
section
open Go Go.X
namespace Go.X
set_option linter.unusedVariables false
def sealG : Prim := fun args h => match args with
  | [.pointer (some a), .int .i64 x, .int .i64 y, .string s] => match zAC h a with
    | some l => if zAb l = true then some (.tuple #[.string (zB (sealP l x y s.data.toList).1), .int .i64 ((sealP l x y s.data.toList).2 : Int)], h) else none
    | none => none
  | _ => none
def openG : Prim := fun args h => match args with
  | [.pointer (some a), .int .i64 b, .string s] => match zAC h a with
    | some l => if zAb l = true ∧ s.data.toList.length + 4000 ≤ zU then some (.tuple #[.int .i64 ((openP l b s.data.toList).1 : Int), .string (zB (openP l b s.data.toList).2.1), .int .i64 ((openP l b s.data.toList).2.2 : Int)], h) else none
    | none => none
  | _ => none
def text3S : List Value → Option Value
  | [.string s] => if s.data.toList.length + 4 ≤ zU then some (.string (zB (numB s.data.toList.length 4 ++ s.data.toList))) else none
  | _ => none
def zBR : List UInt8 := [115, 101, 101, 100]
end Go.X
end
section
open Go Go.X
namespace Go.X
set_option linter.unusedVariables false
theorem zGh : ∀ (k n : Nat), n < 256 ^ k → numV (numB n k) = n
  | 0, n, h => by simp at h; subst h; rfl
  | k + 1, n, h => by
    rw [zGg, zGi, zGh k (n / 256) (by rw [Nat.pow_succ] at h; omega)]
    simp
    omega
theorem zXj (b : List UInt8) : numB (numV b) b.length = b := by
  induction h : b.length generalizing b with
  | zero => simp at h; subst h; rfl
  | succ n ih =>
    obtain ⟨c, x, rfl⟩ : ∃ c x, b = c ++ [x] := by
      rcases List.eq_nil_or_concat b with rfl | ⟨c, x, e⟩
      · simp at h
      · exact ⟨c, x, by simpa using e⟩
    have hc : c.length = n := by simpa using h
    have hx := x.toNat_lt
    rw [zGg, zGi, show (numV c * 256 + x.toNat) / 256 = numV c by omega, ih c hc]
    congr 2
    apply UInt8.toNat.inj
    simp
theorem zFx {s x y : List UInt8} {p n : Nat} (hp : s.drop p = x ++ y) (hn : x.length = n) (hx : p ≤ s.length) : ze ⟨s, p, 0⟩ (n : Int) = (⟨s, p + n, 0⟩, x) := by
  have hl := congrArg List.length hp
  simp only [List.length_drop, List.length_append] at hl
  unfold ze
  simp only
  rw [if_neg (by omega), if_neg (by omega), if_neg (by omega), Int.toNat_natCast, hp]
  subst hn
  simp
end Go.X
end
section
open Go Go.X
namespace Go.X
set_option linter.unusedVariables false
theorem zJv {n a : Nat} (ha : a < n) : keyP (zBQ zBR n) (a : Int) = (zBB zBR a, true) := by
  unfold keyP
  rw [zKc]
  simp only [Int.toNat_natCast]
  rw [zX3 ha]
  simp
  omega
end Go.X
end
section
open Go Go.X Go.Proofs Go.RowKit
namespace Go.X
set_option linter.unusedVariables false
def S1 : List (Nat × Prim) := (90, za zBT) :: R7
def S2 : List (Nat × Prim) := (65, za saidS) :: S1
def S3 : List (Nat × Prim) := (30, sealG) :: S2
def S4 : List (Nat × Prim) := (33, openG) :: S3
def S5 : List (Nat × Prim) := (40, za zBT) :: S4
def S6 : List (Nat × Prim) := (73, za text3S) :: S5
theorem zGf {args : List Value} {v : Value} (h : zBT args = some v) : args.length = 2 ∧ zw v = true ∧ ∀ pr h, pr.prim 40 = none → pr.code 40 = some xq40 → Comes pr xq40 args h v := by
  unfold zBT at h
  split at h
  · rename_i n k
    split at h
    · rename_i hc
      cases h
      refine ⟨rfl, rfl, fun pr h h1 h2 => ?_⟩
      have := zJ9 pr h1 h2 k.toNat n.toNat h (by omega) (by omega)
      rw [show (k.toNat : Int) = k by omega] at this
      have e : uw .u64 n.toNat = .int .u64 n := by unfold uw; rw [zDm, Nat.mod_eq_of_lt (by omega)]; congr 1; omega
      rw [e] at this
      exact this
    · cases h
  · cases h
theorem sk1 : XOK Try.prog (Tab Try.prog S1) := Tab.pure rk7 Try.func90 cq90 fun args v h => ⟨(zHW h).1, (zHW h).2.1, fun g => (zHW h).2.2 _ g⟩
end Go.X
end
