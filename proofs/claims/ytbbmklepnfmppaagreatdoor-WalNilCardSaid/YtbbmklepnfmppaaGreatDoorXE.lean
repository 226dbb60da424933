/- The table of what is told; arguments that are not looked into. -/
import Derived.Lib.Bytealg
import Derived.Test.YtbbmklepnfmppaaGreatDoorProg
import Derived.WalkKit
import Derived.WideWitness
import Derived.Test.YtbbmklepnfmppaaGreatDoorXC
import Derived.Test.YtbbmklepnfmppaaGreatDoorXD
set_option linter.unusedSimpArgs false
set_option linter.unusedVariables false
set_option maxHeartbeats 2000000
section
open Go Go.X Go.Proofs Go.RowKit
namespace Go.X
set_option linter.unusedVariables false
theorem mixed : Tryz.prog.follows .mixedOrders = true := by kernel_rfl
theorem callrel_of_below {P : Program} {f : Nat} {args : List Value} {v : Value} (ha : args.all flatV = true) (hv : flatV v = true) (hc : ∀ w, Calls P f args.toArray w fun e w' => e = .returned v ∧ Below w.heap.size w w') (h : Heap) : CallRel P f args h v h := by
  intro base ρ w args' hr wf hpre hargs
  have e : args' = args := by
    clear hr hpre hc
    induction hargs with
    | nil => rfl
    | cons h1 _ ih =>
      simp only [List.all_cons, Bool.and_eq_true] at ha
      rw [flat_eq ha.1 h1, ih ha.2]
  subst e
  refine (hc w).mono fun e w' hq => ?_
  obtain ⟨rfl, q3⟩ := hq
  exact ⟨_, ρ, rfl, hr.below q3, wf, ⟨fun _ _ h => h, fun _ h => absurd rfl h, Nat.le_refl _, fun _ _ h => h, fun _ _ _ => ⟨rfl, rfl⟩, q3.mono hr.le, fun r h1 _ => q3.block r h1, fun A l h1 h2 => by rw [h1] at h2; cases h2⟩, flat_rel hv⟩
theorem Tab.below {P : Program} {l : List (Nat × Prim)} (ok : XOK P (Tab P l)) {f : Nat} (hcall : ze P f) {s : List Value → Option Value}
    (hs : ∀ args v, s args = some v → args.all flatV = true ∧ flatV v = true ∧ ∀ w, Calls P f args.toArray w fun e w' => e = .returned v ∧ Below w.heap.size w w') : XOK P (Tab P ((f, pureG s) :: l)) := by
  refine Tab.cons ok fun args h v h' hr => ?_
  unfold pureG at hr
  split at hr
  · rename_i v1 hv
    cases hr
    obtain ⟨h1, h2, h3⟩ := hs args v hv
    exact ⟨hcall, Nat.le_refl _, callrel_of_below h1 h2 h3 h⟩
  · cases hr
def cmpS : List Value → Option Value
  | [.string a, .string b] => some (.int .i64 (Lib.compareBytes a.data.toList b.data.toList))
  | _ => none
set_option maxHeartbeats 1000000 in
set_option maxRecDepth 100000 in
theorem cmp_calls (a b : ByteArray) (w : World) : Calls Tryz.prog 105 #[.string a, .string b] w fun e w' => e = .returned (.int .i64 (Lib.compareBytes a.data.toList b.data.toList)) ∧ w' = w := by
  have mixed := mixed
  have u3 := run_underlying Tryz.underlying3
  have u9 := run_underlying Tryz.underlying9
  go_enter Tryz.func105, Tryz.ntmps105
  go_wp2
  rw [run_callFunc_extern Tryz.func115 (by kernel_rfl) (by kernel_rfl) (by kernel_rfl) (e := Extern.BytealgCompare.compare) (by kernel_rfl), Lib.run_compareString]
  simp only [Result.andThen]
  rw [Oper.upon_value]
  go_wp2
  go_ret
  exact ⟨rfl, rfl⟩
theorem cmpS_ok {args : List Value} {v : Value} (h : cmpS args = some v) : args.all flatV = true ∧ flatV v = true ∧ ∀ w, Calls Tryz.prog 105 args.toArray w fun e w' => e = .returned v ∧ Below w.heap.size w w' := by
  unfold cmpS at h
  split at h
  · rename_i a b
    cases h
    refine ⟨rfl, rfl, fun w => (cmp_calls a b w).mono fun e w' hq => ?_⟩
    obtain ⟨rfl, rfl⟩ := hq
    exact ⟨rfl, Below.refl _ _⟩
  · cases h
def D1 : List (Nat × Prim) := [(105, pureG cmpS)]
theorem dk1 : XOK Tryz.prog (Tab Tryz.prog D1) := Tab.below (Tab.nil mixed) ⟨_, Tryz.func105, by decide +kernel, by kernel_rfl⟩ fun args v h => cmpS_ok h
def D2 : List (Nat × Prim) := (86, insertG 6 72) :: D1
theorem dk2 : XOK Tryz.prog (Tab Tryz.prog D2) := Tab.cons dk1 fun args h v h' hr => ⟨insEntryFn.call, insertG_next hr, insertG_ok insEntryFn hr⟩
def isV (v : Value) : Option (Value × Heap) → Bool
  | some (x, _) => zN x v
  | none => false
theorem isV_some {v : Value} {r : Option (Value × Heap)} (h : isV v r = true) : ∃ h', r = some (v, h') := by
  unfold isV at h
  split at h
  · rename_i x g
    exact ⟨g, by rw [sameV_eq h]⟩
  · cases h
end Go.X
end
section
open Go Go.X Go.Proofs Go.RowKit
namespace Go.X
set_option linter.unusedVariables false
def inHeap (n : Nat) : Heap := ⟨n, .leaf, .leaf⟩
theorem hrel_in {P : Program} {w : World} (k : Nat) (ρ : Ren) (hk : ∀ A, k ≤ A → ρ A = none) (hL : ∀ A l, ρ A = some l → l.b < w.heap.size) : HRel P w.heap.size ρ (inHeap k) w ∧ HWF (inHeap k) := by
  have hb : ∀ A, (inHeap k).blks.get A = none := fun A => PT.get_leaf A
  have hok : ∀ A c, ¬ (inHeap k).okCells A = some c := fun A c h => by have := (okCells_iff.1 h).1; rw [hb] at this; cases this
  refine ⟨⟨Nat.le_refl _, hL, fun A c h => (by rw [hb] at h; cases h), fun A c l h => absurd h (hok A c), fun A B c d l m _ h => absurd h (hok A c), fun A l es h => (by rw [hb] at h; cases h), fun A B es fs l m _ h => (by rw [hb] at h; cases h), ⟨k, hk⟩, fun A c f l h => absurd h (hok A c),
    ⟨fun A l r h => (by rw [hb] at h; cases h), fun A B r s l m _ h => (by rw [hb] at h; cases h), fun A l ⟨c, h, _⟩ => (by rw [hb] at h; cases h), fun A l es es' cl h => (by rw [hb] at h; cases h)⟩⟩,
    ⟨fun A _ => ⟨hb A, PT.get_leaf A⟩, fun A c h => (by rw [hb] at h; cases h), fun A c f h => absurd h (hok A c)⟩⟩
theorem calls_of_run {P : Program} {Pg : Prog} (ok : XOK P Pg) {n f k : Nat} {args args' : List Value} {v : Value} {h' : Heap} {ρ : Ren} {w : World} (hk : ∀ A, k ≤ A → ρ A = none) (hL : ∀ A l, ρ A = some l → l.b < w.heap.size) (ha : LRel ρ args args') (hv : flatV v = true) (hc : call Pg n f args (inHeap k) = some (v, h')) :
    Calls P f args'.toArray w fun e w' => e = .returned v ∧ Below w.heap.size w w' := by
  obtain ⟨hr, wf⟩ := hrel_in (P := P) k ρ hk hL
  obtain ⟨_, _, h4⟩ := (call_cfok ok n).fn f args (inHeap k) v h' hc
  refine (h4 w.heap.size ρ w args' hr wf (fun A hA _ => hk A hA) ha).mono fun e w' hq => ?_
  obtain ⟨v', ρ', rfl, q1, q2, q3, q4⟩ := hq
  exact ⟨by rw [flat_eq hv q4], q3.below⟩
def InSlice (w : World) (sv : Value) : Prop := sv = .slice none 0 0 ∨ ∃ a len cap, sv = .slice (some a) len cap ∧ a.spot = none ∧ len ≤ cap ∧ a.block < w.heap.size
def sliceAs (A : Nat) : Value → Value
  | .slice (some a) len cap => .slice (some ⟨A, a.off, none⟩) len cap
  | v => v
def locOf : Value → Option Loc
  | .slice (some a) _ _ => some ⟨a.block, 0, 0⟩
  | _ => none
theorem InSlice.loc {w : World} {sv : Value} (h : InSlice w sv) {l : Loc} (hl : locOf sv = some l) : l.b < w.heap.size := by
  rcases h with rfl | ⟨a, len, cap, rfl, hsp, hle, hb⟩
  · cases hl
  · cases hl; exact hb
theorem InSlice.rel {w : World} {sv : Value} (h : InSlice w sv) {ρ : Ren} {A : Nat} (hA : ρ A = locOf sv) : VRel ρ (sliceAs A sv) sv := by
  rcases h with rfl | ⟨⟨b, o, sp⟩, len, cap, rfl, hsp, hle, hb⟩
  · exact .nilslice
  · obtain rfl : sp = none := hsp
    exact VRel.slice (l := ⟨b, 0, 0⟩) hA hle (Nat.le_refl _) (fun _ => by simp) (fun _ => rfl) (fun q hq => by cases hq)
theorem InSlice.form {w : World} {sv : Value} (h : InSlice w sv) (A : Nat) : ∃ a len cap, sliceAs A sv = .slice a len cap := by
  rcases h with rfl | ⟨a, len, cap, rfl, _⟩
  · exact ⟨none, 0, 0, rfl⟩
  · exact ⟨_, _, _, rfl⟩
theorem cell_slice {P : Program} {W : World} {u el : TypeId} {base : Nat} {y : Value} (hu : P.underlying u = some (.slice el)) (g : Cell.okWide P W .any base u y) : InSlice W y := by
  simp only [Cell.okWide, hu] at g
  cases y
  case slice a len cap =>
    cases a with
    | none =>
      cases len <;> cases cap <;> simp only [Cell.ok, hu] at g
      exact .inl rfl
    | some a =>
      simp only [Cell.ok, hu, World.has] at g
      obtain ⟨hle, _, _, hsp, row, cells, hsh, _⟩ := g
      refine .inr ⟨a, len, cap, rfl, hsp, hle, ?_⟩
      unfold World.shape? at hsh
      split at hsh
      · rename_i c elem fz hb
        exact (Array.getElem?_eq_some_iff.1 hb).1
      · cases hsh
  all_goals simp [Cell.ok, hu] at g
end Go.X
end
