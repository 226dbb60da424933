/-
  No cell of these rows narrows 'for every input' (looked for: loops, veiled, ifaces, maps, wideKeys, modest, calm, conditions, laid).
  DERIVED. THE GIVEN ROWS OF THIS SEAT. 5 by the template 'for every input the law returns true; each argument reads behind the call as it read before'; 0 by the template 'total and deterministic' (their statements: YtbbmklepnfmppaaGreatTotals.lean).
  GIVEN WITH THE SEED: the statements are not yours to turn. If you find one false, say at which input.
  Laid BY PROGRAM, IN A SANDBOX (cutbox-rows.mjs): the forced cells as the released guide's own fill.sh prints them over the translation 9ede6345bab877ba… (all of the seat's roots in one cut). By AI agents, Wed Nov 11 2026. No macro, syntax, notation, axiom, sorry.
-/
import Derived.Test.YtbbmklepnfmppaaGreatChecked
import GoSem.Claim
import GoSem.ClaimJoined
import GoSem.ClaimMapViews
import Derived.JoinedTies
import Derived.KernelRfl
namespace Go.Proofs.YtbbmklepnfmppaaGreat
/- THE CELL 'sum', in the pinned program and in every row, IS THE sha256 OF THE DUMP (.gsa) THAT YtbbmklepnfmppaaGreatProg.lean LOADS. Nothing in Lean hashes anything: it is a label: what it is worth is what the hold of that sum in a sandbox is worth. -/
noncomputable def Tryz.pinned : Pinned := { name := "ytbbmklepnfmppaagreat", sum := "9ede6345bab877ba8f887419fb923f09a64f99c6ba0c3a3ce3823af56c209836", checked := Tryz.checked }
namespace Rows
def none {H : Type} : Left H := { results := [], args := [] }

/-- 'munimentlaw09.BlockNil': WHATEVER THE INPUT: true; the input reads as it did. -/
def blockNilSpec : ChangeSpec := { name := "blockNil", fn := fun _ => fun
  | [d1, d2] => { results := [.lit (.bool true)], args := [d1, d2] }
  | _ => none }
def blockNilRow : OpenClaim := { program := "ytbbmklepnfmppaagreat", sum := "9ede6345bab877ba8f887419fb923f09a64f99c6ba0c3a3ce3823af56c209836", func := "muniment/munimentlaw09.BlockNil", spec := "blockNil", inPlace := ["maps.clone"], unfollowed := true, recurses := true, apart := false }
def BlockNilSaid : Prop := blockNilRow.holds Tryz.pinned (OpenSpec.ofChange blockNilSpec)

/-- ITS FALSE NEIGHBOUR: 'it returns false'. Refute it at one input. -/
def blockNilWrong : ChangeSpec := { name := "blockNil", fn := fun _ => fun
  | [d1, d2] => { results := [.lit (.bool false)], args := [d1, d2] }
  | _ => none }
def BlockNilWrongFalsely : Prop := blockNilRow.holds Tryz.pinned (OpenSpec.ofChange blockNilWrong)

/-- 'munimentlaw10.ChainNames': WHATEVER THE INPUT: true; the input reads as it did. -/
def chainNamesSpec : ChangeSpec := { name := "chainNames", fn := fun _ => fun
  | [d1, d2, d3] => { results := [.lit (.bool true)], args := [d1, d2, d3] }
  | _ => none }
def chainNamesRow : OpenClaim := { program := "ytbbmklepnfmppaagreat", sum := "9ede6345bab877ba8f887419fb923f09a64f99c6ba0c3a3ce3823af56c209836", func := "muniment/munimentlaw10.ChainNames", spec := "chainNames", inPlace := ["maps.clone"], unfollowed := true, recurses := true, apart := false }
def ChainNamesSaid : Prop := chainNamesRow.holds Tryz.pinned (OpenSpec.ofChange chainNamesSpec)

/-- ITS FALSE NEIGHBOUR: 'it returns false'. Refute it at one input. -/
def chainNamesWrong : ChangeSpec := { name := "chainNames", fn := fun _ => fun
  | [d1, d2, d3] => { results := [.lit (.bool false)], args := [d1, d2, d3] }
  | _ => none }
def ChainNamesWrongFalsely : Prop := chainNamesRow.holds Tryz.pinned (OpenSpec.ofChange chainNamesWrong)

/-- 'munimentlaw10.ChainCuts': WHATEVER THE INPUT: true; the input reads as it did. -/
def chainCutsSpec : ChangeSpec := { name := "chainCuts", fn := fun _ => fun
  | [d1, d2, d3] => { results := [.lit (.bool true)], args := [d1, d2, d3] }
  | _ => none }
def chainCutsRow : OpenClaim := { program := "ytbbmklepnfmppaagreat", sum := "9ede6345bab877ba8f887419fb923f09a64f99c6ba0c3a3ce3823af56c209836", func := "muniment/munimentlaw10.ChainCuts", spec := "chainCuts", inPlace := ["maps.clone"], unfollowed := true, recurses := true, apart := false }
def ChainCutsSaid : Prop := chainCutsRow.holds Tryz.pinned (OpenSpec.ofChange chainCutsSpec)

/-- ITS FALSE NEIGHBOUR: 'it returns false'. Refute it at one input. -/
def chainCutsWrong : ChangeSpec := { name := "chainCuts", fn := fun _ => fun
  | [d1, d2, d3] => { results := [.lit (.bool false)], args := [d1, d2, d3] }
  | _ => none }
def ChainCutsWrongFalsely : Prop := chainCutsRow.holds Tryz.pinned (OpenSpec.ofChange chainCutsWrong)

/-- 'munimentlaw19.ProofNone': WHATEVER THE INPUT: true; the input reads as it did. -/
def proofNoneSpec : ChangeSpec := { name := "proofNone", fn := fun _ => fun
  | [d1, d2, d3] => { results := [.lit (.bool true)], args := [d1, d2, d3] }
  | _ => none }
def proofNoneRow : OpenClaim := { program := "ytbbmklepnfmppaagreat", sum := "9ede6345bab877ba8f887419fb923f09a64f99c6ba0c3a3ce3823af56c209836", func := "muniment/munimentlaw19.ProofNone", spec := "proofNone", inPlace := ["maps.clone", "internal/abi.NoEscape", "internal/bytealg.MakeNoZero", "slices.overlaps[muniment/api.Tag]"], unfollowed := true, recurses := true, apart := false }
def ProofNoneSaid : Prop := proofNoneRow.holds Tryz.pinned (OpenSpec.ofChange proofNoneSpec)

/-- ITS FALSE NEIGHBOUR: 'it returns false'. Refute it at one input. -/
def proofNoneWrong : ChangeSpec := { name := "proofNone", fn := fun _ => fun
  | [d1, d2, d3] => { results := [.lit (.bool false)], args := [d1, d2, d3] }
  | _ => none }
def ProofNoneWrongFalsely : Prop := proofNoneRow.holds Tryz.pinned (OpenSpec.ofChange proofNoneWrong)

/-- 'munimentlaw20.LightNil': WHATEVER THE INPUT: true; the input reads as it did. -/
def lightNilSpec : ChangeSpec := { name := "lightNil", fn := fun _ => fun
  | [d1, d2] => { results := [.lit (.bool true)], args := [d1, d2] }
  | _ => none }
def lightNilRow : OpenClaim := { program := "ytbbmklepnfmppaagreat", sum := "9ede6345bab877ba8f887419fb923f09a64f99c6ba0c3a3ce3823af56c209836", func := "muniment/munimentlaw20.LightNil", spec := "lightNil", inPlace := ["internal/abi.NoEscape", "internal/bytealg.MakeNoZero", "maps.clone", "slices.overlaps[muniment/api.Tag]"], unfollowed := true, recurses := true, apart := false }
def LightNilSaid : Prop := lightNilRow.holds Tryz.pinned (OpenSpec.ofChange lightNilSpec)

/-- ITS FALSE NEIGHBOUR: 'it returns false'. Refute it at one input. -/
def lightNilWrong : ChangeSpec := { name := "lightNil", fn := fun _ => fun
  | [d1, d2] => { results := [.lit (.bool false)], args := [d1, d2] }
  | _ => none }
def LightNilWrongFalsely : Prop := lightNilRow.holds Tryz.pinned (OpenSpec.ofChange lightNilWrong)

/- THE SECOND FORM. 'bulk': how many values and letters a reading holds, each counted each time it is reached (what is shared counts as often as it is met; a slice's spare places count too). A statement '..UptoSaid' is the law's where the arguments, and the package variables that the reading takes, are together of bulk at most 1048576: NARROWER than '..Said'. Prove '..Said' where nothing that the law and all that it calls make is longer than what came in: it says more and counts as full. Else prove '..UptoSaid'. A law counts once. -/
mutual
def uptoBulk {H : Type} : DataW H → Nat
  | .lit (.string bytes) => bytes.length + 1
  | .lit _ => 1
  | .nil => 1
  | .ptr d => uptoBulk d + 1
  | .slice elems spare => uptoBulkAll elems + uptoBulkAll spare + 1
  | .agg parts => uptoBulkAll parts + 1
  | .iface _ d => uptoBulk d + 1
  | .map entries => uptoBulkEntries entries + 1
  | .held _ => 1
def uptoBulkAll {H : Type} : List (DataW H) → Nat
  | [] => 0
  | d :: r => uptoBulk d + uptoBulkAll r
def uptoBulkEntries {H : Type} : List (Lit × DataW H) → Nat
  | [] => 0
  | x :: r => uptoBulkEntry x + uptoBulkEntries r
def uptoBulkEntry {H : Type} : Lit × DataW H → Nat
  | (.string bytes, d) => bytes.length + uptoBulk d + 1
  | (_, d) => uptoBulk d + 1
 end
def uptoSmall : (H : Type) → List (DataW H) → Bool := fun _ ds => decide (uptoBulkAll ds ≤ 1048576)
def OpenSpec.upto (s : _root_.Go.ChangeSpec) : _root_.Go.OpenSpec := { _root_.Go.OpenSpec.ofChange s with cond := some uptoSmall }

/-- 'munimentlaw09.BlockNil', WHERE WHAT IT READS IS OF BULK AT MOST 1048576: true; the input reads as it did. -/
def blockNilUptoRow : OpenClaim := { program := "ytbbmklepnfmppaagreat", sum := "9ede6345bab877ba8f887419fb923f09a64f99c6ba0c3a3ce3823af56c209836", func := "muniment/munimentlaw09.BlockNil", spec := "blockNil", inPlace := ["maps.clone"], unfollowed := true, recurses := true, apart := false, narrowed := true }
def BlockNilUptoSaid : Prop := blockNilUptoRow.holds Tryz.pinned (OpenSpec.upto blockNilSpec)

/-- 'munimentlaw10.ChainNames', WHERE WHAT IT READS IS OF BULK AT MOST 1048576: true; the input reads as it did. -/
def chainNamesUptoRow : OpenClaim := { program := "ytbbmklepnfmppaagreat", sum := "9ede6345bab877ba8f887419fb923f09a64f99c6ba0c3a3ce3823af56c209836", func := "muniment/munimentlaw10.ChainNames", spec := "chainNames", inPlace := ["maps.clone"], unfollowed := true, recurses := true, apart := false, narrowed := true }
def ChainNamesUptoSaid : Prop := chainNamesUptoRow.holds Tryz.pinned (OpenSpec.upto chainNamesSpec)

/-- 'munimentlaw10.ChainCuts', WHERE WHAT IT READS IS OF BULK AT MOST 1048576: true; the input reads as it did. -/
def chainCutsUptoRow : OpenClaim := { program := "ytbbmklepnfmppaagreat", sum := "9ede6345bab877ba8f887419fb923f09a64f99c6ba0c3a3ce3823af56c209836", func := "muniment/munimentlaw10.ChainCuts", spec := "chainCuts", inPlace := ["maps.clone"], unfollowed := true, recurses := true, apart := false, narrowed := true }
def ChainCutsUptoSaid : Prop := chainCutsUptoRow.holds Tryz.pinned (OpenSpec.upto chainCutsSpec)

/-- 'munimentlaw19.ProofNone', WHERE WHAT IT READS IS OF BULK AT MOST 1048576: true; the input reads as it did. -/
def proofNoneUptoRow : OpenClaim := { program := "ytbbmklepnfmppaagreat", sum := "9ede6345bab877ba8f887419fb923f09a64f99c6ba0c3a3ce3823af56c209836", func := "muniment/munimentlaw19.ProofNone", spec := "proofNone", inPlace := ["maps.clone", "internal/abi.NoEscape", "internal/bytealg.MakeNoZero", "slices.overlaps[muniment/api.Tag]"], unfollowed := true, recurses := true, apart := false, narrowed := true }
def ProofNoneUptoSaid : Prop := proofNoneUptoRow.holds Tryz.pinned (OpenSpec.upto proofNoneSpec)

/-- 'munimentlaw20.LightNil', WHERE WHAT IT READS IS OF BULK AT MOST 1048576: true; the input reads as it did. -/
def lightNilUptoRow : OpenClaim := { program := "ytbbmklepnfmppaagreat", sum := "9ede6345bab877ba8f887419fb923f09a64f99c6ba0c3a3ce3823af56c209836", func := "muniment/munimentlaw20.LightNil", spec := "lightNil", inPlace := ["internal/abi.NoEscape", "internal/bytealg.MakeNoZero", "maps.clone", "slices.overlaps[muniment/api.Tag]"], unfollowed := true, recurses := true, apart := false, narrowed := true }
def LightNilUptoSaid : Prop := lightNilUptoRow.holds Tryz.pinned (OpenSpec.upto lightNilSpec)

end Rows
end Go.Proofs.YtbbmklepnfmppaaGreat
