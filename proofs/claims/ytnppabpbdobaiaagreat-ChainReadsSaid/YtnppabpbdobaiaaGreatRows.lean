/-
  No cell of these rows narrows 'for every input' (looked for: loops, veiled, ifaces, maps, wideKeys, modest, calm, conditions, laid).
  DERIVED. THE GIVEN ROWS OF THIS SEAT. 8 by the template 'for every input the law returns true; each argument reads behind the call as it read before'; 0 by the template 'total and deterministic' (their statements: YtnppabpbdobaiaaGreatTotals.lean).
  GIVEN WITH THE SEED: the statements are not yours to turn. If you find one false, say at which input.
  Laid BY PROGRAM, IN A SANDBOX (cutbox-rows.mjs): the forced cells as the released guide's own fill.sh prints them over the translation b642e97a7051ac74… (all of the seat's roots in one cut). By AI agents, Wed Nov 11 2026. No macro, syntax, notation, axiom, sorry.
-/
import Derived.Test.YtnppabpbdobaiaaGreatChecked
import GoSem.Claim
import GoSem.ClaimJoined
import GoSem.ClaimMapViews
import Derived.JoinedTies
import Derived.KernelRfl
namespace Go.Proofs.YtnppabpbdobaiaaGreat
/- THE CELL 'sum', in the pinned program and in every row, IS THE sha256 OF THE DUMP (.gsa) THAT YtnppabpbdobaiaaGreatProg.lean LOADS. Nothing in Lean hashes anything: it is a label: what it is worth is what the hold of that sum in a sandbox is worth. -/
noncomputable def Tryz.pinned : Pinned := { name := "ytnppabpbdobaiaagreat", sum := "b642e97a7051ac74439a27553ed8056b1400257c0dd90e0c000b7f79c1a3f206", checked := Tryz.checked }
namespace Rows
def none {H : Type} : Left H := { results := [], args := [] }

/-- 'munimentlaw09.BlockNil': WHATEVER THE INPUT: true; the input reads as it did. -/
def blockNilSpec : ChangeSpec := { name := "blockNil", fn := fun _ => fun
  | [d1, d2] => { results := [.lit (.bool true)], args := [d1, d2] }
  | _ => none }
def blockNilRow : OpenClaim := { program := "ytnppabpbdobaiaagreat", sum := "b642e97a7051ac74439a27553ed8056b1400257c0dd90e0c000b7f79c1a3f206", func := "muniment/munimentlaw09.BlockNil", spec := "blockNil", inPlace := ["maps.clone"], unfollowed := true, recurses := true, apart := false }
def BlockNilSaid : Prop := blockNilRow.holds Tryz.pinned (OpenSpec.ofChange blockNilSpec)

/-- ITS FALSE NEIGHBOUR: 'it returns false'. Refute it at one input. -/
def blockNilWrong : ChangeSpec := { name := "blockNil", fn := fun _ => fun
  | [d1, d2] => { results := [.lit (.bool false)], args := [d1, d2] }
  | _ => none }
def BlockNilWrongFalsely : Prop := blockNilRow.holds Tryz.pinned (OpenSpec.ofChange blockNilWrong)

/-- 'munimentlaw10.ChainNames': WHATEVER THE INPUT: true; the input reads as it did. -/
def chainNamesSpec : ChangeSpec := { name := "chainNames", fn := fun _ => fun
  | [d1, d2, d3] => { results := [.lit (.bool true)], args := [d1, d2, d3] }
  | _ => none }
def chainNamesRow : OpenClaim := { program := "ytnppabpbdobaiaagreat", sum := "b642e97a7051ac74439a27553ed8056b1400257c0dd90e0c000b7f79c1a3f206", func := "muniment/munimentlaw10.ChainNames", spec := "chainNames", inPlace := ["maps.clone"], unfollowed := true, recurses := true, apart := false }
def ChainNamesSaid : Prop := chainNamesRow.holds Tryz.pinned (OpenSpec.ofChange chainNamesSpec)

/-- ITS FALSE NEIGHBOUR: 'it returns false'. Refute it at one input. -/
def chainNamesWrong : ChangeSpec := { name := "chainNames", fn := fun _ => fun
  | [d1, d2, d3] => { results := [.lit (.bool false)], args := [d1, d2, d3] }
  | _ => none }
def ChainNamesWrongFalsely : Prop := chainNamesRow.holds Tryz.pinned (OpenSpec.ofChange chainNamesWrong)

/-- 'munimentlaw10.ChainCuts': WHATEVER THE INPUT: true; the input reads as it did. -/
def chainCutsSpec : ChangeSpec := { name := "chainCuts", fn := fun _ => fun
  | [d1, d2, d3] => { results := [.lit (.bool true)], args := [d1, d2, d3] }
  | _ => none }
def chainCutsRow : OpenClaim := { program := "ytnppabpbdobaiaagreat", sum := "b642e97a7051ac74439a27553ed8056b1400257c0dd90e0c000b7f79c1a3f206", func := "muniment/munimentlaw10.ChainCuts", spec := "chainCuts", inPlace := ["maps.clone"], unfollowed := true, recurses := true, apart := false }
def ChainCutsSaid : Prop := chainCutsRow.holds Tryz.pinned (OpenSpec.ofChange chainCutsSpec)

/-- ITS FALSE NEIGHBOUR: 'it returns false'. Refute it at one input. -/
def chainCutsWrong : ChangeSpec := { name := "chainCuts", fn := fun _ => fun
  | [d1, d2, d3] => { results := [.lit (.bool false)], args := [d1, d2, d3] }
  | _ => none }
def ChainCutsWrongFalsely : Prop := chainCutsRow.holds Tryz.pinned (OpenSpec.ofChange chainCutsWrong)

/-- 'munimentlaw10.ChainReads': WHATEVER THE INPUT: true; the input reads as it did. -/
def chainReadsSpec : ChangeSpec := { name := "chainReads", fn := fun _ => fun
  | [d] => { results := [.lit (.bool true)], args := [d] }
  | _ => none }
def chainReadsRow : OpenClaim := { program := "ytnppabpbdobaiaagreat", sum := "b642e97a7051ac74439a27553ed8056b1400257c0dd90e0c000b7f79c1a3f206", func := "muniment/munimentlaw10.ChainReads", spec := "chainReads", inPlace := ["maps.clone"], unfollowed := true, recurses := true, apart := false }
def ChainReadsSaid : Prop := chainReadsRow.holds Tryz.pinned (OpenSpec.ofChange chainReadsSpec)

/-- ITS FALSE NEIGHBOUR: 'it returns false'. Refute it at one input. -/
def chainReadsWrong : ChangeSpec := { name := "chainReads", fn := fun _ => fun
  | [d] => { results := [.lit (.bool false)], args := [d] }
  | _ => none }
def ChainReadsWrongFalsely : Prop := chainReadsRow.holds Tryz.pinned (OpenSpec.ofChange chainReadsWrong)

/-- 'munimentlaw20.LightForks': WHATEVER THE INPUT: true; the input reads as it did. -/
def lightForksSpec : ChangeSpec := { name := "lightForks", fn := fun _ => fun
  | [d1, d2, d3] => { results := [.lit (.bool true)], args := [d1, d2, d3] }
  | _ => none }
def lightForksRow : OpenClaim := { program := "ytnppabpbdobaiaagreat", sum := "b642e97a7051ac74439a27553ed8056b1400257c0dd90e0c000b7f79c1a3f206", func := "muniment/munimentlaw20.LightForks", spec := "lightForks", inPlace := ["maps.clone", "internal/abi.NoEscape", "internal/bytealg.MakeNoZero", "slices.overlaps[muniment/api.Tag]"], unfollowed := true, recurses := true, apart := false }
def LightForksSaid : Prop := lightForksRow.holds Tryz.pinned (OpenSpec.ofChange lightForksSpec)

/-- ITS FALSE NEIGHBOUR: 'it returns false'. Refute it at one input. -/
def lightForksWrong : ChangeSpec := { name := "lightForks", fn := fun _ => fun
  | [d1, d2, d3] => { results := [.lit (.bool false)], args := [d1, d2, d3] }
  | _ => none }
def LightForksWrongFalsely : Prop := lightForksRow.holds Tryz.pinned (OpenSpec.ofChange lightForksWrong)

/-- 'munimentlaw19.ProofReads': WHATEVER THE INPUT: true; the input reads as it did. -/
def proofReadsSpec : ChangeSpec := { name := "proofReads", fn := fun _ => fun
  | [d] => { results := [.lit (.bool true)], args := [d] }
  | _ => none }
def proofReadsRow : OpenClaim := { program := "ytnppabpbdobaiaagreat", sum := "b642e97a7051ac74439a27553ed8056b1400257c0dd90e0c000b7f79c1a3f206", func := "muniment/munimentlaw19.ProofReads", spec := "proofReads", inPlace := ["maps.clone", "internal/abi.NoEscape", "internal/bytealg.MakeNoZero", "slices.overlaps[muniment/api.Tag]"], unfollowed := true, recurses := true, apart := false }
def ProofReadsSaid : Prop := proofReadsRow.holds Tryz.pinned (OpenSpec.ofChange proofReadsSpec)

/-- ITS FALSE NEIGHBOUR: 'it returns false'. Refute it at one input. -/
def proofReadsWrong : ChangeSpec := { name := "proofReads", fn := fun _ => fun
  | [d] => { results := [.lit (.bool false)], args := [d] }
  | _ => none }
def ProofReadsWrongFalsely : Prop := proofReadsRow.holds Tryz.pinned (OpenSpec.ofChange proofReadsWrong)

/-- 'munimentlaw20.LightTxs': WHATEVER THE INPUT: true; the input reads as it did. -/
def lightTxsSpec : ChangeSpec := { name := "lightTxs", fn := fun _ => fun
  | [d1, d2, d3] => { results := [.lit (.bool true)], args := [d1, d2, d3] }
  | _ => none }
def lightTxsRow : OpenClaim := { program := "ytnppabpbdobaiaagreat", sum := "b642e97a7051ac74439a27553ed8056b1400257c0dd90e0c000b7f79c1a3f206", func := "muniment/munimentlaw20.LightTxs", spec := "lightTxs", inPlace := ["maps.clone", "internal/abi.NoEscape", "internal/bytealg.MakeNoZero", "slices.overlaps[muniment/api.Tag]"], unfollowed := true, recurses := true, apart := false }
def LightTxsSaid : Prop := lightTxsRow.holds Tryz.pinned (OpenSpec.ofChange lightTxsSpec)

/-- ITS FALSE NEIGHBOUR: 'it returns false'. Refute it at one input. -/
def lightTxsWrong : ChangeSpec := { name := "lightTxs", fn := fun _ => fun
  | [d1, d2, d3] => { results := [.lit (.bool false)], args := [d1, d2, d3] }
  | _ => none }
def LightTxsWrongFalsely : Prop := lightTxsRow.holds Tryz.pinned (OpenSpec.ofChange lightTxsWrong)

/-- 'munimentlaw20.LightReads': WHATEVER THE INPUT: true; the input reads as it did. -/
def lightReadsSpec : ChangeSpec := { name := "lightReads", fn := fun _ => fun
  | [d1, d2, d3] => { results := [.lit (.bool true)], args := [d1, d2, d3] }
  | _ => none }
def lightReadsRow : OpenClaim := { program := "ytnppabpbdobaiaagreat", sum := "b642e97a7051ac74439a27553ed8056b1400257c0dd90e0c000b7f79c1a3f206", func := "muniment/munimentlaw20.LightReads", spec := "lightReads", inPlace := ["maps.clone", "internal/abi.NoEscape", "internal/bytealg.MakeNoZero", "slices.overlaps[muniment/api.Tag]"], unfollowed := true, recurses := true, apart := false }
def LightReadsSaid : Prop := lightReadsRow.holds Tryz.pinned (OpenSpec.ofChange lightReadsSpec)

/-- ITS FALSE NEIGHBOUR: 'it returns false'. Refute it at one input. -/
def lightReadsWrong : ChangeSpec := { name := "lightReads", fn := fun _ => fun
  | [d1, d2, d3] => { results := [.lit (.bool false)], args := [d1, d2, d3] }
  | _ => none }
def LightReadsWrongFalsely : Prop := lightReadsRow.holds Tryz.pinned (OpenSpec.ofChange lightReadsWrong)

/- THE SECOND FORM. 'bulk': how many values and letters a reading holds, each counted each time it is reached (what is shared counts as often as it is met; a slice's spare places count too). A statement '..UptoSaid' is the law's where the arguments, and the package variables that the reading takes, are together of bulk at most 1048576: NARROWER than '..Said'. Prove '..Said' where nothing that the law and all that it calls make is longer than what came in: it says more and counts as full. Else prove '..UptoSaid'. A law counts once. -/
mutual
def uptoBulk {H : Type} : DataW H → Nat
  | .lit (.string bytes) => bytes.length + 1
  | .lit _ => 1
  | .nil => 1
  | .ptr d => uptoBulk d + 1
  | .slice elems spare => uptoBulkAll elems + uptoBulkAll spare + 1
  | .agg parts => uptoBulkAll parts + 1
  | .iface _ d => uptoBulk d + 1
  | .map entries => uptoBulkEntries entries + 1
  | .held _ => 1
def uptoBulkAll {H : Type} : List (DataW H) → Nat
  | [] => 0
  | d :: r => uptoBulk d + uptoBulkAll r
def uptoBulkEntries {H : Type} : List (Lit × DataW H) → Nat
  | [] => 0
  | x :: r => uptoBulkEntry x + uptoBulkEntries r
def uptoBulkEntry {H : Type} : Lit × DataW H → Nat
  | (.string bytes, d) => bytes.length + uptoBulk d + 1
  | (_, d) => uptoBulk d + 1
 end
def uptoSmall : (H : Type) → List (DataW H) → Bool := fun _ ds => decide (uptoBulkAll ds ≤ 1048576)
def OpenSpec.upto (s : _root_.Go.ChangeSpec) : _root_.Go.OpenSpec := { _root_.Go.OpenSpec.ofChange s with cond := some uptoSmall }

/-- 'munimentlaw09.BlockNil', WHERE WHAT IT READS IS OF BULK AT MOST 1048576: true; the input reads as it did. -/
def blockNilUptoRow : OpenClaim := { program := "ytnppabpbdobaiaagreat", sum := "b642e97a7051ac74439a27553ed8056b1400257c0dd90e0c000b7f79c1a3f206", func := "muniment/munimentlaw09.BlockNil", spec := "blockNil", inPlace := ["maps.clone"], unfollowed := true, recurses := true, apart := false, narrowed := true }
def BlockNilUptoSaid : Prop := blockNilUptoRow.holds Tryz.pinned (OpenSpec.upto blockNilSpec)

/-- 'munimentlaw10.ChainNames', WHERE WHAT IT READS IS OF BULK AT MOST 1048576: true; the input reads as it did. -/
def chainNamesUptoRow : OpenClaim := { program := "ytnppabpbdobaiaagreat", sum := "b642e97a7051ac74439a27553ed8056b1400257c0dd90e0c000b7f79c1a3f206", func := "muniment/munimentlaw10.ChainNames", spec := "chainNames", inPlace := ["maps.clone"], unfollowed := true, recurses := true, apart := false, narrowed := true }
def ChainNamesUptoSaid : Prop := chainNamesUptoRow.holds Tryz.pinned (OpenSpec.upto chainNamesSpec)

/-- 'munimentlaw10.ChainCuts', WHERE WHAT IT READS IS OF BULK AT MOST 1048576: true; the input reads as it did. -/
def chainCutsUptoRow : OpenClaim := { program := "ytnppabpbdobaiaagreat", sum := "b642e97a7051ac74439a27553ed8056b1400257c0dd90e0c000b7f79c1a3f206", func := "muniment/munimentlaw10.ChainCuts", spec := "chainCuts", inPlace := ["maps.clone"], unfollowed := true, recurses := true, apart := false, narrowed := true }
def ChainCutsUptoSaid : Prop := chainCutsUptoRow.holds Tryz.pinned (OpenSpec.upto chainCutsSpec)

/-- 'munimentlaw10.ChainReads', WHERE WHAT IT READS IS OF BULK AT MOST 1048576: true; the input reads as it did. -/
def chainReadsUptoRow : OpenClaim := { program := "ytnppabpbdobaiaagreat", sum := "b642e97a7051ac74439a27553ed8056b1400257c0dd90e0c000b7f79c1a3f206", func := "muniment/munimentlaw10.ChainReads", spec := "chainReads", inPlace := ["maps.clone"], unfollowed := true, recurses := true, apart := false, narrowed := true }
def ChainReadsUptoSaid : Prop := chainReadsUptoRow.holds Tryz.pinned (OpenSpec.upto chainReadsSpec)

/-- 'munimentlaw20.LightForks', WHERE WHAT IT READS IS OF BULK AT MOST 1048576: true; the input reads as it did. -/
def lightForksUptoRow : OpenClaim := { program := "ytnppabpbdobaiaagreat", sum := "b642e97a7051ac74439a27553ed8056b1400257c0dd90e0c000b7f79c1a3f206", func := "muniment/munimentlaw20.LightForks", spec := "lightForks", inPlace := ["maps.clone", "internal/abi.NoEscape", "internal/bytealg.MakeNoZero", "slices.overlaps[muniment/api.Tag]"], unfollowed := true, recurses := true, apart := false, narrowed := true }
def LightForksUptoSaid : Prop := lightForksUptoRow.holds Tryz.pinned (OpenSpec.upto lightForksSpec)

/-- 'munimentlaw19.ProofReads', WHERE WHAT IT READS IS OF BULK AT MOST 1048576: true; the input reads as it did. -/
def proofReadsUptoRow : OpenClaim := { program := "ytnppabpbdobaiaagreat", sum := "b642e97a7051ac74439a27553ed8056b1400257c0dd90e0c000b7f79c1a3f206", func := "muniment/munimentlaw19.ProofReads", spec := "proofReads", inPlace := ["maps.clone", "internal/abi.NoEscape", "internal/bytealg.MakeNoZero", "slices.overlaps[muniment/api.Tag]"], unfollowed := true, recurses := true, apart := false, narrowed := true }
def ProofReadsUptoSaid : Prop := proofReadsUptoRow.holds Tryz.pinned (OpenSpec.upto proofReadsSpec)

/-- 'munimentlaw20.LightTxs', WHERE WHAT IT READS IS OF BULK AT MOST 1048576: true; the input reads as it did. -/
def lightTxsUptoRow : OpenClaim := { program := "ytnppabpbdobaiaagreat", sum := "b642e97a7051ac74439a27553ed8056b1400257c0dd90e0c000b7f79c1a3f206", func := "muniment/munimentlaw20.LightTxs", spec := "lightTxs", inPlace := ["maps.clone", "internal/abi.NoEscape", "internal/bytealg.MakeNoZero", "slices.overlaps[muniment/api.Tag]"], unfollowed := true, recurses := true, apart := false, narrowed := true }
def LightTxsUptoSaid : Prop := lightTxsUptoRow.holds Tryz.pinned (OpenSpec.upto lightTxsSpec)

/-- 'munimentlaw20.LightReads', WHERE WHAT IT READS IS OF BULK AT MOST 1048576: true; the input reads as it did. -/
def lightReadsUptoRow : OpenClaim := { program := "ytnppabpbdobaiaagreat", sum := "b642e97a7051ac74439a27553ed8056b1400257c0dd90e0c000b7f79c1a3f206", func := "muniment/munimentlaw20.LightReads", spec := "lightReads", inPlace := ["maps.clone", "internal/abi.NoEscape", "internal/bytealg.MakeNoZero", "slices.overlaps[muniment/api.Tag]"], unfollowed := true, recurses := true, apart := false, narrowed := true }
def LightReadsUptoSaid : Prop := lightReadsUptoRow.holds Tryz.pinned (OpenSpec.upto lightReadsSpec)

end Rows
end Go.Proofs.YtnppabpbdobaiaaGreat
