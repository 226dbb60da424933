/-
  No cell of these rows narrows 'for every input' (looked for: loops, veiled, ifaces, maps, wideKeys, modest, calm, conditions, laid).
  DERIVED. THE GIVEN ROWS OF THIS SEAT. 12 by the template 'for every input the law returns true; each argument reads behind the call as it read before'; 0 by the template 'total and deterministic' (their statements: YtmhkcnibbodjnaaTotals.lean).
  GIVEN WITH THE SEED: the statements are not yours to turn. If you find one false, say at which input.
  Laid BY PROGRAM, IN A SANDBOX (cutbox-rows.mjs): the forced cells as the released guide's own fill.sh prints them over the translation 8ee2c4fb86533a00… (all of the seat's roots in one cut). By AI agents, Wed Nov 11 2026. No macro, syntax, notation, axiom, sorry.
-/
import Derived.Test.YtmhkcnibbodjnaaChecked
import GoSem.Claim
import GoSem.ClaimJoined
import GoSem.ClaimMapViews
import Derived.JoinedTies
import Derived.KernelRfl
namespace Go.Proofs.Ytmhkcnibbodjnaa
/- THE CELL 'sum', in the pinned program and in every row, IS THE sha256 OF THE DUMP (.gsa) THAT YtmhkcnibbodjnaaProg.lean LOADS. Nothing in Lean hashes anything: it is a label: what it is worth is what the hold of that sum in a sandbox is worth. -/
noncomputable def Try.pinned : Pinned := { name := "ytmhkcnibbodjnaa", sum := "8ee2c4fb86533a00521bef0a6ac8e71620f88bb358a88a9487a04137cbb28383", checked := Try.checked }
namespace Rows
def none {H : Type} : Left H := { results := [], args := [] }

/-- 'munimentlaw02.MacLong': WHATEVER THE INPUT: true; the input reads as it did. -/
def macLongSpec : ChangeSpec := { name := "macLong", fn := fun _ => fun
  | [d1, d2] => { results := [.lit (.bool true)], args := [d1, d2] }
  | _ => none }
def macLongRow : OpenClaim := { program := "ytmhkcnibbodjnaa", sum := "8ee2c4fb86533a00521bef0a6ac8e71620f88bb358a88a9487a04137cbb28383", func := "muniment/munimentlaw02.MacLong", spec := "macLong", inPlace := ["internal/abi.NoEscape", "internal/bytealg.MakeNoZero"], apart := false }
def MacLongSaid : Prop := macLongRow.holds Try.pinned (OpenSpec.ofChange macLongSpec)

/-- ITS FALSE NEIGHBOUR: 'it returns false'. Refute it at one input. -/
def macLongWrong : ChangeSpec := { name := "macLong", fn := fun _ => fun
  | [d1, d2] => { results := [.lit (.bool false)], args := [d1, d2] }
  | _ => none }
def MacLongWrongFalsely : Prop := macLongRow.holds Try.pinned (OpenSpec.ofChange macLongWrong)

/-- 'munimentlaw02.MacTags': WHATEVER THE INPUT: true; the input reads as it did. -/
def macTagsSpec : ChangeSpec := { name := "macTags", fn := fun _ => fun
  | [d1, d2] => { results := [.lit (.bool true)], args := [d1, d2] }
  | _ => none }
def macTagsRow : OpenClaim := { program := "ytmhkcnibbodjnaa", sum := "8ee2c4fb86533a00521bef0a6ac8e71620f88bb358a88a9487a04137cbb28383", func := "muniment/munimentlaw02.MacTags", spec := "macTags", inPlace := ["internal/abi.NoEscape", "internal/bytealg.MakeNoZero"], apart := false }
def MacTagsSaid : Prop := macTagsRow.holds Try.pinned (OpenSpec.ofChange macTagsSpec)

/-- ITS FALSE NEIGHBOUR: 'it returns false'. Refute it at one input. -/
def macTagsWrong : ChangeSpec := { name := "macTags", fn := fun _ => fun
  | [d1, d2] => { results := [.lit (.bool false)], args := [d1, d2] }
  | _ => none }
def MacTagsWrongFalsely : Prop := macTagsRow.holds Try.pinned (OpenSpec.ofChange macTagsWrong)

/-- 'munimentlaw02.MacSeals': WHATEVER THE INPUT: true; the input reads as it did. -/
def macSealsSpec : ChangeSpec := { name := "macSeals", fn := fun _ => fun
  | [d1, d2, d3] => { results := [.lit (.bool true)], args := [d1, d2, d3] }
  | _ => none }
def macSealsRow : OpenClaim := { program := "ytmhkcnibbodjnaa", sum := "8ee2c4fb86533a00521bef0a6ac8e71620f88bb358a88a9487a04137cbb28383", func := "muniment/munimentlaw02.MacSeals", spec := "macSeals", inPlace := ["internal/abi.NoEscape", "internal/bytealg.MakeNoZero"], apart := false }
def MacSealsSaid : Prop := macSealsRow.holds Try.pinned (OpenSpec.ofChange macSealsSpec)

/-- ITS FALSE NEIGHBOUR: 'it returns false'. Refute it at one input. -/
def macSealsWrong : ChangeSpec := { name := "macSeals", fn := fun _ => fun
  | [d1, d2, d3] => { results := [.lit (.bool false)], args := [d1, d2, d3] }
  | _ => none }
def MacSealsWrongFalsely : Prop := macSealsRow.holds Try.pinned (OpenSpec.ofChange macSealsWrong)

/-- 'munimentlaw02.MacNil': WHATEVER THE INPUT: true; the input reads as it did. -/
def macNilSpec : ChangeSpec := { name := "macNil", fn := fun _ => fun
  | [d1, d2] => { results := [.lit (.bool true)], args := [d1, d2] }
  | _ => none }
def macNilRow : OpenClaim := { program := "ytmhkcnibbodjnaa", sum := "8ee2c4fb86533a00521bef0a6ac8e71620f88bb358a88a9487a04137cbb28383", func := "muniment/munimentlaw02.MacNil", spec := "macNil", inPlace := ["internal/abi.NoEscape", "internal/bytealg.MakeNoZero"], apart := false }
def MacNilSaid : Prop := macNilRow.holds Try.pinned (OpenSpec.ofChange macNilSpec)

/-- ITS FALSE NEIGHBOUR: 'it returns false'. Refute it at one input. -/
def macNilWrong : ChangeSpec := { name := "macNil", fn := fun _ => fun
  | [d1, d2] => { results := [.lit (.bool false)], args := [d1, d2] }
  | _ => none }
def MacNilWrongFalsely : Prop := macNilRow.holds Try.pinned (OpenSpec.ofChange macNilWrong)

/-- 'munimentlaw02.MacRings': WHATEVER THE INPUT: true; the input reads as it did. -/
def macRingsSpec : ChangeSpec := { name := "macRings", fn := fun _ => fun
  | [d1, d2, d3] => { results := [.lit (.bool true)], args := [d1, d2, d3] }
  | _ => none }
def macRingsRow : OpenClaim := { program := "ytmhkcnibbodjnaa", sum := "8ee2c4fb86533a00521bef0a6ac8e71620f88bb358a88a9487a04137cbb28383", func := "muniment/munimentlaw02.MacRings", spec := "macRings", inPlace := ["internal/abi.NoEscape", "internal/bytealg.MakeNoZero"], apart := false }
def MacRingsSaid : Prop := macRingsRow.holds Try.pinned (OpenSpec.ofChange macRingsSpec)

/-- ITS FALSE NEIGHBOUR: 'it returns false'. Refute it at one input. -/
def macRingsWrong : ChangeSpec := { name := "macRings", fn := fun _ => fun
  | [d1, d2, d3] => { results := [.lit (.bool false)], args := [d1, d2, d3] }
  | _ => none }
def MacRingsWrongFalsely : Prop := macRingsRow.holds Try.pinned (OpenSpec.ofChange macRingsWrong)

/-- 'munimentlaw16.SealSeals': WHATEVER THE INPUT: true; the input reads as it did. -/
def sealSealsSpec : ChangeSpec := { name := "sealSeals", fn := fun _ => fun
  | [d1, d2, d3] => { results := [.lit (.bool true)], args := [d1, d2, d3] }
  | _ => none }
def sealSealsRow : OpenClaim := { program := "ytmhkcnibbodjnaa", sum := "8ee2c4fb86533a00521bef0a6ac8e71620f88bb358a88a9487a04137cbb28383", func := "muniment/munimentlaw16.SealSeals", spec := "sealSeals", inPlace := ["internal/abi.NoEscape", "internal/bytealg.MakeNoZero"], recurses := true, apart := false }
def SealSealsSaid : Prop := sealSealsRow.holds Try.pinned (OpenSpec.ofChange sealSealsSpec)

/-- ITS FALSE NEIGHBOUR: 'it returns false'. Refute it at one input. -/
def sealSealsWrong : ChangeSpec := { name := "sealSeals", fn := fun _ => fun
  | [d1, d2, d3] => { results := [.lit (.bool false)], args := [d1, d2, d3] }
  | _ => none }
def SealSealsWrongFalsely : Prop := sealSealsRow.holds Try.pinned (OpenSpec.ofChange sealSealsWrong)

/-- 'munimentlaw16.SealOpens': WHATEVER THE INPUT: true; the input reads as it did. -/
def sealOpensSpec : ChangeSpec := { name := "sealOpens", fn := fun _ => fun
  | [d1, d2] => { results := [.lit (.bool true)], args := [d1, d2] }
  | _ => none }
def sealOpensRow : OpenClaim := { program := "ytmhkcnibbodjnaa", sum := "8ee2c4fb86533a00521bef0a6ac8e71620f88bb358a88a9487a04137cbb28383", func := "muniment/munimentlaw16.SealOpens", spec := "sealOpens", inPlace := ["internal/abi.NoEscape", "internal/bytealg.MakeNoZero"], recurses := true, apart := false }
def SealOpensSaid : Prop := sealOpensRow.holds Try.pinned (OpenSpec.ofChange sealOpensSpec)

/-- ITS FALSE NEIGHBOUR: 'it returns false'. Refute it at one input. -/
def sealOpensWrong : ChangeSpec := { name := "sealOpens", fn := fun _ => fun
  | [d1, d2] => { results := [.lit (.bool false)], args := [d1, d2] }
  | _ => none }
def SealOpensWrongFalsely : Prop := sealOpensRow.holds Try.pinned (OpenSpec.ofChange sealOpensWrong)

/-- 'munimentlaw16.SealWrong': WHATEVER THE INPUT: true; the input reads as it did. -/
def sealWrongSpec : ChangeSpec := { name := "sealWrong", fn := fun _ => fun
  | [d1, d2, d3] => { results := [.lit (.bool true)], args := [d1, d2, d3] }
  | _ => none }
def sealWrongRow : OpenClaim := { program := "ytmhkcnibbodjnaa", sum := "8ee2c4fb86533a00521bef0a6ac8e71620f88bb358a88a9487a04137cbb28383", func := "muniment/munimentlaw16.SealWrong", spec := "sealWrong", inPlace := ["internal/abi.NoEscape", "internal/bytealg.MakeNoZero"], recurses := true, apart := false }
def SealWrongSaid : Prop := sealWrongRow.holds Try.pinned (OpenSpec.ofChange sealWrongSpec)

/-- ITS FALSE NEIGHBOUR: 'it returns false'. Refute it at one input. -/
def sealWrongWrong : ChangeSpec := { name := "sealWrong", fn := fun _ => fun
  | [d1, d2, d3] => { results := [.lit (.bool false)], args := [d1, d2, d3] }
  | _ => none }
def SealWrongWrongFalsely : Prop := sealWrongRow.holds Try.pinned (OpenSpec.ofChange sealWrongWrong)

/-- 'munimentlaw17.CertSigns': WHATEVER THE INPUT: true; the input reads as it did. -/
def certSignsSpec : ChangeSpec := { name := "certSigns", fn := fun _ => fun
  | [d1, d2, d3] => { results := [.lit (.bool true)], args := [d1, d2, d3] }
  | _ => none }
def certSignsRow : OpenClaim := { program := "ytmhkcnibbodjnaa", sum := "8ee2c4fb86533a00521bef0a6ac8e71620f88bb358a88a9487a04137cbb28383", func := "muniment/munimentlaw17.CertSigns", spec := "certSigns", inPlace := ["internal/abi.NoEscape", "internal/bytealg.MakeNoZero", "slices.overlaps[muniment/api.Tag]"], unfollowed := true, recurses := true, apart := false }
def CertSignsSaid : Prop := certSignsRow.holds Try.pinned (OpenSpec.ofChange certSignsSpec)

/-- ITS FALSE NEIGHBOUR: 'it returns false'. Refute it at one input. -/
def certSignsWrong : ChangeSpec := { name := "certSigns", fn := fun _ => fun
  | [d1, d2, d3] => { results := [.lit (.bool false)], args := [d1, d2, d3] }
  | _ => none }
def CertSignsWrongFalsely : Prop := certSignsRow.holds Try.pinned (OpenSpec.ofChange certSignsWrong)

/-- 'munimentlaw17.CertChecks': WHATEVER THE INPUT: true; the input reads as it did. -/
def certChecksSpec : ChangeSpec := { name := "certChecks", fn := fun _ => fun
  | [d1, d2, d3] => { results := [.lit (.bool true)], args := [d1, d2, d3] }
  | _ => none }
def certChecksRow : OpenClaim := { program := "ytmhkcnibbodjnaa", sum := "8ee2c4fb86533a00521bef0a6ac8e71620f88bb358a88a9487a04137cbb28383", func := "muniment/munimentlaw17.CertChecks", spec := "certChecks", inPlace := ["internal/abi.NoEscape", "internal/bytealg.MakeNoZero", "slices.overlaps[muniment/api.Tag]"], unfollowed := true, recurses := true, apart := false }
def CertChecksSaid : Prop := certChecksRow.holds Try.pinned (OpenSpec.ofChange certChecksSpec)

/-- ITS FALSE NEIGHBOUR: 'it returns false'. Refute it at one input. -/
def certChecksWrong : ChangeSpec := { name := "certChecks", fn := fun _ => fun
  | [d1, d2, d3] => { results := [.lit (.bool false)], args := [d1, d2, d3] }
  | _ => none }
def CertChecksWrongFalsely : Prop := certChecksRow.holds Try.pinned (OpenSpec.ofChange certChecksWrong)

/-- 'munimentlaw17.CertOrders': WHATEVER THE INPUT: true; the input reads as it did. -/
def certOrdersSpec : ChangeSpec := { name := "certOrders", fn := fun _ => fun
  | [d1, d2, d3] => { results := [.lit (.bool true)], args := [d1, d2, d3] }
  | _ => none }
def certOrdersRow : OpenClaim := { program := "ytmhkcnibbodjnaa", sum := "8ee2c4fb86533a00521bef0a6ac8e71620f88bb358a88a9487a04137cbb28383", func := "muniment/munimentlaw17.CertOrders", spec := "certOrders", inPlace := ["internal/abi.NoEscape", "internal/bytealg.MakeNoZero", "slices.overlaps[muniment/api.Tag]"], unfollowed := true, recurses := true, apart := false }
def CertOrdersSaid : Prop := certOrdersRow.holds Try.pinned (OpenSpec.ofChange certOrdersSpec)

/-- ITS FALSE NEIGHBOUR: 'it returns false'. Refute it at one input. -/
def certOrdersWrong : ChangeSpec := { name := "certOrders", fn := fun _ => fun
  | [d1, d2, d3] => { results := [.lit (.bool false)], args := [d1, d2, d3] }
  | _ => none }
def CertOrdersWrongFalsely : Prop := certOrdersRow.holds Try.pinned (OpenSpec.ofChange certOrdersWrong)

/-- 'munimentlaw17.CertBytes': WHATEVER THE INPUT: true; the input reads as it did. -/
def certBytesSpec : ChangeSpec := { name := "certBytes", fn := fun _ => fun
  | [d1, d2, d3] => { results := [.lit (.bool true)], args := [d1, d2, d3] }
  | _ => none }
def certBytesRow : OpenClaim := { program := "ytmhkcnibbodjnaa", sum := "8ee2c4fb86533a00521bef0a6ac8e71620f88bb358a88a9487a04137cbb28383", func := "muniment/munimentlaw17.CertBytes", spec := "certBytes", inPlace := ["internal/abi.NoEscape", "internal/bytealg.MakeNoZero", "slices.overlaps[muniment/api.Tag]"], unfollowed := true, recurses := true, apart := false }
def CertBytesSaid : Prop := certBytesRow.holds Try.pinned (OpenSpec.ofChange certBytesSpec)

/-- ITS FALSE NEIGHBOUR: 'it returns false'. Refute it at one input. -/
def certBytesWrong : ChangeSpec := { name := "certBytes", fn := fun _ => fun
  | [d1, d2, d3] => { results := [.lit (.bool false)], args := [d1, d2, d3] }
  | _ => none }
def CertBytesWrongFalsely : Prop := certBytesRow.holds Try.pinned (OpenSpec.ofChange certBytesWrong)

/- THE SECOND FORM. 'bulk': how many values and letters a reading holds, each counted each time it is reached (what is shared counts as often as it is met; a slice's spare places count too). A statement '..UptoSaid' is the law's where the arguments, and the package variables that the reading takes, are together of bulk at most 1048576: NARROWER than '..Said'. Prove '..Said' where nothing that the law and all that it calls make is longer than what came in: it says more and counts as full. Else prove '..UptoSaid'. A law counts once. -/
mutual
def uptoBulk {H : Type} : DataW H → Nat
  | .lit (.string bytes) => bytes.length + 1
  | .lit _ => 1
  | .nil => 1
  | .ptr d => uptoBulk d + 1
  | .slice elems spare => uptoBulkAll elems + uptoBulkAll spare + 1
  | .agg parts => uptoBulkAll parts + 1
  | .iface _ d => uptoBulk d + 1
  | .map entries => uptoBulkEntries entries + 1
  | .held _ => 1
def uptoBulkAll {H : Type} : List (DataW H) → Nat
  | [] => 0
  | d :: r => uptoBulk d + uptoBulkAll r
def uptoBulkEntries {H : Type} : List (Lit × DataW H) → Nat
  | [] => 0
  | x :: r => uptoBulkEntry x + uptoBulkEntries r
def uptoBulkEntry {H : Type} : Lit × DataW H → Nat
  | (.string bytes, d) => bytes.length + uptoBulk d + 1
  | (_, d) => uptoBulk d + 1
 end
def uptoSmall : (H : Type) → List (DataW H) → Bool := fun _ ds => decide (uptoBulkAll ds ≤ 1048576)
def OpenSpec.upto (s : _root_.Go.ChangeSpec) : _root_.Go.OpenSpec := { _root_.Go.OpenSpec.ofChange s with cond := some uptoSmall }

/-- 'munimentlaw02.MacLong', WHERE WHAT IT READS IS OF BULK AT MOST 1048576: true; the input reads as it did. -/
def macLongUptoRow : OpenClaim := { program := "ytmhkcnibbodjnaa", sum := "8ee2c4fb86533a00521bef0a6ac8e71620f88bb358a88a9487a04137cbb28383", func := "muniment/munimentlaw02.MacLong", spec := "macLong", inPlace := ["internal/abi.NoEscape", "internal/bytealg.MakeNoZero"], apart := false, narrowed := true }
def MacLongUptoSaid : Prop := macLongUptoRow.holds Try.pinned (OpenSpec.upto macLongSpec)

/-- 'munimentlaw02.MacTags', WHERE WHAT IT READS IS OF BULK AT MOST 1048576: true; the input reads as it did. -/
def macTagsUptoRow : OpenClaim := { program := "ytmhkcnibbodjnaa", sum := "8ee2c4fb86533a00521bef0a6ac8e71620f88bb358a88a9487a04137cbb28383", func := "muniment/munimentlaw02.MacTags", spec := "macTags", inPlace := ["internal/abi.NoEscape", "internal/bytealg.MakeNoZero"], apart := false, narrowed := true }
def MacTagsUptoSaid : Prop := macTagsUptoRow.holds Try.pinned (OpenSpec.upto macTagsSpec)

/-- 'munimentlaw02.MacSeals', WHERE WHAT IT READS IS OF BULK AT MOST 1048576: true; the input reads as it did. -/
def macSealsUptoRow : OpenClaim := { program := "ytmhkcnibbodjnaa", sum := "8ee2c4fb86533a00521bef0a6ac8e71620f88bb358a88a9487a04137cbb28383", func := "muniment/munimentlaw02.MacSeals", spec := "macSeals", inPlace := ["internal/abi.NoEscape", "internal/bytealg.MakeNoZero"], apart := false, narrowed := true }
def MacSealsUptoSaid : Prop := macSealsUptoRow.holds Try.pinned (OpenSpec.upto macSealsSpec)

/-- 'munimentlaw02.MacNil', WHERE WHAT IT READS IS OF BULK AT MOST 1048576: true; the input reads as it did. -/
def macNilUptoRow : OpenClaim := { program := "ytmhkcnibbodjnaa", sum := "8ee2c4fb86533a00521bef0a6ac8e71620f88bb358a88a9487a04137cbb28383", func := "muniment/munimentlaw02.MacNil", spec := "macNil", inPlace := ["internal/abi.NoEscape", "internal/bytealg.MakeNoZero"], apart := false, narrowed := true }
def MacNilUptoSaid : Prop := macNilUptoRow.holds Try.pinned (OpenSpec.upto macNilSpec)

/-- 'munimentlaw02.MacRings', WHERE WHAT IT READS IS OF BULK AT MOST 1048576: true; the input reads as it did. -/
def macRingsUptoRow : OpenClaim := { program := "ytmhkcnibbodjnaa", sum := "8ee2c4fb86533a00521bef0a6ac8e71620f88bb358a88a9487a04137cbb28383", func := "muniment/munimentlaw02.MacRings", spec := "macRings", inPlace := ["internal/abi.NoEscape", "internal/bytealg.MakeNoZero"], apart := false, narrowed := true }
def MacRingsUptoSaid : Prop := macRingsUptoRow.holds Try.pinned (OpenSpec.upto macRingsSpec)

/-- 'munimentlaw16.SealSeals', WHERE WHAT IT READS IS OF BULK AT MOST 1048576: true; the input reads as it did. -/
def sealSealsUptoRow : OpenClaim := { program := "ytmhkcnibbodjnaa", sum := "8ee2c4fb86533a00521bef0a6ac8e71620f88bb358a88a9487a04137cbb28383", func := "muniment/munimentlaw16.SealSeals", spec := "sealSeals", inPlace := ["internal/abi.NoEscape", "internal/bytealg.MakeNoZero"], recurses := true, apart := false, narrowed := true }
def SealSealsUptoSaid : Prop := sealSealsUptoRow.holds Try.pinned (OpenSpec.upto sealSealsSpec)

/-- 'munimentlaw16.SealOpens', WHERE WHAT IT READS IS OF BULK AT MOST 1048576: true; the input reads as it did. -/
def sealOpensUptoRow : OpenClaim := { program := "ytmhkcnibbodjnaa", sum := "8ee2c4fb86533a00521bef0a6ac8e71620f88bb358a88a9487a04137cbb28383", func := "muniment/munimentlaw16.SealOpens", spec := "sealOpens", inPlace := ["internal/abi.NoEscape", "internal/bytealg.MakeNoZero"], recurses := true, apart := false, narrowed := true }
def SealOpensUptoSaid : Prop := sealOpensUptoRow.holds Try.pinned (OpenSpec.upto sealOpensSpec)

/-- 'munimentlaw16.SealWrong', WHERE WHAT IT READS IS OF BULK AT MOST 1048576: true; the input reads as it did. -/
def sealWrongUptoRow : OpenClaim := { program := "ytmhkcnibbodjnaa", sum := "8ee2c4fb86533a00521bef0a6ac8e71620f88bb358a88a9487a04137cbb28383", func := "muniment/munimentlaw16.SealWrong", spec := "sealWrong", inPlace := ["internal/abi.NoEscape", "internal/bytealg.MakeNoZero"], recurses := true, apart := false, narrowed := true }
def SealWrongUptoSaid : Prop := sealWrongUptoRow.holds Try.pinned (OpenSpec.upto sealWrongSpec)

/-- 'munimentlaw17.CertSigns', WHERE WHAT IT READS IS OF BULK AT MOST 1048576: true; the input reads as it did. -/
def certSignsUptoRow : OpenClaim := { program := "ytmhkcnibbodjnaa", sum := "8ee2c4fb86533a00521bef0a6ac8e71620f88bb358a88a9487a04137cbb28383", func := "muniment/munimentlaw17.CertSigns", spec := "certSigns", inPlace := ["internal/abi.NoEscape", "internal/bytealg.MakeNoZero", "slices.overlaps[muniment/api.Tag]"], unfollowed := true, recurses := true, apart := false, narrowed := true }
def CertSignsUptoSaid : Prop := certSignsUptoRow.holds Try.pinned (OpenSpec.upto certSignsSpec)

/-- 'munimentlaw17.CertChecks', WHERE WHAT IT READS IS OF BULK AT MOST 1048576: true; the input reads as it did. -/
def certChecksUptoRow : OpenClaim := { program := "ytmhkcnibbodjnaa", sum := "8ee2c4fb86533a00521bef0a6ac8e71620f88bb358a88a9487a04137cbb28383", func := "muniment/munimentlaw17.CertChecks", spec := "certChecks", inPlace := ["internal/abi.NoEscape", "internal/bytealg.MakeNoZero", "slices.overlaps[muniment/api.Tag]"], unfollowed := true, recurses := true, apart := false, narrowed := true }
def CertChecksUptoSaid : Prop := certChecksUptoRow.holds Try.pinned (OpenSpec.upto certChecksSpec)

/-- 'munimentlaw17.CertOrders', WHERE WHAT IT READS IS OF BULK AT MOST 1048576: true; the input reads as it did. -/
def certOrdersUptoRow : OpenClaim := { program := "ytmhkcnibbodjnaa", sum := "8ee2c4fb86533a00521bef0a6ac8e71620f88bb358a88a9487a04137cbb28383", func := "muniment/munimentlaw17.CertOrders", spec := "certOrders", inPlace := ["internal/abi.NoEscape", "internal/bytealg.MakeNoZero", "slices.overlaps[muniment/api.Tag]"], unfollowed := true, recurses := true, apart := false, narrowed := true }
def CertOrdersUptoSaid : Prop := certOrdersUptoRow.holds Try.pinned (OpenSpec.upto certOrdersSpec)

/-- 'munimentlaw17.CertBytes', WHERE WHAT IT READS IS OF BULK AT MOST 1048576: true; the input reads as it did. -/
def certBytesUptoRow : OpenClaim := { program := "ytmhkcnibbodjnaa", sum := "8ee2c4fb86533a00521bef0a6ac8e71620f88bb358a88a9487a04137cbb28383", func := "muniment/munimentlaw17.CertBytes", spec := "certBytes", inPlace := ["internal/abi.NoEscape", "internal/bytealg.MakeNoZero", "slices.overlaps[muniment/api.Tag]"], unfollowed := true, recurses := true, apart := false, narrowed := true }
def CertBytesUptoSaid : Prop := certBytesUptoRow.holds Try.pinned (OpenSpec.upto certBytesSpec)

end Rows
end Go.Proofs.Ytmhkcnibbodjnaa
