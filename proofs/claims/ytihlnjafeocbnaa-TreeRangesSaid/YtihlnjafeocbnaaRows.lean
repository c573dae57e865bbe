/-
  No cell of these rows narrows 'for every input' (looked for: loops, veiled, ifaces, maps, wideKeys, modest, calm, conditions, laid).
  DERIVED. THE GIVEN ROWS OF THIS SEAT. 5 by the template 'for every input the law returns true; each argument reads behind the call as it read before'; 0 by the template 'total and deterministic' (their statements: YtihlnjafeocbnaaTotals.lean).
  GIVEN WITH THE SEED: the statements are not yours to turn. If you find one false, say at which input.
  Laid BY PROGRAM, IN A SANDBOX (cutbox-rows.mjs): the forced cells as the released guide's own fill.sh prints them over the translation bcf2f6f421190cc1… (all of the seat's roots in one cut). By AI agents, Wed Nov 11 2026. No macro, syntax, notation, axiom, sorry.
-/
import Derived.Test.YtihlnjafeocbnaaChecked
import GoSem.Claim
import GoSem.ClaimJoined
import GoSem.ClaimMapViews
import Derived.JoinedTies
import Derived.KernelRfl
namespace Go.Proofs.Ytihlnjafeocbnaa
/- THE CELL 'sum', in the pinned program and in every row, IS THE sha256 OF THE DUMP (.gsa) THAT YtihlnjafeocbnaaProg.lean LOADS. Nothing in Lean hashes anything: it is a label: what it is worth is what the hold of that sum in a sandbox is worth. -/
noncomputable def Try.pinned : Pinned := { name := "ytihlnjafeocbnaa", sum := "bcf2f6f421190cc17805ad74f91f04ab724fa9932b285e22b4c8d0e73ec36065", checked := Try.checked }
namespace Rows
def none {H : Type} : Left H := { results := [], args := [] }

/-- 'sandglasslaw36.TreePlays': WHATEVER THE INPUT: true; the input reads as it did. -/
def treePlaysSpec : ChangeSpec := { name := "treePlays", fn := fun _ => fun
  | [d] => { results := [.lit (.bool true)], args := [d] }
  | _ => none }
def treePlaysRow : OpenClaim := { program := "ytihlnjafeocbnaa", sum := "bcf2f6f421190cc17805ad74f91f04ab724fa9932b285e22b4c8d0e73ec36065", func := "sandglass/sandglasslaw36.TreePlays", spec := "treePlays", inPlace := ["slices.overlaps[sandglass/api.Pair]", "slices.overlaps[*sandglass/tree.node]", "internal/bytealg.abigen_runtime_cmpstring"], unfollowed := true, recurses := true, apart := false }
def TreePlaysSaid : Prop := treePlaysRow.holds Try.pinned (OpenSpec.ofChange treePlaysSpec)

/-- ITS FALSE NEIGHBOUR: 'it returns false'. Refute it at one input. -/
def treePlaysWrong : ChangeSpec := { name := "treePlays", fn := fun _ => fun
  | [d] => { results := [.lit (.bool false)], args := [d] }
  | _ => none }
def TreePlaysWrongFalsely : Prop := treePlaysRow.holds Try.pinned (OpenSpec.ofChange treePlaysWrong)

/-- 'sandglasslaw36.TreeRanges': WHATEVER THE INPUT: true; the input reads as it did. -/
def treeRangesSpec : ChangeSpec := { name := "treeRanges", fn := fun _ => fun
  | [d1, d2] => { results := [.lit (.bool true)], args := [d1, d2] }
  | _ => none }
def treeRangesRow : OpenClaim := { program := "ytihlnjafeocbnaa", sum := "bcf2f6f421190cc17805ad74f91f04ab724fa9932b285e22b4c8d0e73ec36065", func := "sandglass/sandglasslaw36.TreeRanges", spec := "treeRanges", inPlace := ["slices.overlaps[sandglass/api.Pair]", "slices.overlaps[*sandglass/tree.node]", "internal/bytealg.abigen_runtime_cmpstring"], unfollowed := true, recurses := true, apart := false }
def TreeRangesSaid : Prop := treeRangesRow.holds Try.pinned (OpenSpec.ofChange treeRangesSpec)

/-- ITS FALSE NEIGHBOUR: 'it returns false'. Refute it at one input. -/
def treeRangesWrong : ChangeSpec := { name := "treeRanges", fn := fun _ => fun
  | [d1, d2] => { results := [.lit (.bool false)], args := [d1, d2] }
  | _ => none }
def TreeRangesWrongFalsely : Prop := treeRangesRow.holds Try.pinned (OpenSpec.ofChange treeRangesWrong)

/-- 'sandglasslaw36.TreeRight': WHATEVER THE INPUT: true; the input reads as it did. -/
def treeRightSpec : ChangeSpec := { name := "treeRight", fn := fun _ => fun
  | [d] => { results := [.lit (.bool true)], args := [d] }
  | _ => none }
def treeRightRow : OpenClaim := { program := "ytihlnjafeocbnaa", sum := "bcf2f6f421190cc17805ad74f91f04ab724fa9932b285e22b4c8d0e73ec36065", func := "sandglass/sandglasslaw36.TreeRight", spec := "treeRight", inPlace := ["slices.overlaps[sandglass/api.Pair]", "slices.overlaps[*sandglass/tree.node]", "internal/bytealg.abigen_runtime_cmpstring"], unfollowed := true, recurses := true, apart := false }
def TreeRightSaid : Prop := treeRightRow.holds Try.pinned (OpenSpec.ofChange treeRightSpec)

/-- ITS FALSE NEIGHBOUR: 'it returns false'. Refute it at one input. -/
def treeRightWrong : ChangeSpec := { name := "treeRight", fn := fun _ => fun
  | [d] => { results := [.lit (.bool false)], args := [d] }
  | _ => none }
def TreeRightWrongFalsely : Prop := treeRightRow.holds Try.pinned (OpenSpec.ofChange treeRightWrong)

/-- 'sandglasslaw36.TreeClone': WHATEVER THE INPUT: true; the input reads as it did. -/
def treeCloneSpec : ChangeSpec := { name := "treeClone", fn := fun _ => fun
  | [d1, d2] => { results := [.lit (.bool true)], args := [d1, d2] }
  | _ => none }
def treeCloneRow : OpenClaim := { program := "ytihlnjafeocbnaa", sum := "bcf2f6f421190cc17805ad74f91f04ab724fa9932b285e22b4c8d0e73ec36065", func := "sandglass/sandglasslaw36.TreeClone", spec := "treeClone", inPlace := ["slices.overlaps[sandglass/api.Pair]", "slices.overlaps[*sandglass/tree.node]", "internal/bytealg.abigen_runtime_cmpstring"], unfollowed := true, recurses := true, apart := false }
def TreeCloneSaid : Prop := treeCloneRow.holds Try.pinned (OpenSpec.ofChange treeCloneSpec)

/-- ITS FALSE NEIGHBOUR: 'it returns false'. Refute it at one input. -/
def treeCloneWrong : ChangeSpec := { name := "treeClone", fn := fun _ => fun
  | [d1, d2] => { results := [.lit (.bool false)], args := [d1, d2] }
  | _ => none }
def TreeCloneWrongFalsely : Prop := treeCloneRow.holds Try.pinned (OpenSpec.ofChange treeCloneWrong)

/-- 'sandglasslaw36.TreeNone': WHATEVER THE INPUT: true; the input reads as it did. -/
def treeNoneSpec : ChangeSpec := { name := "treeNone", fn := fun _ => fun
  | [d] => { results := [.lit (.bool true)], args := [d] }
  | _ => none }
def treeNoneRow : OpenClaim := { program := "ytihlnjafeocbnaa", sum := "bcf2f6f421190cc17805ad74f91f04ab724fa9932b285e22b4c8d0e73ec36065", func := "sandglass/sandglasslaw36.TreeNone", spec := "treeNone", inPlace := ["internal/bytealg.abigen_runtime_cmpstring", "slices.overlaps[sandglass/api.Pair]", "slices.overlaps[*sandglass/tree.node]"], unfollowed := true, recurses := true, apart := false }
def TreeNoneSaid : Prop := treeNoneRow.holds Try.pinned (OpenSpec.ofChange treeNoneSpec)

/-- ITS FALSE NEIGHBOUR: 'it returns false'. Refute it at one input. -/
def treeNoneWrong : ChangeSpec := { name := "treeNone", fn := fun _ => fun
  | [d] => { results := [.lit (.bool false)], args := [d] }
  | _ => none }
def TreeNoneWrongFalsely : Prop := treeNoneRow.holds Try.pinned (OpenSpec.ofChange treeNoneWrong)

/- THE SECOND FORM. 'bulk': how many values and letters a reading holds, each counted each time it is reached (what is shared counts as often as it is met; a slice's spare places count too). A statement '..UptoSaid' is the law's where the arguments, and the package variables that the reading takes, are together of bulk at most 1048576: NARROWER than '..Said'. Prove '..Said' where nothing that the law and all that it calls make is longer than what came in: it says more and counts as full. Else prove '..UptoSaid'. A law counts once. -/
mutual
def uptoBulk {H : Type} : DataW H → Nat
  | .lit (.string bytes) => bytes.length + 1
  | .lit _ => 1
  | .nil => 1
  | .ptr d => uptoBulk d + 1
  | .slice elems spare => uptoBulkAll elems + uptoBulkAll spare + 1
  | .agg parts => uptoBulkAll parts + 1
  | .iface _ d => uptoBulk d + 1
  | .map entries => uptoBulkEntries entries + 1
  | .held _ => 1
def uptoBulkAll {H : Type} : List (DataW H) → Nat
  | [] => 0
  | d :: r => uptoBulk d + uptoBulkAll r
def uptoBulkEntries {H : Type} : List (Lit × DataW H) → Nat
  | [] => 0
  | x :: r => uptoBulkEntry x + uptoBulkEntries r
def uptoBulkEntry {H : Type} : Lit × DataW H → Nat
  | (.string bytes, d) => bytes.length + uptoBulk d + 1
  | (_, d) => uptoBulk d + 1
 end
def uptoSmall : (H : Type) → List (DataW H) → Bool := fun _ ds => decide (uptoBulkAll ds ≤ 1048576)
def OpenSpec.upto (s : _root_.Go.ChangeSpec) : _root_.Go.OpenSpec := { _root_.Go.OpenSpec.ofChange s with cond := some uptoSmall }

/-- 'sandglasslaw36.TreePlays', WHERE WHAT IT READS IS OF BULK AT MOST 1048576: true; the input reads as it did. -/
def treePlaysUptoRow : OpenClaim := { program := "ytihlnjafeocbnaa", sum := "bcf2f6f421190cc17805ad74f91f04ab724fa9932b285e22b4c8d0e73ec36065", func := "sandglass/sandglasslaw36.TreePlays", spec := "treePlays", inPlace := ["slices.overlaps[sandglass/api.Pair]", "slices.overlaps[*sandglass/tree.node]", "internal/bytealg.abigen_runtime_cmpstring"], unfollowed := true, recurses := true, apart := false, narrowed := true }
def TreePlaysUptoSaid : Prop := treePlaysUptoRow.holds Try.pinned (OpenSpec.upto treePlaysSpec)

/-- 'sandglasslaw36.TreeRanges', WHERE WHAT IT READS IS OF BULK AT MOST 1048576: true; the input reads as it did. -/
def treeRangesUptoRow : OpenClaim := { program := "ytihlnjafeocbnaa", sum := "bcf2f6f421190cc17805ad74f91f04ab724fa9932b285e22b4c8d0e73ec36065", func := "sandglass/sandglasslaw36.TreeRanges", spec := "treeRanges", inPlace := ["slices.overlaps[sandglass/api.Pair]", "slices.overlaps[*sandglass/tree.node]", "internal/bytealg.abigen_runtime_cmpstring"], unfollowed := true, recurses := true, apart := false, narrowed := true }
def TreeRangesUptoSaid : Prop := treeRangesUptoRow.holds Try.pinned (OpenSpec.upto treeRangesSpec)

/-- 'sandglasslaw36.TreeRight', WHERE WHAT IT READS IS OF BULK AT MOST 1048576: true; the input reads as it did. -/
def treeRightUptoRow : OpenClaim := { program := "ytihlnjafeocbnaa", sum := "bcf2f6f421190cc17805ad74f91f04ab724fa9932b285e22b4c8d0e73ec36065", func := "sandglass/sandglasslaw36.TreeRight", spec := "treeRight", inPlace := ["slices.overlaps[sandglass/api.Pair]", "slices.overlaps[*sandglass/tree.node]", "internal/bytealg.abigen_runtime_cmpstring"], unfollowed := true, recurses := true, apart := false, narrowed := true }
def TreeRightUptoSaid : Prop := treeRightUptoRow.holds Try.pinned (OpenSpec.upto treeRightSpec)

/-- 'sandglasslaw36.TreeClone', WHERE WHAT IT READS IS OF BULK AT MOST 1048576: true; the input reads as it did. -/
def treeCloneUptoRow : OpenClaim := { program := "ytihlnjafeocbnaa", sum := "bcf2f6f421190cc17805ad74f91f04ab724fa9932b285e22b4c8d0e73ec36065", func := "sandglass/sandglasslaw36.TreeClone", spec := "treeClone", inPlace := ["slices.overlaps[sandglass/api.Pair]", "slices.overlaps[*sandglass/tree.node]", "internal/bytealg.abigen_runtime_cmpstring"], unfollowed := true, recurses := true, apart := false, narrowed := true }
def TreeCloneUptoSaid : Prop := treeCloneUptoRow.holds Try.pinned (OpenSpec.upto treeCloneSpec)

/-- 'sandglasslaw36.TreeNone', WHERE WHAT IT READS IS OF BULK AT MOST 1048576: true; the input reads as it did. -/
def treeNoneUptoRow : OpenClaim := { program := "ytihlnjafeocbnaa", sum := "bcf2f6f421190cc17805ad74f91f04ab724fa9932b285e22b4c8d0e73ec36065", func := "sandglass/sandglasslaw36.TreeNone", spec := "treeNone", inPlace := ["internal/bytealg.abigen_runtime_cmpstring", "slices.overlaps[sandglass/api.Pair]", "slices.overlaps[*sandglass/tree.node]"], unfollowed := true, recurses := true, apart := false, narrowed := true }
def TreeNoneUptoSaid : Prop := treeNoneUptoRow.holds Try.pinned (OpenSpec.upto treeNoneSpec)

end Rows
end Go.Proofs.Ytihlnjafeocbnaa
