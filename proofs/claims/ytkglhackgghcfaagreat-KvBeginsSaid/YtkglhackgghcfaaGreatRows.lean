/-
  No cell of these rows narrows 'for every input' (looked for: loops, veiled, ifaces, maps, wideKeys, modest, calm, conditions, laid).
  DERIVED. THE GIVEN ROWS OF THIS SEAT. 4 by the template 'for every input the law returns true; each argument reads behind the call as it read before'; 0 by the template 'total and deterministic' (their statements: YtkglhackgghcfaaGreatTotals.lean).
  GIVEN WITH THE SEED: the statements are not yours to turn. If you find one false, say at which input.
  Laid BY PROGRAM, IN A SANDBOX (cutbox-rows.mjs): the forced cells as the released guide's own fill.sh prints them over the translation ce06dacd90c1ffa6… (all of the seat's roots in one cut). By AI agents, Wed Nov 11 2026. No macro, syntax, notation, axiom, sorry.
-/
import Derived.Test.YtkglhackgghcfaaGreatChecked
import GoSem.Claim
import GoSem.ClaimJoined
import GoSem.ClaimMapViews
import Derived.JoinedTies
import Derived.KernelRfl
namespace Go.Proofs.YtkglhackgghcfaaGreat
/- THE CELL 'sum', in the pinned program and in every row, IS THE sha256 OF THE DUMP (.gsa) THAT YtkglhackgghcfaaGreatProg.lean LOADS. Nothing in Lean hashes anything: it is a label: what it is worth is what the hold of that sum in a sandbox is worth. -/
noncomputable def Tryz.pinned : Pinned := { name := "ytkglhackgghcfaagreat", sum := "ce06dacd90c1ffa6494a58f8af382fc3fba509a0e106686b3292cfe44e47d223", checked := Tryz.checked }
namespace Rows
def none {H : Type} : Left H := { results := [], args := [] }

/-- 'sandglasslaw38.KvBegins': WHATEVER THE INPUT: true; the input reads as it did. -/
def kvBeginsSpec : ChangeSpec := { name := "kvBegins", fn := fun _ => fun
  | [d1, d2, d3] => { results := [.lit (.bool true)], args := [d1, d2, d3] }
  | _ => none }
def kvBeginsRow : OpenClaim := { program := "ytkglhackgghcfaagreat", sum := "ce06dacd90c1ffa6494a58f8af382fc3fba509a0e106686b3292cfe44e47d223", func := "sandglass/sandglasslaw38.KvBegins", spec := "kvBegins", inPlace := ["slices.overlaps[sandglass/api.Pair]", "slices.overlaps[*sandglass/tree.node]", "internal/bytealg.abigen_runtime_cmpstring"], unfollowed := true, recurses := true, apart := false }
def KvBeginsSaid : Prop := kvBeginsRow.holds Tryz.pinned (OpenSpec.ofChange kvBeginsSpec)

/-- ITS FALSE NEIGHBOUR: 'it returns false'. Refute it at one input. -/
def kvBeginsWrong : ChangeSpec := { name := "kvBegins", fn := fun _ => fun
  | [d1, d2, d3] => { results := [.lit (.bool false)], args := [d1, d2, d3] }
  | _ => none }
def KvBeginsWrongFalsely : Prop := kvBeginsRow.holds Tryz.pinned (OpenSpec.ofChange kvBeginsWrong)

/-- 'sandglasslaw38.KvSure': WHATEVER THE INPUT: true; the input reads as it did. -/
def kvSureSpec : ChangeSpec := { name := "kvSure", fn := fun _ => fun
  | [d1, d2, d3] => { results := [.lit (.bool true)], args := [d1, d2, d3] }
  | _ => none }
def kvSureRow : OpenClaim := { program := "ytkglhackgghcfaagreat", sum := "ce06dacd90c1ffa6494a58f8af382fc3fba509a0e106686b3292cfe44e47d223", func := "sandglass/sandglasslaw38.KvSure", spec := "kvSure", inPlace := ["slices.overlaps[sandglass/api.Pair]", "slices.overlaps[*sandglass/tree.node]", "internal/bytealg.abigen_runtime_cmpstring"], unfollowed := true, recurses := true, apart := false }
def KvSureSaid : Prop := kvSureRow.holds Tryz.pinned (OpenSpec.ofChange kvSureSpec)

/-- ITS FALSE NEIGHBOUR: 'it returns false'. Refute it at one input. -/
def kvSureWrong : ChangeSpec := { name := "kvSure", fn := fun _ => fun
  | [d1, d2, d3] => { results := [.lit (.bool false)], args := [d1, d2, d3] }
  | _ => none }
def KvSureWrongFalsely : Prop := kvSureRow.holds Tryz.pinned (OpenSpec.ofChange kvSureWrong)

/-- 'sandglasslaw38.KvRefused': WHATEVER THE INPUT: true; the input reads as it did. -/
def kvRefusedSpec : ChangeSpec := { name := "kvRefused", fn := fun _ => fun
  | [d1, d2] => { results := [.lit (.bool true)], args := [d1, d2] }
  | _ => none }
def kvRefusedRow : OpenClaim := { program := "ytkglhackgghcfaagreat", sum := "ce06dacd90c1ffa6494a58f8af382fc3fba509a0e106686b3292cfe44e47d223", func := "sandglass/sandglasslaw38.KvRefused", spec := "kvRefused", inPlace := ["slices.overlaps[sandglass/api.Pair]", "slices.overlaps[*sandglass/tree.node]", "internal/bytealg.abigen_runtime_cmpstring"], unfollowed := true, recurses := true, apart := false }
def KvRefusedSaid : Prop := kvRefusedRow.holds Tryz.pinned (OpenSpec.ofChange kvRefusedSpec)

/-- ITS FALSE NEIGHBOUR: 'it returns false'. Refute it at one input. -/
def kvRefusedWrong : ChangeSpec := { name := "kvRefused", fn := fun _ => fun
  | [d1, d2] => { results := [.lit (.bool false)], args := [d1, d2] }
  | _ => none }
def KvRefusedWrongFalsely : Prop := kvRefusedRow.holds Tryz.pinned (OpenSpec.ofChange kvRefusedWrong)

/-- 'sandglasslaw38.KvNone': WHATEVER THE INPUT: true; the input reads as it did. -/
def kvNoneSpec : ChangeSpec := { name := "kvNone", fn := fun _ => fun
  | [d] => { results := [.lit (.bool true)], args := [d] }
  | _ => none }
def kvNoneRow : OpenClaim := { program := "ytkglhackgghcfaagreat", sum := "ce06dacd90c1ffa6494a58f8af382fc3fba509a0e106686b3292cfe44e47d223", func := "sandglass/sandglasslaw38.KvNone", spec := "kvNone", inPlace := ["slices.overlaps[sandglass/api.Pair]", "slices.overlaps[*sandglass/tree.node]", "internal/bytealg.abigen_runtime_cmpstring"], unfollowed := true, recurses := true, apart := false }
def KvNoneSaid : Prop := kvNoneRow.holds Tryz.pinned (OpenSpec.ofChange kvNoneSpec)

/-- ITS FALSE NEIGHBOUR: 'it returns false'. Refute it at one input. -/
def kvNoneWrong : ChangeSpec := { name := "kvNone", fn := fun _ => fun
  | [d] => { results := [.lit (.bool false)], args := [d] }
  | _ => none }
def KvNoneWrongFalsely : Prop := kvNoneRow.holds Tryz.pinned (OpenSpec.ofChange kvNoneWrong)

/- THE SECOND FORM. 'bulk': how many values and letters a reading holds, each counted each time it is reached (what is shared counts as often as it is met; a slice's spare places count too). A statement '..UptoSaid' is the law's where the arguments, and the package variables that the reading takes, are together of bulk at most 1048576: NARROWER than '..Said'. Prove '..Said' where nothing that the law and all that it calls make is longer than what came in: it says more and counts as full. Else prove '..UptoSaid'. A law counts once. -/
mutual
def uptoBulk {H : Type} : DataW H → Nat
  | .lit (.string bytes) => bytes.length + 1
  | .lit _ => 1
  | .nil => 1
  | .ptr d => uptoBulk d + 1
  | .slice elems spare => uptoBulkAll elems + uptoBulkAll spare + 1
  | .agg parts => uptoBulkAll parts + 1
  | .iface _ d => uptoBulk d + 1
  | .map entries => uptoBulkEntries entries + 1
  | .held _ => 1
def uptoBulkAll {H : Type} : List (DataW H) → Nat
  | [] => 0
  | d :: r => uptoBulk d + uptoBulkAll r
def uptoBulkEntries {H : Type} : List (Lit × DataW H) → Nat
  | [] => 0
  | x :: r => uptoBulkEntry x + uptoBulkEntries r
def uptoBulkEntry {H : Type} : Lit × DataW H → Nat
  | (.string bytes, d) => bytes.length + uptoBulk d + 1
  | (_, d) => uptoBulk d + 1
 end
def uptoSmall : (H : Type) → List (DataW H) → Bool := fun _ ds => decide (uptoBulkAll ds ≤ 1048576)
def OpenSpec.upto (s : _root_.Go.ChangeSpec) : _root_.Go.OpenSpec := { _root_.Go.OpenSpec.ofChange s with cond := some uptoSmall }

/-- 'sandglasslaw38.KvBegins', WHERE WHAT IT READS IS OF BULK AT MOST 1048576: true; the input reads as it did. -/
def kvBeginsUptoRow : OpenClaim := { program := "ytkglhackgghcfaagreat", sum := "ce06dacd90c1ffa6494a58f8af382fc3fba509a0e106686b3292cfe44e47d223", func := "sandglass/sandglasslaw38.KvBegins", spec := "kvBegins", inPlace := ["slices.overlaps[sandglass/api.Pair]", "slices.overlaps[*sandglass/tree.node]", "internal/bytealg.abigen_runtime_cmpstring"], unfollowed := true, recurses := true, apart := false, narrowed := true }
def KvBeginsUptoSaid : Prop := kvBeginsUptoRow.holds Tryz.pinned (OpenSpec.upto kvBeginsSpec)

/-- 'sandglasslaw38.KvSure', WHERE WHAT IT READS IS OF BULK AT MOST 1048576: true; the input reads as it did. -/
def kvSureUptoRow : OpenClaim := { program := "ytkglhackgghcfaagreat", sum := "ce06dacd90c1ffa6494a58f8af382fc3fba509a0e106686b3292cfe44e47d223", func := "sandglass/sandglasslaw38.KvSure", spec := "kvSure", inPlace := ["slices.overlaps[sandglass/api.Pair]", "slices.overlaps[*sandglass/tree.node]", "internal/bytealg.abigen_runtime_cmpstring"], unfollowed := true, recurses := true, apart := false, narrowed := true }
def KvSureUptoSaid : Prop := kvSureUptoRow.holds Tryz.pinned (OpenSpec.upto kvSureSpec)

/-- 'sandglasslaw38.KvRefused', WHERE WHAT IT READS IS OF BULK AT MOST 1048576: true; the input reads as it did. -/
def kvRefusedUptoRow : OpenClaim := { program := "ytkglhackgghcfaagreat", sum := "ce06dacd90c1ffa6494a58f8af382fc3fba509a0e106686b3292cfe44e47d223", func := "sandglass/sandglasslaw38.KvRefused", spec := "kvRefused", inPlace := ["slices.overlaps[sandglass/api.Pair]", "slices.overlaps[*sandglass/tree.node]", "internal/bytealg.abigen_runtime_cmpstring"], unfollowed := true, recurses := true, apart := false, narrowed := true }
def KvRefusedUptoSaid : Prop := kvRefusedUptoRow.holds Tryz.pinned (OpenSpec.upto kvRefusedSpec)

/-- 'sandglasslaw38.KvNone', WHERE WHAT IT READS IS OF BULK AT MOST 1048576: true; the input reads as it did. -/
def kvNoneUptoRow : OpenClaim := { program := "ytkglhackgghcfaagreat", sum := "ce06dacd90c1ffa6494a58f8af382fc3fba509a0e106686b3292cfe44e47d223", func := "sandglass/sandglasslaw38.KvNone", spec := "kvNone", inPlace := ["slices.overlaps[sandglass/api.Pair]", "slices.overlaps[*sandglass/tree.node]", "internal/bytealg.abigen_runtime_cmpstring"], unfollowed := true, recurses := true, apart := false, narrowed := true }
def KvNoneUptoSaid : Prop := kvNoneUptoRow.holds Tryz.pinned (OpenSpec.upto kvNoneSpec)

end Rows
end Go.Proofs.YtkglhackgghcfaaGreat
