/-
  No cell of these rows narrows 'for every input' (looked for: loops, veiled, ifaces, maps, wideKeys, modest, calm, conditions, laid).
  DERIVED. THE GIVEN ROWS OF THIS SEAT. 5 by the template 'for every input the law returns true; each argument reads behind the call as it read before'; 0 by the template 'total and deterministic' (their statements: YtogjhcelmbhooaaTotals.lean).
  GIVEN WITH THE SEED: the statements are not yours to turn. If you find one false, say at which input.
  Laid BY PROGRAM, IN A SANDBOX (cutbox-rows.mjs): the forced cells as the released guide's own fill.sh prints them over the translation 5576b701316efbe6… (all of the seat's roots in one cut). By AI agents, Wed Nov 11 2026. No macro, syntax, notation, axiom, sorry.
-/
import Derived.Test.YtogjhcelmbhooaaChecked
import GoSem.Claim
import GoSem.ClaimJoined
import GoSem.ClaimMapViews
import Derived.JoinedTies
import Derived.KernelRfl
namespace Go.Proofs.Ytogjhcelmbhooaa
/- THE CELL 'sum', in the pinned program and in every row, IS THE sha256 OF THE DUMP (.gsa) THAT YtogjhcelmbhooaaProg.lean LOADS. Nothing in Lean hashes anything: it is a label: what it is worth is what the hold of that sum in a sandbox is worth. -/
noncomputable def Try.pinned : Pinned := { name := "ytogjhcelmbhooaa", sum := "5576b701316efbe63579557711253228f685a86b45e58d527a51baae8e40573a", checked := Try.checked }
namespace Rows
def none {H : Type} : Left H := { results := [], args := [] }

/-- 'sandglasslaw35.SegmentPlays': WHATEVER THE INPUT: true; the input reads as it did. -/
def segmentPlaysSpec : ChangeSpec := { name := "segmentPlays", fn := fun _ => fun
  | [d1, d2] => { results := [.lit (.bool true)], args := [d1, d2] }
  | _ => none }
def segmentPlaysRow : OpenClaim := { program := "ytogjhcelmbhooaa", sum := "5576b701316efbe63579557711253228f685a86b45e58d527a51baae8e40573a", func := "sandglass/sandglasslaw35.SegmentPlays", spec := "segmentPlays", apart := false }
def SegmentPlaysSaid : Prop := segmentPlaysRow.holds Try.pinned (OpenSpec.ofChange segmentPlaysSpec)

/-- ITS FALSE NEIGHBOUR: 'it returns false'. Refute it at one input. -/
def segmentPlaysWrong : ChangeSpec := { name := "segmentPlays", fn := fun _ => fun
  | [d1, d2] => { results := [.lit (.bool false)], args := [d1, d2] }
  | _ => none }
def SegmentPlaysWrongFalsely : Prop := segmentPlaysRow.holds Try.pinned (OpenSpec.ofChange segmentPlaysWrong)

/-- 'sandglasslaw35.SegmentBack': WHATEVER THE INPUT: true; the input reads as it did. -/
def segmentBackSpec : ChangeSpec := { name := "segmentBack", fn := fun _ => fun
  | [d1, d2] => { results := [.lit (.bool true)], args := [d1, d2] }
  | _ => none }
def segmentBackRow : OpenClaim := { program := "ytogjhcelmbhooaa", sum := "5576b701316efbe63579557711253228f685a86b45e58d527a51baae8e40573a", func := "sandglass/sandglasslaw35.SegmentBack", spec := "segmentBack", apart := false }
def SegmentBackSaid : Prop := segmentBackRow.holds Try.pinned (OpenSpec.ofChange segmentBackSpec)

/-- ITS FALSE NEIGHBOUR: 'it returns false'. Refute it at one input. -/
def segmentBackWrong : ChangeSpec := { name := "segmentBack", fn := fun _ => fun
  | [d1, d2] => { results := [.lit (.bool false)], args := [d1, d2] }
  | _ => none }
def SegmentBackWrongFalsely : Prop := segmentBackRow.holds Try.pinned (OpenSpec.ofChange segmentBackWrong)

/-- 'sandglasslaw35.SegmentSure': WHATEVER THE INPUT: true; the input reads as it did. -/
def segmentSureSpec : ChangeSpec := { name := "segmentSure", fn := fun _ => fun
  | [d1, d2, d3] => { results := [.lit (.bool true)], args := [d1, d2, d3] }
  | _ => none }
def segmentSureRow : OpenClaim := { program := "ytogjhcelmbhooaa", sum := "5576b701316efbe63579557711253228f685a86b45e58d527a51baae8e40573a", func := "sandglass/sandglasslaw35.SegmentSure", spec := "segmentSure", apart := false }
def SegmentSureSaid : Prop := segmentSureRow.holds Try.pinned (OpenSpec.ofChange segmentSureSpec)

/-- ITS FALSE NEIGHBOUR: 'it returns false'. Refute it at one input. -/
def segmentSureWrong : ChangeSpec := { name := "segmentSure", fn := fun _ => fun
  | [d1, d2, d3] => { results := [.lit (.bool false)], args := [d1, d2, d3] }
  | _ => none }
def SegmentSureWrongFalsely : Prop := segmentSureRow.holds Try.pinned (OpenSpec.ofChange segmentSureWrong)

/-- 'sandglasslaw35.SegmentDrop': WHATEVER THE INPUT: true; the input reads as it did. -/
def segmentDropSpec : ChangeSpec := { name := "segmentDrop", fn := fun _ => fun
  | [d1, d2, d3] => { results := [.lit (.bool true)], args := [d1, d2, d3] }
  | _ => none }
def segmentDropRow : OpenClaim := { program := "ytogjhcelmbhooaa", sum := "5576b701316efbe63579557711253228f685a86b45e58d527a51baae8e40573a", func := "sandglass/sandglasslaw35.SegmentDrop", spec := "segmentDrop", apart := false }
def SegmentDropSaid : Prop := segmentDropRow.holds Try.pinned (OpenSpec.ofChange segmentDropSpec)

/-- ITS FALSE NEIGHBOUR: 'it returns false'. Refute it at one input. -/
def segmentDropWrong : ChangeSpec := { name := "segmentDrop", fn := fun _ => fun
  | [d1, d2, d3] => { results := [.lit (.bool false)], args := [d1, d2, d3] }
  | _ => none }
def SegmentDropWrongFalsely : Prop := segmentDropRow.holds Try.pinned (OpenSpec.ofChange segmentDropWrong)

/-- 'sandglasslaw35.SegmentNone': WHATEVER THE INPUT: true; the input reads as it did. -/
def segmentNoneSpec : ChangeSpec := { name := "segmentNone", fn := fun _ => fun
  | [d1, d2] => { results := [.lit (.bool true)], args := [d1, d2] }
  | _ => none }
def segmentNoneRow : OpenClaim := { program := "ytogjhcelmbhooaa", sum := "5576b701316efbe63579557711253228f685a86b45e58d527a51baae8e40573a", func := "sandglass/sandglasslaw35.SegmentNone", spec := "segmentNone", apart := false }
def SegmentNoneSaid : Prop := segmentNoneRow.holds Try.pinned (OpenSpec.ofChange segmentNoneSpec)

/-- ITS FALSE NEIGHBOUR: 'it returns false'. Refute it at one input. -/
def segmentNoneWrong : ChangeSpec := { name := "segmentNone", fn := fun _ => fun
  | [d1, d2] => { results := [.lit (.bool false)], args := [d1, d2] }
  | _ => none }
def SegmentNoneWrongFalsely : Prop := segmentNoneRow.holds Try.pinned (OpenSpec.ofChange segmentNoneWrong)

/- THE SECOND FORM. 'bulk': how many values and letters a reading holds, each counted each time it is reached (what is shared counts as often as it is met; a slice's spare places count too). A statement '..UptoSaid' is the law's where the arguments, and the package variables that the reading takes, are together of bulk at most 1048576: NARROWER than '..Said'. Prove '..Said' where nothing that the law and all that it calls make is longer than what came in: it says more and counts as full. Else prove '..UptoSaid'. A law counts once. -/
mutual
def uptoBulk {H : Type} : DataW H → Nat
  | .lit (.string bytes) => bytes.length + 1
  | .lit _ => 1
  | .nil => 1
  | .ptr d => uptoBulk d + 1
  | .slice elems spare => uptoBulkAll elems + uptoBulkAll spare + 1
  | .agg parts => uptoBulkAll parts + 1
  | .iface _ d => uptoBulk d + 1
  | .map entries => uptoBulkEntries entries + 1
  | .held _ => 1
def uptoBulkAll {H : Type} : List (DataW H) → Nat
  | [] => 0
  | d :: r => uptoBulk d + uptoBulkAll r
def uptoBulkEntries {H : Type} : List (Lit × DataW H) → Nat
  | [] => 0
  | x :: r => uptoBulkEntry x + uptoBulkEntries r
def uptoBulkEntry {H : Type} : Lit × DataW H → Nat
  | (.string bytes, d) => bytes.length + uptoBulk d + 1
  | (_, d) => uptoBulk d + 1
 end
def uptoSmall : (H : Type) → List (DataW H) → Bool := fun _ ds => decide (uptoBulkAll ds ≤ 1048576)
def OpenSpec.upto (s : _root_.Go.ChangeSpec) : _root_.Go.OpenSpec := { _root_.Go.OpenSpec.ofChange s with cond := some uptoSmall }

/-- 'sandglasslaw35.SegmentPlays', WHERE WHAT IT READS IS OF BULK AT MOST 1048576: true; the input reads as it did. -/
def segmentPlaysUptoRow : OpenClaim := { program := "ytogjhcelmbhooaa", sum := "5576b701316efbe63579557711253228f685a86b45e58d527a51baae8e40573a", func := "sandglass/sandglasslaw35.SegmentPlays", spec := "segmentPlays", apart := false, narrowed := true }
def SegmentPlaysUptoSaid : Prop := segmentPlaysUptoRow.holds Try.pinned (OpenSpec.upto segmentPlaysSpec)

/-- 'sandglasslaw35.SegmentBack', WHERE WHAT IT READS IS OF BULK AT MOST 1048576: true; the input reads as it did. -/
def segmentBackUptoRow : OpenClaim := { program := "ytogjhcelmbhooaa", sum := "5576b701316efbe63579557711253228f685a86b45e58d527a51baae8e40573a", func := "sandglass/sandglasslaw35.SegmentBack", spec := "segmentBack", apart := false, narrowed := true }
def SegmentBackUptoSaid : Prop := segmentBackUptoRow.holds Try.pinned (OpenSpec.upto segmentBackSpec)

/-- 'sandglasslaw35.SegmentSure', WHERE WHAT IT READS IS OF BULK AT MOST 1048576: true; the input reads as it did. -/
def segmentSureUptoRow : OpenClaim := { program := "ytogjhcelmbhooaa", sum := "5576b701316efbe63579557711253228f685a86b45e58d527a51baae8e40573a", func := "sandglass/sandglasslaw35.SegmentSure", spec := "segmentSure", apart := false, narrowed := true }
def SegmentSureUptoSaid : Prop := segmentSureUptoRow.holds Try.pinned (OpenSpec.upto segmentSureSpec)

/-- 'sandglasslaw35.SegmentDrop', WHERE WHAT IT READS IS OF BULK AT MOST 1048576: true; the input reads as it did. -/
def segmentDropUptoRow : OpenClaim := { program := "ytogjhcelmbhooaa", sum := "5576b701316efbe63579557711253228f685a86b45e58d527a51baae8e40573a", func := "sandglass/sandglasslaw35.SegmentDrop", spec := "segmentDrop", apart := false, narrowed := true }
def SegmentDropUptoSaid : Prop := segmentDropUptoRow.holds Try.pinned (OpenSpec.upto segmentDropSpec)

/-- 'sandglasslaw35.SegmentNone', WHERE WHAT IT READS IS OF BULK AT MOST 1048576: true; the input reads as it did. -/
def segmentNoneUptoRow : OpenClaim := { program := "ytogjhcelmbhooaa", sum := "5576b701316efbe63579557711253228f685a86b45e58d527a51baae8e40573a", func := "sandglass/sandglasslaw35.SegmentNone", spec := "segmentNone", apart := false, narrowed := true }
def SegmentNoneUptoSaid : Prop := segmentNoneUptoRow.holds Try.pinned (OpenSpec.upto segmentNoneSpec)

end Rows
end Go.Proofs.Ytogjhcelmbhooaa
