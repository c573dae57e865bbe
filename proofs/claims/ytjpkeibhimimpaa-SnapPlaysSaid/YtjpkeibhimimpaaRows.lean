/-
  No cell of these rows narrows 'for every input' (looked for: loops, veiled, ifaces, maps, wideKeys, modest, calm, conditions, laid).
  DERIVED. THE GIVEN ROWS OF THIS SEAT. 5 by the template 'for every input the law returns true; each argument reads behind the call as it read before'; 0 by the template 'total and deterministic' (their statements: YtjpkeibhimimpaaTotals.lean).
  GIVEN WITH THE SEED: the statements are not yours to turn. If you find one false, say at which input.
  Laid BY PROGRAM, IN A SANDBOX (cutbox-rows.mjs): the forced cells as the released guide's own fill.sh prints them over the translation 15b6d359f6be38e5… (all of the seat's roots in one cut). By AI agents, Wed Nov 11 2026. No macro, syntax, notation, axiom, sorry.
-/
import Derived.Test.YtjpkeibhimimpaaChecked
import GoSem.Claim
import GoSem.ClaimJoined
import GoSem.ClaimMapViews
import Derived.JoinedTies
import Derived.KernelRfl
namespace Go.Proofs.Ytjpkeibhimimpaa
/- THE CELL 'sum', in the pinned program and in every row, IS THE sha256 OF THE DUMP (.gsa) THAT YtjpkeibhimimpaaProg.lean LOADS. Nothing in Lean hashes anything: it is a label: what it is worth is what the hold of that sum in a sandbox is worth. -/
noncomputable def Try.pinned : Pinned := { name := "ytjpkeibhimimpaa", sum := "15b6d359f6be38e50a1769c57dba66cad3eb96f468154a8bfca081679fba6432", checked := Try.checked }
namespace Rows
def none {H : Type} : Left H := { results := [], args := [] }

/-- 'sandglasslaw37.SnapLast': WHATEVER THE INPUT: true; the input reads as it did. -/
def snapLastSpec : ChangeSpec := { name := "snapLast", fn := fun _ => fun
  | [d] => { results := [.lit (.bool true)], args := [d] }
  | _ => none }
def snapLastRow : OpenClaim := { program := "ytjpkeibhimimpaa", sum := "15b6d359f6be38e50a1769c57dba66cad3eb96f468154a8bfca081679fba6432", func := "sandglass/sandglasslaw37.SnapLast", spec := "snapLast", apart := false }
def SnapLastSaid : Prop := snapLastRow.holds Try.pinned (OpenSpec.ofChange snapLastSpec)

/-- ITS FALSE NEIGHBOUR: 'it returns false'. Refute it at one input. -/
def snapLastWrong : ChangeSpec := { name := "snapLast", fn := fun _ => fun
  | [d] => { results := [.lit (.bool false)], args := [d] }
  | _ => none }
def SnapLastWrongFalsely : Prop := snapLastRow.holds Try.pinned (OpenSpec.ofChange snapLastWrong)

/-- 'sandglasslaw37.SnapPacks': WHATEVER THE INPUT: true; the input reads as it did. -/
def snapPacksSpec : ChangeSpec := { name := "snapPacks", fn := fun _ => fun
  | [d1, d2] => { results := [.lit (.bool true)], args := [d1, d2] }
  | _ => none }
def snapPacksRow : OpenClaim := { program := "ytjpkeibhimimpaa", sum := "15b6d359f6be38e50a1769c57dba66cad3eb96f468154a8bfca081679fba6432", func := "sandglass/sandglasslaw37.SnapPacks", spec := "snapPacks", apart := false }
def SnapPacksSaid : Prop := snapPacksRow.holds Try.pinned (OpenSpec.ofChange snapPacksSpec)

/-- ITS FALSE NEIGHBOUR: 'it returns false'. Refute it at one input. -/
def snapPacksWrong : ChangeSpec := { name := "snapPacks", fn := fun _ => fun
  | [d1, d2] => { results := [.lit (.bool false)], args := [d1, d2] }
  | _ => none }
def SnapPacksWrongFalsely : Prop := snapPacksRow.holds Try.pinned (OpenSpec.ofChange snapPacksWrong)

/-- 'sandglasslaw37.SnapPlays': WHATEVER THE INPUT: true; the input reads as it did. -/
def snapPlaysSpec : ChangeSpec := { name := "snapPlays", fn := fun _ => fun
  | [d] => { results := [.lit (.bool true)], args := [d] }
  | _ => none }
def snapPlaysRow : OpenClaim := { program := "ytjpkeibhimimpaa", sum := "15b6d359f6be38e50a1769c57dba66cad3eb96f468154a8bfca081679fba6432", func := "sandglass/sandglasslaw37.SnapPlays", spec := "snapPlays", apart := false }
def SnapPlaysSaid : Prop := snapPlaysRow.holds Try.pinned (OpenSpec.ofChange snapPlaysSpec)

/-- ITS FALSE NEIGHBOUR: 'it returns false'. Refute it at one input. -/
def snapPlaysWrong : ChangeSpec := { name := "snapPlays", fn := fun _ => fun
  | [d] => { results := [.lit (.bool false)], args := [d] }
  | _ => none }
def SnapPlaysWrongFalsely : Prop := snapPlaysRow.holds Try.pinned (OpenSpec.ofChange snapPlaysWrong)

/-- 'sandglasslaw37.SnapTurned': WHATEVER THE INPUT: true; the input reads as it did. -/
def snapTurnedSpec : ChangeSpec := { name := "snapTurned", fn := fun _ => fun
  | [d1, d2, d3] => { results := [.lit (.bool true)], args := [d1, d2, d3] }
  | _ => none }
def snapTurnedRow : OpenClaim := { program := "ytjpkeibhimimpaa", sum := "15b6d359f6be38e50a1769c57dba66cad3eb96f468154a8bfca081679fba6432", func := "sandglass/sandglasslaw37.SnapTurned", spec := "snapTurned", apart := false }
def SnapTurnedSaid : Prop := snapTurnedRow.holds Try.pinned (OpenSpec.ofChange snapTurnedSpec)

/-- ITS FALSE NEIGHBOUR: 'it returns false'. Refute it at one input. -/
def snapTurnedWrong : ChangeSpec := { name := "snapTurned", fn := fun _ => fun
  | [d1, d2, d3] => { results := [.lit (.bool false)], args := [d1, d2, d3] }
  | _ => none }
def SnapTurnedWrongFalsely : Prop := snapTurnedRow.holds Try.pinned (OpenSpec.ofChange snapTurnedWrong)

/-- 'sandglasslaw37.SnapNone': WHATEVER THE INPUT: true; the input reads as it did. -/
def snapNoneSpec : ChangeSpec := { name := "snapNone", fn := fun _ => fun
  | [d] => { results := [.lit (.bool true)], args := [d] }
  | _ => none }
def snapNoneRow : OpenClaim := { program := "ytjpkeibhimimpaa", sum := "15b6d359f6be38e50a1769c57dba66cad3eb96f468154a8bfca081679fba6432", func := "sandglass/sandglasslaw37.SnapNone", spec := "snapNone", apart := false }
def SnapNoneSaid : Prop := snapNoneRow.holds Try.pinned (OpenSpec.ofChange snapNoneSpec)

/-- ITS FALSE NEIGHBOUR: 'it returns false'. Refute it at one input. -/
def snapNoneWrong : ChangeSpec := { name := "snapNone", fn := fun _ => fun
  | [d] => { results := [.lit (.bool false)], args := [d] }
  | _ => none }
def SnapNoneWrongFalsely : Prop := snapNoneRow.holds Try.pinned (OpenSpec.ofChange snapNoneWrong)

/- THE SECOND FORM. 'bulk': how many values and letters a reading holds, each counted each time it is reached (what is shared counts as often as it is met; a slice's spare places count too). A statement '..UptoSaid' is the law's where the arguments, and the package variables that the reading takes, are together of bulk at most 1048576: NARROWER than '..Said'. Prove '..Said' where nothing that the law and all that it calls make is longer than what came in: it says more and counts as full. Else prove '..UptoSaid'. A law counts once. -/
mutual
def uptoBulk {H : Type} : DataW H → Nat
  | .lit (.string bytes) => bytes.length + 1
  | .lit _ => 1
  | .nil => 1
  | .ptr d => uptoBulk d + 1
  | .slice elems spare => uptoBulkAll elems + uptoBulkAll spare + 1
  | .agg parts => uptoBulkAll parts + 1
  | .iface _ d => uptoBulk d + 1
  | .map entries => uptoBulkEntries entries + 1
  | .held _ => 1
def uptoBulkAll {H : Type} : List (DataW H) → Nat
  | [] => 0
  | d :: r => uptoBulk d + uptoBulkAll r
def uptoBulkEntries {H : Type} : List (Lit × DataW H) → Nat
  | [] => 0
  | x :: r => uptoBulkEntry x + uptoBulkEntries r
def uptoBulkEntry {H : Type} : Lit × DataW H → Nat
  | (.string bytes, d) => bytes.length + uptoBulk d + 1
  | (_, d) => uptoBulk d + 1
 end
def uptoSmall : (H : Type) → List (DataW H) → Bool := fun _ ds => decide (uptoBulkAll ds ≤ 1048576)
def OpenSpec.upto (s : _root_.Go.ChangeSpec) : _root_.Go.OpenSpec := { _root_.Go.OpenSpec.ofChange s with cond := some uptoSmall }

/-- 'sandglasslaw37.SnapLast', WHERE WHAT IT READS IS OF BULK AT MOST 1048576: true; the input reads as it did. -/
def snapLastUptoRow : OpenClaim := { program := "ytjpkeibhimimpaa", sum := "15b6d359f6be38e50a1769c57dba66cad3eb96f468154a8bfca081679fba6432", func := "sandglass/sandglasslaw37.SnapLast", spec := "snapLast", apart := false, narrowed := true }
def SnapLastUptoSaid : Prop := snapLastUptoRow.holds Try.pinned (OpenSpec.upto snapLastSpec)

/-- 'sandglasslaw37.SnapPacks', WHERE WHAT IT READS IS OF BULK AT MOST 1048576: true; the input reads as it did. -/
def snapPacksUptoRow : OpenClaim := { program := "ytjpkeibhimimpaa", sum := "15b6d359f6be38e50a1769c57dba66cad3eb96f468154a8bfca081679fba6432", func := "sandglass/sandglasslaw37.SnapPacks", spec := "snapPacks", apart := false, narrowed := true }
def SnapPacksUptoSaid : Prop := snapPacksUptoRow.holds Try.pinned (OpenSpec.upto snapPacksSpec)

/-- 'sandglasslaw37.SnapPlays', WHERE WHAT IT READS IS OF BULK AT MOST 1048576: true; the input reads as it did. -/
def snapPlaysUptoRow : OpenClaim := { program := "ytjpkeibhimimpaa", sum := "15b6d359f6be38e50a1769c57dba66cad3eb96f468154a8bfca081679fba6432", func := "sandglass/sandglasslaw37.SnapPlays", spec := "snapPlays", apart := false, narrowed := true }
def SnapPlaysUptoSaid : Prop := snapPlaysUptoRow.holds Try.pinned (OpenSpec.upto snapPlaysSpec)

/-- 'sandglasslaw37.SnapTurned', WHERE WHAT IT READS IS OF BULK AT MOST 1048576: true; the input reads as it did. -/
def snapTurnedUptoRow : OpenClaim := { program := "ytjpkeibhimimpaa", sum := "15b6d359f6be38e50a1769c57dba66cad3eb96f468154a8bfca081679fba6432", func := "sandglass/sandglasslaw37.SnapTurned", spec := "snapTurned", apart := false, narrowed := true }
def SnapTurnedUptoSaid : Prop := snapTurnedUptoRow.holds Try.pinned (OpenSpec.upto snapTurnedSpec)

/-- 'sandglasslaw37.SnapNone', WHERE WHAT IT READS IS OF BULK AT MOST 1048576: true; the input reads as it did. -/
def snapNoneUptoRow : OpenClaim := { program := "ytjpkeibhimimpaa", sum := "15b6d359f6be38e50a1769c57dba66cad3eb96f468154a8bfca081679fba6432", func := "sandglass/sandglasslaw37.SnapNone", spec := "snapNone", apart := false, narrowed := true }
def SnapNoneUptoSaid : Prop := snapNoneUptoRow.holds Try.pinned (OpenSpec.upto snapNoneSpec)

end Rows
end Go.Proofs.Ytjpkeibhimimpaa
