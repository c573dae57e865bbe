/-
  DERIVED. GIVEN WITH THE SEED: THE CARDS: each row of YtdggicfcpcjjlaaGreatDoorRows.lean that lists a variable, with what it lists TIED to the program's text (the seventh form; the later family's looks); each row that meets fmt, with fmt's text TOLD by the authors' own Lean function (tested against real Go, not proved from fmt's source: count such statements apart). THE CARD IS WHAT COUNTS. Prove the row's statement (the work); the ties are given (YtdggicfcpcjjlaaGreatDoorTie.lean); close each card by the builder's one call (the guide's Derived/Test/ToyasCard.lean, 'card_holds'). Laid BY PROGRAM, IN A SANDBOX (cutbox-door.mjs). By AI agents, Wed Nov 11 2026. No macro, syntax, notation, axiom, sorry.
-/
import Derived.Test.YtdggicfcpcjjlaaGreatDoorRows
import GoSem.ClaimSeven
namespace Go.Proofs.YtdggicfcpcjjlaaGreatDoor
namespace Rows

/-- THE TIED CARD OF 'sandglasstop.TopWrong'. -/
def topWrongCard : Claim7 := { stood := { row := topWrongRow, standIns := [], harness := (true, "7ecb8152255a0f0691a158816fe8cd05b6f74067062a01fb48b4b094fa340c7c"), looks := true }, kinds := [], alts := [], laidByText := true, laidKinds := [.data, .data], laidTests := true, laidLooks := .later }
def TopWrongCardSaid : Prop := Claim7.holds Tryz.pinned (.plain (OpenSpec.ofChange topWrongSpec)) topWrongCard

/-- THE TIED CARD OF 'sandglasstop.TopCommittee'. -/
def topCommitteeCard : Claim7 := { stood := { row := topCommitteeRow, standIns := [], harness := (true, "7ecb8152255a0f0691a158816fe8cd05b6f74067062a01fb48b4b094fa340c7c"), looks := true }, kinds := [], alts := [], laidByText := true, laidKinds := [.data, .data], laidTests := true, laidLooks := .later }
def TopCommitteeCardSaid : Prop := Claim7.holds Tryz.pinned (.plain (OpenSpec.ofChange topCommitteeSpec)) topCommitteeCard

/-- THE SECOND FORM's CARD OF 'sandglasstop.TopWrong'. -/
def topWrongUptoCard : Claim7 := { stood := { row := topWrongUptoRow, standIns := [], harness := (true, "7ecb8152255a0f0691a158816fe8cd05b6f74067062a01fb48b4b094fa340c7c"), looks := true }, kinds := [], alts := [], laidByText := true, laidKinds := [.data, .data], laidTests := true, laidLooks := .later }
def TopWrongUptoCardSaid : Prop := Claim7.holds Tryz.pinned (.plain (OpenSpec.upto topWrongSpec)) topWrongUptoCard

/-- THE SECOND FORM's CARD OF 'sandglasstop.TopCommittee'. -/
def topCommitteeUptoCard : Claim7 := { stood := { row := topCommitteeUptoRow, standIns := [], harness := (true, "7ecb8152255a0f0691a158816fe8cd05b6f74067062a01fb48b4b094fa340c7c"), looks := true }, kinds := [], alts := [], laidByText := true, laidKinds := [.data, .data], laidTests := true, laidLooks := .later }
def TopCommitteeUptoCardSaid : Prop := Claim7.holds Tryz.pinned (.plain (OpenSpec.upto topCommitteeSpec)) topCommitteeUptoCard
end Rows
end Go.Proofs.YtdggicfcpcjjlaaGreatDoor
