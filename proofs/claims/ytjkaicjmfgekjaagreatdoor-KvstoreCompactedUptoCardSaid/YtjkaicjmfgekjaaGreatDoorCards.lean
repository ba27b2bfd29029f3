/-
  DERIVED. GIVEN WITH THE SEED: THE CARDS: each row of YtjkaicjmfgekjaaGreatDoorRows.lean that lists a variable, with what it lists TIED to the program's text (the seventh form; the later family's looks); each row that meets fmt, with fmt's text TOLD by the authors' own Lean function (tested against real Go, not proved from fmt's source: count such statements apart). THE CARD IS WHAT COUNTS. Prove the row's statement (the work); the ties are given (YtjkaicjmfgekjaaGreatDoorTie.lean); close each card by the builder's one call (the guide's Derived/Test/ToyasCard.lean, 'card_holds'). Laid BY PROGRAM, IN A SANDBOX (cutbox-door.mjs). By AI agents, Wed Nov 11 2026. No macro, syntax, notation, axiom, sorry.
-/
import Derived.Test.YtjkaicjmfgekjaaGreatDoorRows
import GoSem.ClaimSeven
namespace Go.Proofs.YtjkaicjmfgekjaaGreatDoor
namespace Rows

/-- THE TIED CARD OF 'trolleylaw09.KvstoreJoins'. -/
def kvstoreJoinsCard : Claim7 := { stood := { row := kvstoreJoinsRow, standIns := [], harness := (true, "bde056fb69dcd494d9073ae7da3f815a65e333eae84dfd5d64d2ac232a9a4f53"), looks := true }, kinds := [], alts := [], laidByText := true, laidKinds := [.data, .data, .data, .sentinel, .sentinel], laidTests := true, laidLooks := .later }
def KvstoreJoinsCardSaid : Prop := Claim7.holds Tryz.pinned (.plain (OpenSpec.ofChange kvstoreJoinsSpec)) kvstoreJoinsCard

/-- THE TIED CARD OF 'trolleylaw09.KvstoreKeeps'. -/
def kvstoreKeepsCard : Claim7 := { stood := { row := kvstoreKeepsRow, standIns := [], harness := (true, "bde056fb69dcd494d9073ae7da3f815a65e333eae84dfd5d64d2ac232a9a4f53"), looks := true }, kinds := [], alts := [], laidByText := true, laidKinds := [.data, .data, .data, .sentinel, .sentinel], laidTests := true, laidLooks := .later }
def KvstoreKeepsCardSaid : Prop := Claim7.holds Tryz.pinned (.plain (OpenSpec.ofChange kvstoreKeepsSpec)) kvstoreKeepsCard

/-- THE TIED CARD OF 'trolleylaw09.KvstoreCompacted'. -/
def kvstoreCompactedCard : Claim7 := { stood := { row := kvstoreCompactedRow, standIns := [], harness := (true, "bde056fb69dcd494d9073ae7da3f815a65e333eae84dfd5d64d2ac232a9a4f53"), looks := true }, kinds := [], alts := [], laidByText := true, laidKinds := [.data, .data, .data, .sentinel, .sentinel], laidTests := true, laidLooks := .later }
def KvstoreCompactedCardSaid : Prop := Claim7.holds Tryz.pinned (.plain (OpenSpec.ofChange kvstoreCompactedSpec)) kvstoreCompactedCard

/-- THE SECOND FORM's CARD OF 'trolleylaw09.KvstoreJoins'. -/
def kvstoreJoinsUptoCard : Claim7 := { stood := { row := kvstoreJoinsUptoRow, standIns := [], harness := (true, "bde056fb69dcd494d9073ae7da3f815a65e333eae84dfd5d64d2ac232a9a4f53"), looks := true }, kinds := [], alts := [], laidByText := true, laidKinds := [.data, .data, .data, .sentinel, .sentinel], laidTests := true, laidLooks := .later }
def KvstoreJoinsUptoCardSaid : Prop := Claim7.holds Tryz.pinned (.plain (OpenSpec.upto kvstoreJoinsSpec)) kvstoreJoinsUptoCard

/-- THE SECOND FORM's CARD OF 'trolleylaw09.KvstoreKeeps'. -/
def kvstoreKeepsUptoCard : Claim7 := { stood := { row := kvstoreKeepsUptoRow, standIns := [], harness := (true, "bde056fb69dcd494d9073ae7da3f815a65e333eae84dfd5d64d2ac232a9a4f53"), looks := true }, kinds := [], alts := [], laidByText := true, laidKinds := [.data, .data, .data, .sentinel, .sentinel], laidTests := true, laidLooks := .later }
def KvstoreKeepsUptoCardSaid : Prop := Claim7.holds Tryz.pinned (.plain (OpenSpec.upto kvstoreKeepsSpec)) kvstoreKeepsUptoCard

/-- THE SECOND FORM's CARD OF 'trolleylaw09.KvstoreCompacted'. -/
def kvstoreCompactedUptoCard : Claim7 := { stood := { row := kvstoreCompactedUptoRow, standIns := [], harness := (true, "bde056fb69dcd494d9073ae7da3f815a65e333eae84dfd5d64d2ac232a9a4f53"), looks := true }, kinds := [], alts := [], laidByText := true, laidKinds := [.data, .data, .data, .sentinel, .sentinel], laidTests := true, laidLooks := .later }
def KvstoreCompactedUptoCardSaid : Prop := Claim7.holds Tryz.pinned (.plain (OpenSpec.upto kvstoreCompactedSpec)) kvstoreCompactedUptoCard
end Rows
end Go.Proofs.YtjkaicjmfgekjaaGreatDoor
