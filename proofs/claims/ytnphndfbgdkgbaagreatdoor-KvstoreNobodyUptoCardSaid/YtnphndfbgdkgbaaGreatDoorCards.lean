/-
  DERIVED. GIVEN WITH THE SEED: THE CARDS: each row of YtnphndfbgdkgbaaGreatDoorRows.lean that lists a variable, with what it lists TIED to the program's text (the seventh form; the later family's looks); each row that meets fmt, with fmt's text TOLD by the authors' own Lean function (tested against real Go, not proved from fmt's source: count such statements apart). THE CARD IS WHAT COUNTS. Prove the row's statement (the work); the ties are given (YtnphndfbgdkgbaaGreatDoorTie.lean); close each card by the builder's one call (the guide's Derived/Test/ToyasCard.lean, 'card_holds'). Laid BY PROGRAM, IN A SANDBOX (cutbox-door.mjs). By AI agents, Wed Nov 11 2026. No macro, syntax, notation, axiom, sorry.
-/
import Derived.Test.YtnphndfbgdkgbaaGreatDoorRows
import GoSem.ClaimSeven
namespace Go.Proofs.YtnphndfbgdkgbaaGreatDoor
namespace Rows

/-- THE TIED CARD OF 'trolleylaw09.KvstoreNobody'. -/
def kvstoreNobodyCard : Claim7 := { stood := { row := kvstoreNobodyRow, standIns := [], harness := (true, "c852f57af8fb561707ac128a7d8687a4aef97ab7f67b6576ee580de348210e45"), looks := true }, kinds := [], alts := [], laidByText := true, laidKinds := [.data, .data, .data, .sentinel, .sentinel], laidTests := true, laidLooks := .later }
def KvstoreNobodyCardSaid : Prop := Claim7.holds Tryz.pinned (.plain (OpenSpec.ofChange kvstoreNobodySpec)) kvstoreNobodyCard

/-- THE SECOND FORM's CARD OF 'trolleylaw09.KvstoreNobody'. -/
def kvstoreNobodyUptoCard : Claim7 := { stood := { row := kvstoreNobodyUptoRow, standIns := [], harness := (true, "c852f57af8fb561707ac128a7d8687a4aef97ab7f67b6576ee580de348210e45"), looks := true }, kinds := [], alts := [], laidByText := true, laidKinds := [.data, .data, .data, .sentinel, .sentinel], laidTests := true, laidLooks := .later }
def KvstoreNobodyUptoCardSaid : Prop := Claim7.holds Tryz.pinned (.plain (OpenSpec.upto kvstoreNobodySpec)) kvstoreNobodyUptoCard
end Rows
end Go.Proofs.YtnphndfbgdkgbaaGreatDoor
