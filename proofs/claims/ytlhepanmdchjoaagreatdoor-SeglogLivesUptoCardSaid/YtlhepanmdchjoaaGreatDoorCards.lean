/-
  DERIVED. GIVEN WITH THE SEED: THE CARDS: each row of YtlhepanmdchjoaaGreatDoorRows.lean that lists a variable, with what it lists TIED to the program's text (the seventh form; the later family's looks); each row that meets fmt, with fmt's text TOLD by the authors' own Lean function (tested against real Go, not proved from fmt's source: count such statements apart). THE CARD IS WHAT COUNTS. Prove the row's statement (the work); the ties are given (YtlhepanmdchjoaaGreatDoorTie.lean); close each card by the builder's one call (the guide's Derived/Test/ToyasCard.lean, 'card_holds'). Laid BY PROGRAM, IN A SANDBOX (cutbox-door.mjs). By AI agents, Wed Nov 11 2026. No macro, syntax, notation, axiom, sorry.
-/
import Derived.Test.YtlhepanmdchjoaaGreatDoorRows
import GoSem.ClaimSeven
namespace Go.Proofs.YtlhepanmdchjoaaGreatDoor
namespace Rows

/-- THE TIED CARD OF 'trolleylaw07.SeglogFull'. -/
def seglogFullCard : Claim7 := { stood := { row := seglogFullRow, standIns := [], harness := (true, "9f7a60ec0d7104affdb35ea149591cd291b3cfb1b7bd9832ed1ed3c4d2684fef"), looks := true }, kinds := [], alts := [], laidByText := true, laidKinds := [.data, .data, .data, .sentinel, .sentinel], laidTests := true, laidLooks := .later }
def SeglogFullCardSaid : Prop := Claim7.holds Tryz.pinned (.plain (OpenSpec.ofChange seglogFullSpec)) seglogFullCard

/-- THE TIED CARD OF 'trolleylaw07.SeglogNobody'. -/
def seglogNobodyCard : Claim7 := { stood := { row := seglogNobodyRow, standIns := [], harness := (true, "9f7a60ec0d7104affdb35ea149591cd291b3cfb1b7bd9832ed1ed3c4d2684fef"), looks := true }, kinds := [], alts := [], laidByText := true, laidKinds := [.data, .data, .data, .sentinel, .sentinel], laidTests := true, laidLooks := .later }
def SeglogNobodyCardSaid : Prop := Claim7.holds Tryz.pinned (.plain (OpenSpec.ofChange seglogNobodySpec)) seglogNobodyCard

/-- THE TIED CARD OF 'trolleylaw07.SeglogKeeps'. -/
def seglogKeepsCard : Claim7 := { stood := { row := seglogKeepsRow, standIns := [], harness := (true, "9f7a60ec0d7104affdb35ea149591cd291b3cfb1b7bd9832ed1ed3c4d2684fef"), looks := true }, kinds := [], alts := [], laidByText := true, laidKinds := [.data, .data, .data, .sentinel, .sentinel], laidTests := true, laidLooks := .later }
def SeglogKeepsCardSaid : Prop := Claim7.holds Tryz.pinned (.plain (OpenSpec.ofChange seglogKeepsSpec)) seglogKeepsCard

/-- THE TIED CARD OF 'trolleylaw07.SeglogReplaced'. -/
def seglogReplacedCard : Claim7 := { stood := { row := seglogReplacedRow, standIns := [], harness := (true, "9f7a60ec0d7104affdb35ea149591cd291b3cfb1b7bd9832ed1ed3c4d2684fef"), looks := true }, kinds := [], alts := [], laidByText := true, laidKinds := [.data, .data, .data, .sentinel, .sentinel], laidTests := true, laidLooks := .later }
def SeglogReplacedCardSaid : Prop := Claim7.holds Tryz.pinned (.plain (OpenSpec.ofChange seglogReplacedSpec)) seglogReplacedCard

/-- THE TIED CARD OF 'trolleylaw07.SeglogLives'. -/
def seglogLivesCard : Claim7 := { stood := { row := seglogLivesRow, standIns := [], harness := (true, "9f7a60ec0d7104affdb35ea149591cd291b3cfb1b7bd9832ed1ed3c4d2684fef"), looks := true }, kinds := [], alts := [], laidByText := true, laidKinds := [.data, .data, .data, .sentinel, .sentinel], laidTests := true, laidLooks := .later }
def SeglogLivesCardSaid : Prop := Claim7.holds Tryz.pinned (.plain (OpenSpec.ofChange seglogLivesSpec)) seglogLivesCard

/-- THE SECOND FORM's CARD OF 'trolleylaw07.SeglogFull'. -/
def seglogFullUptoCard : Claim7 := { stood := { row := seglogFullUptoRow, standIns := [], harness := (true, "9f7a60ec0d7104affdb35ea149591cd291b3cfb1b7bd9832ed1ed3c4d2684fef"), looks := true }, kinds := [], alts := [], laidByText := true, laidKinds := [.data, .data, .data, .sentinel, .sentinel], laidTests := true, laidLooks := .later }
def SeglogFullUptoCardSaid : Prop := Claim7.holds Tryz.pinned (.plain (OpenSpec.upto seglogFullSpec)) seglogFullUptoCard

/-- THE SECOND FORM's CARD OF 'trolleylaw07.SeglogNobody'. -/
def seglogNobodyUptoCard : Claim7 := { stood := { row := seglogNobodyUptoRow, standIns := [], harness := (true, "9f7a60ec0d7104affdb35ea149591cd291b3cfb1b7bd9832ed1ed3c4d2684fef"), looks := true }, kinds := [], alts := [], laidByText := true, laidKinds := [.data, .data, .data, .sentinel, .sentinel], laidTests := true, laidLooks := .later }
def SeglogNobodyUptoCardSaid : Prop := Claim7.holds Tryz.pinned (.plain (OpenSpec.upto seglogNobodySpec)) seglogNobodyUptoCard

/-- THE SECOND FORM's CARD OF 'trolleylaw07.SeglogKeeps'. -/
def seglogKeepsUptoCard : Claim7 := { stood := { row := seglogKeepsUptoRow, standIns := [], harness := (true, "9f7a60ec0d7104affdb35ea149591cd291b3cfb1b7bd9832ed1ed3c4d2684fef"), looks := true }, kinds := [], alts := [], laidByText := true, laidKinds := [.data, .data, .data, .sentinel, .sentinel], laidTests := true, laidLooks := .later }
def SeglogKeepsUptoCardSaid : Prop := Claim7.holds Tryz.pinned (.plain (OpenSpec.upto seglogKeepsSpec)) seglogKeepsUptoCard

/-- THE SECOND FORM's CARD OF 'trolleylaw07.SeglogReplaced'. -/
def seglogReplacedUptoCard : Claim7 := { stood := { row := seglogReplacedUptoRow, standIns := [], harness := (true, "9f7a60ec0d7104affdb35ea149591cd291b3cfb1b7bd9832ed1ed3c4d2684fef"), looks := true }, kinds := [], alts := [], laidByText := true, laidKinds := [.data, .data, .data, .sentinel, .sentinel], laidTests := true, laidLooks := .later }
def SeglogReplacedUptoCardSaid : Prop := Claim7.holds Tryz.pinned (.plain (OpenSpec.upto seglogReplacedSpec)) seglogReplacedUptoCard

/-- THE SECOND FORM's CARD OF 'trolleylaw07.SeglogLives'. -/
def seglogLivesUptoCard : Claim7 := { stood := { row := seglogLivesUptoRow, standIns := [], harness := (true, "9f7a60ec0d7104affdb35ea149591cd291b3cfb1b7bd9832ed1ed3c4d2684fef"), looks := true }, kinds := [], alts := [], laidByText := true, laidKinds := [.data, .data, .data, .sentinel, .sentinel], laidTests := true, laidLooks := .later }
def SeglogLivesUptoCardSaid : Prop := Claim7.holds Tryz.pinned (.plain (OpenSpec.upto seglogLivesSpec)) seglogLivesUptoCard
end Rows
end Go.Proofs.YtlhepanmdchjoaaGreatDoor
