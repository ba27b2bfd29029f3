/-
  No cell of these rows narrows 'for every input' (looked for: loops, veiled, ifaces, maps, wideKeys, modest, calm, conditions, laid).
  DERIVED. THE GIVEN ROWS OF THIS SEAT. 6 by the template 'for every input the law returns true; each argument reads behind the call as it read before'; 0 by the template 'total and deterministic' (their statements: YthhhkjmlnjbnjaaTotals.lean).
  GIVEN WITH THE SEED: the statements are not yours to turn. If you find one false, say at which input.
  Laid BY PROGRAM, IN A SANDBOX (cutbox-rows.mjs): the forced cells as the released guide's own fill.sh prints them over the translation 28452c79f4998db0… (all of the seat's roots in one cut). By AI agents, Wed Nov 11 2026. No macro, syntax, notation, axiom, sorry.
-/
import Derived.Test.YthhhkjmlnjbnjaaChecked
import GoSem.Claim
import GoSem.ClaimJoined
import GoSem.ClaimMapViews
import Derived.JoinedTies
import Derived.KernelRfl
namespace Go.Proofs.Ythhhkjmlnjbnjaa
/- THE CELL 'sum', in the pinned program and in every row, IS THE sha256 OF THE DUMP (.gsa) THAT YthhhkjmlnjbnjaaProg.lean LOADS. Nothing in Lean hashes anything: it is a label: what it is worth is what the hold of that sum in a sandbox is worth. -/
noncomputable def Try.pinned : Pinned := { name := "ythhhkjmlnjbnjaa", sum := "28452c79f4998db01e3a23cbca9b8bfe0ccbebcf9b1eccfdd38d957a54c92a2d", checked := Try.checked }
namespace Rows
def none {H : Type} : Left H := { results := [], args := [] }

/-- 'trolleylaw18.HandoffAgain': WHATEVER THE INPUT: true; the input reads as it did. -/
def handoffAgainSpec : ChangeSpec := { name := "handoffAgain", fn := fun _ => fun
  | [d1, d2] => { results := [.lit (.bool true)], args := [d1, d2] }
  | _ => none }
def handoffAgainRow : OpenClaim := { program := "ythhhkjmlnjbnjaa", sum := "28452c79f4998db01e3a23cbca9b8bfe0ccbebcf9b1eccfdd38d957a54c92a2d", func := "trolley/trolleylaw18.HandoffAgain", spec := "handoffAgain", unfollowed := true, recurses := true, apart := false }
def HandoffAgainSaid : Prop := handoffAgainRow.holds Try.pinned (OpenSpec.ofChange handoffAgainSpec)

/-- ITS FALSE NEIGHBOUR: 'it returns false'. Refute it at one input. -/
def handoffAgainWrong : ChangeSpec := { name := "handoffAgain", fn := fun _ => fun
  | [d1, d2] => { results := [.lit (.bool false)], args := [d1, d2] }
  | _ => none }
def HandoffAgainWrongFalsely : Prop := handoffAgainRow.holds Try.pinned (OpenSpec.ofChange handoffAgainWrong)

/-- 'trolleylaw18.HandoffDone': WHATEVER THE INPUT: true; the input reads as it did. -/
def handoffDoneSpec : ChangeSpec := { name := "handoffDone", fn := fun _ => fun
  | [d1, d2, d3] => { results := [.lit (.bool true)], args := [d1, d2, d3] }
  | _ => none }
def handoffDoneRow : OpenClaim := { program := "ythhhkjmlnjbnjaa", sum := "28452c79f4998db01e3a23cbca9b8bfe0ccbebcf9b1eccfdd38d957a54c92a2d", func := "trolley/trolleylaw18.HandoffDone", spec := "handoffDone", unfollowed := true, recurses := true, apart := false }
def HandoffDoneSaid : Prop := handoffDoneRow.holds Try.pinned (OpenSpec.ofChange handoffDoneSpec)

/-- ITS FALSE NEIGHBOUR: 'it returns false'. Refute it at one input. -/
def handoffDoneWrong : ChangeSpec := { name := "handoffDone", fn := fun _ => fun
  | [d1, d2, d3] => { results := [.lit (.bool false)], args := [d1, d2, d3] }
  | _ => none }
def HandoffDoneWrongFalsely : Prop := handoffDoneRow.holds Try.pinned (OpenSpec.ofChange handoffDoneWrong)

/-- 'trolleylaw18.HandoffNone': WHATEVER THE INPUT: true; the input reads as it did. -/
def handoffNoneSpec : ChangeSpec := { name := "handoffNone", fn := fun _ => fun
  | [d] => { results := [.lit (.bool true)], args := [d] }
  | _ => none }
def handoffNoneRow : OpenClaim := { program := "ythhhkjmlnjbnjaa", sum := "28452c79f4998db01e3a23cbca9b8bfe0ccbebcf9b1eccfdd38d957a54c92a2d", func := "trolley/trolleylaw18.HandoffNone", spec := "handoffNone", unfollowed := true, recurses := true, apart := false }
def HandoffNoneSaid : Prop := handoffNoneRow.holds Try.pinned (OpenSpec.ofChange handoffNoneSpec)

/-- ITS FALSE NEIGHBOUR: 'it returns false'. Refute it at one input. -/
def handoffNoneWrong : ChangeSpec := { name := "handoffNone", fn := fun _ => fun
  | [d] => { results := [.lit (.bool false)], args := [d] }
  | _ => none }
def HandoffNoneWrongFalsely : Prop := handoffNoneRow.holds Try.pinned (OpenSpec.ofChange handoffNoneWrong)

/-- 'trolleylaw18.HandoffApart': WHATEVER THE INPUT: true; the input reads as it did. -/
def handoffApartSpec : ChangeSpec := { name := "handoffApart", fn := fun _ => fun
  | [d1, d2, d3] => { results := [.lit (.bool true)], args := [d1, d2, d3] }
  | _ => none }
def handoffApartRow : OpenClaim := { program := "ythhhkjmlnjbnjaa", sum := "28452c79f4998db01e3a23cbca9b8bfe0ccbebcf9b1eccfdd38d957a54c92a2d", func := "trolley/trolleylaw18.HandoffApart", spec := "handoffApart", unfollowed := true, recurses := true, apart := false }
def HandoffApartSaid : Prop := handoffApartRow.holds Try.pinned (OpenSpec.ofChange handoffApartSpec)

/-- ITS FALSE NEIGHBOUR: 'it returns false'. Refute it at one input. -/
def handoffApartWrong : ChangeSpec := { name := "handoffApart", fn := fun _ => fun
  | [d1, d2, d3] => { results := [.lit (.bool false)], args := [d1, d2, d3] }
  | _ => none }
def HandoffApartWrongFalsely : Prop := handoffApartRow.holds Try.pinned (OpenSpec.ofChange handoffApartWrong)

/-- 'trolleylaw18.HandoffAll': WHATEVER THE INPUT: true; the input reads as it did. -/
def handoffAllSpec : ChangeSpec := { name := "handoffAll", fn := fun _ => fun
  | [d1, d2, d3] => { results := [.lit (.bool true)], args := [d1, d2, d3] }
  | _ => none }
def handoffAllRow : OpenClaim := { program := "ythhhkjmlnjbnjaa", sum := "28452c79f4998db01e3a23cbca9b8bfe0ccbebcf9b1eccfdd38d957a54c92a2d", func := "trolley/trolleylaw18.HandoffAll", spec := "handoffAll", unfollowed := true, recurses := true, apart := false }
def HandoffAllSaid : Prop := handoffAllRow.holds Try.pinned (OpenSpec.ofChange handoffAllSpec)

/-- ITS FALSE NEIGHBOUR: 'it returns false'. Refute it at one input. -/
def handoffAllWrong : ChangeSpec := { name := "handoffAll", fn := fun _ => fun
  | [d1, d2, d3] => { results := [.lit (.bool false)], args := [d1, d2, d3] }
  | _ => none }
def HandoffAllWrongFalsely : Prop := handoffAllRow.holds Try.pinned (OpenSpec.ofChange handoffAllWrong)

/-- 'trolleylaw18.HandoffLives': WHATEVER THE INPUT: true; the input reads as it did. -/
def handoffLivesSpec : ChangeSpec := { name := "handoffLives", fn := fun _ => fun
  | [d1, d2] => { results := [.lit (.bool true)], args := [d1, d2] }
  | _ => none }
def handoffLivesRow : OpenClaim := { program := "ythhhkjmlnjbnjaa", sum := "28452c79f4998db01e3a23cbca9b8bfe0ccbebcf9b1eccfdd38d957a54c92a2d", func := "trolley/trolleylaw18.HandoffLives", spec := "handoffLives", unfollowed := true, recurses := true, apart := false }
def HandoffLivesSaid : Prop := handoffLivesRow.holds Try.pinned (OpenSpec.ofChange handoffLivesSpec)

/-- ITS FALSE NEIGHBOUR: 'it returns false'. Refute it at one input. -/
def handoffLivesWrong : ChangeSpec := { name := "handoffLives", fn := fun _ => fun
  | [d1, d2] => { results := [.lit (.bool false)], args := [d1, d2] }
  | _ => none }
def HandoffLivesWrongFalsely : Prop := handoffLivesRow.holds Try.pinned (OpenSpec.ofChange handoffLivesWrong)

/- THE SECOND FORM. 'bulk': how many values and letters a reading holds, each counted each time it is reached (what is shared counts as often as it is met; a slice's spare places count too). A statement '..UptoSaid' is the law's where the arguments, and the package variables that the reading takes, are together of bulk at most 1048576: NARROWER than '..Said'. Prove '..Said' where nothing that the law and all that it calls make is longer than what came in: it says more and counts as full. Else prove '..UptoSaid'. A law counts once. -/
mutual
def uptoBulk {H : Type} : DataW H → Nat
  | .lit (.string bytes) => bytes.length + 1
  | .lit _ => 1
  | .nil => 1
  | .ptr d => uptoBulk d + 1
  | .slice elems spare => uptoBulkAll elems + uptoBulkAll spare + 1
  | .agg parts => uptoBulkAll parts + 1
  | .iface _ d => uptoBulk d + 1
  | .map entries => uptoBulkEntries entries + 1
  | .held _ => 1
def uptoBulkAll {H : Type} : List (DataW H) → Nat
  | [] => 0
  | d :: r => uptoBulk d + uptoBulkAll r
def uptoBulkEntries {H : Type} : List (Lit × DataW H) → Nat
  | [] => 0
  | x :: r => uptoBulkEntry x + uptoBulkEntries r
def uptoBulkEntry {H : Type} : Lit × DataW H → Nat
  | (.string bytes, d) => bytes.length + uptoBulk d + 1
  | (_, d) => uptoBulk d + 1
 end
def uptoSmall : (H : Type) → List (DataW H) → Bool := fun _ ds => decide (uptoBulkAll ds ≤ 1048576)
def OpenSpec.upto (s : _root_.Go.ChangeSpec) : _root_.Go.OpenSpec := { _root_.Go.OpenSpec.ofChange s with cond := some uptoSmall }

/-- 'trolleylaw18.HandoffAgain', WHERE WHAT IT READS IS OF BULK AT MOST 1048576: true; the input reads as it did. -/
def handoffAgainUptoRow : OpenClaim := { program := "ythhhkjmlnjbnjaa", sum := "28452c79f4998db01e3a23cbca9b8bfe0ccbebcf9b1eccfdd38d957a54c92a2d", func := "trolley/trolleylaw18.HandoffAgain", spec := "handoffAgain", unfollowed := true, recurses := true, apart := false, narrowed := true }
def HandoffAgainUptoSaid : Prop := handoffAgainUptoRow.holds Try.pinned (OpenSpec.upto handoffAgainSpec)

/-- 'trolleylaw18.HandoffDone', WHERE WHAT IT READS IS OF BULK AT MOST 1048576: true; the input reads as it did. -/
def handoffDoneUptoRow : OpenClaim := { program := "ythhhkjmlnjbnjaa", sum := "28452c79f4998db01e3a23cbca9b8bfe0ccbebcf9b1eccfdd38d957a54c92a2d", func := "trolley/trolleylaw18.HandoffDone", spec := "handoffDone", unfollowed := true, recurses := true, apart := false, narrowed := true }
def HandoffDoneUptoSaid : Prop := handoffDoneUptoRow.holds Try.pinned (OpenSpec.upto handoffDoneSpec)

/-- 'trolleylaw18.HandoffNone', WHERE WHAT IT READS IS OF BULK AT MOST 1048576: true; the input reads as it did. -/
def handoffNoneUptoRow : OpenClaim := { program := "ythhhkjmlnjbnjaa", sum := "28452c79f4998db01e3a23cbca9b8bfe0ccbebcf9b1eccfdd38d957a54c92a2d", func := "trolley/trolleylaw18.HandoffNone", spec := "handoffNone", unfollowed := true, recurses := true, apart := false, narrowed := true }
def HandoffNoneUptoSaid : Prop := handoffNoneUptoRow.holds Try.pinned (OpenSpec.upto handoffNoneSpec)

/-- 'trolleylaw18.HandoffApart', WHERE WHAT IT READS IS OF BULK AT MOST 1048576: true; the input reads as it did. -/
def handoffApartUptoRow : OpenClaim := { program := "ythhhkjmlnjbnjaa", sum := "28452c79f4998db01e3a23cbca9b8bfe0ccbebcf9b1eccfdd38d957a54c92a2d", func := "trolley/trolleylaw18.HandoffApart", spec := "handoffApart", unfollowed := true, recurses := true, apart := false, narrowed := true }
def HandoffApartUptoSaid : Prop := handoffApartUptoRow.holds Try.pinned (OpenSpec.upto handoffApartSpec)

/-- 'trolleylaw18.HandoffAll', WHERE WHAT IT READS IS OF BULK AT MOST 1048576: true; the input reads as it did. -/
def handoffAllUptoRow : OpenClaim := { program := "ythhhkjmlnjbnjaa", sum := "28452c79f4998db01e3a23cbca9b8bfe0ccbebcf9b1eccfdd38d957a54c92a2d", func := "trolley/trolleylaw18.HandoffAll", spec := "handoffAll", unfollowed := true, recurses := true, apart := false, narrowed := true }
def HandoffAllUptoSaid : Prop := handoffAllUptoRow.holds Try.pinned (OpenSpec.upto handoffAllSpec)

/-- 'trolleylaw18.HandoffLives', WHERE WHAT IT READS IS OF BULK AT MOST 1048576: true; the input reads as it did. -/
def handoffLivesUptoRow : OpenClaim := { program := "ythhhkjmlnjbnjaa", sum := "28452c79f4998db01e3a23cbca9b8bfe0ccbebcf9b1eccfdd38d957a54c92a2d", func := "trolley/trolleylaw18.HandoffLives", spec := "handoffLives", unfollowed := true, recurses := true, apart := false, narrowed := true }
def HandoffLivesUptoSaid : Prop := handoffLivesUptoRow.holds Try.pinned (OpenSpec.upto handoffLivesSpec)

end Rows
end Go.Proofs.Ythhhkjmlnjbnjaa
