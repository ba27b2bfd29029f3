/-
  No cell of these rows narrows 'for every input' (looked for: loops, veiled, ifaces, maps, wideKeys, modest, calm, conditions, laid).
  DERIVED. THE GIVEN ROWS OF THIS SEAT. 7 by the template 'for every input the law returns true; each argument reads behind the call as it read before'; 0 by the template 'total and deterministic' (their statements: YtlediffjclploaaTotals.lean).
  GIVEN WITH THE SEED: the statements are not yours to turn. If you find one false, say at which input.
  Laid BY PROGRAM, IN A SANDBOX (cutbox-rows.mjs): the forced cells as the released guide's own fill.sh prints them over the translation 7feeebaaefc5e3d0… (all of the seat's roots in one cut). By AI agents, Wed Nov 11 2026. No macro, syntax, notation, axiom, sorry.
-/
import Derived.Test.YtlediffjclploaaChecked
import GoSem.Claim
import GoSem.ClaimJoined
import GoSem.ClaimMapViews
import Derived.JoinedTies
import Derived.KernelRfl
namespace Go.Proofs.Ytlediffjclploaa
/- THE CELL 'sum', in the pinned program and in every row, IS THE sha256 OF THE DUMP (.gsa) THAT YtlediffjclploaaProg.lean LOADS. Nothing in Lean hashes anything: it is a label: what it is worth is what the hold of that sum in a sandbox is worth. -/
noncomputable def Try.pinned : Pinned := { name := "ytlediffjclploaa", sum := "7feeebaaefc5e3d0854f3dbecfeea93ca813d1b7a70bff533384f4f7cf805f18", checked := Try.checked }
namespace Rows
def none {H : Type} : Left H := { results := [], args := [] }

/-- 'trolleylaw17.QuorumChooses': WHATEVER THE INPUT: true; the input reads as it did. -/
def quorumChoosesSpec : ChangeSpec := { name := "quorumChooses", fn := fun _ => fun
  | [d1, d2, d3] => { results := [.lit (.bool true)], args := [d1, d2, d3] }
  | _ => none }
def quorumChoosesRow : OpenClaim := { program := "ytlediffjclploaa", sum := "7feeebaaefc5e3d0854f3dbecfeea93ca813d1b7a70bff533384f4f7cf805f18", func := "trolley/trolleylaw17.QuorumChooses", spec := "quorumChooses", unfollowed := true, recurses := true, apart := false }
def QuorumChoosesSaid : Prop := quorumChoosesRow.holds Try.pinned (OpenSpec.ofChange quorumChoosesSpec)

/-- ITS FALSE NEIGHBOUR: 'it returns false'. Refute it at one input. -/
def quorumChoosesWrong : ChangeSpec := { name := "quorumChooses", fn := fun _ => fun
  | [d1, d2, d3] => { results := [.lit (.bool false)], args := [d1, d2, d3] }
  | _ => none }
def QuorumChoosesWrongFalsely : Prop := quorumChoosesRow.holds Try.pinned (OpenSpec.ofChange quorumChoosesWrong)

/-- 'trolleylaw17.QuorumChosen': WHATEVER THE INPUT: true; the input reads as it did. -/
def quorumChosenSpec : ChangeSpec := { name := "quorumChosen", fn := fun _ => fun
  | [d1, d2, d3] => { results := [.lit (.bool true)], args := [d1, d2, d3] }
  | _ => none }
def quorumChosenRow : OpenClaim := { program := "ytlediffjclploaa", sum := "7feeebaaefc5e3d0854f3dbecfeea93ca813d1b7a70bff533384f4f7cf805f18", func := "trolley/trolleylaw17.QuorumChosen", spec := "quorumChosen", unfollowed := true, recurses := true, apart := false }
def QuorumChosenSaid : Prop := quorumChosenRow.holds Try.pinned (OpenSpec.ofChange quorumChosenSpec)

/-- ITS FALSE NEIGHBOUR: 'it returns false'. Refute it at one input. -/
def quorumChosenWrong : ChangeSpec := { name := "quorumChosen", fn := fun _ => fun
  | [d1, d2, d3] => { results := [.lit (.bool false)], args := [d1, d2, d3] }
  | _ => none }
def QuorumChosenWrongFalsely : Prop := quorumChosenRow.holds Try.pinned (OpenSpec.ofChange quorumChosenWrong)

/-- 'trolleylaw16.HintsFew': WHATEVER THE INPUT: true; the input reads as it did. -/
def hintsFewSpec : ChangeSpec := { name := "hintsFew", fn := fun _ => fun
  | [d1, d2, d3] => { results := [.lit (.bool true)], args := [d1, d2, d3] }
  | _ => none }
def hintsFewRow : OpenClaim := { program := "ytlediffjclploaa", sum := "7feeebaaefc5e3d0854f3dbecfeea93ca813d1b7a70bff533384f4f7cf805f18", func := "trolley/trolleylaw16.HintsFew", spec := "hintsFew", unfollowed := true, recurses := true, apart := false }
def HintsFewSaid : Prop := hintsFewRow.holds Try.pinned (OpenSpec.ofChange hintsFewSpec)

/-- ITS FALSE NEIGHBOUR: 'it returns false'. Refute it at one input. -/
def hintsFewWrong : ChangeSpec := { name := "hintsFew", fn := fun _ => fun
  | [d1, d2, d3] => { results := [.lit (.bool false)], args := [d1, d2, d3] }
  | _ => none }
def HintsFewWrongFalsely : Prop := hintsFewRow.holds Try.pinned (OpenSpec.ofChange hintsFewWrong)

/-- 'trolleylaw16.HintsApart': WHATEVER THE INPUT: true; the input reads as it did. -/
def hintsApartSpec : ChangeSpec := { name := "hintsApart", fn := fun _ => fun
  | [d1, d2] => { results := [.lit (.bool true)], args := [d1, d2] }
  | _ => none }
def hintsApartRow : OpenClaim := { program := "ytlediffjclploaa", sum := "7feeebaaefc5e3d0854f3dbecfeea93ca813d1b7a70bff533384f4f7cf805f18", func := "trolley/trolleylaw16.HintsApart", spec := "hintsApart", unfollowed := true, recurses := true, apart := false }
def HintsApartSaid : Prop := hintsApartRow.holds Try.pinned (OpenSpec.ofChange hintsApartSpec)

/-- ITS FALSE NEIGHBOUR: 'it returns false'. Refute it at one input. -/
def hintsApartWrong : ChangeSpec := { name := "hintsApart", fn := fun _ => fun
  | [d1, d2] => { results := [.lit (.bool false)], args := [d1, d2] }
  | _ => none }
def HintsApartWrongFalsely : Prop := hintsApartRow.holds Try.pinned (OpenSpec.ofChange hintsApartWrong)

/-- 'trolleylaw16.HintsNone': WHATEVER THE INPUT: true; the input reads as it did. -/
def hintsNoneSpec : ChangeSpec := { name := "hintsNone", fn := fun _ => fun
  | [d1, d2, d3] => { results := [.lit (.bool true)], args := [d1, d2, d3] }
  | _ => none }
def hintsNoneRow : OpenClaim := { program := "ytlediffjclploaa", sum := "7feeebaaefc5e3d0854f3dbecfeea93ca813d1b7a70bff533384f4f7cf805f18", func := "trolley/trolleylaw16.HintsNone", spec := "hintsNone", unfollowed := true, recurses := true, apart := false }
def HintsNoneSaid : Prop := hintsNoneRow.holds Try.pinned (OpenSpec.ofChange hintsNoneSpec)

/-- ITS FALSE NEIGHBOUR: 'it returns false'. Refute it at one input. -/
def hintsNoneWrong : ChangeSpec := { name := "hintsNone", fn := fun _ => fun
  | [d1, d2, d3] => { results := [.lit (.bool false)], args := [d1, d2, d3] }
  | _ => none }
def HintsNoneWrongFalsely : Prop := hintsNoneRow.holds Try.pinned (OpenSpec.ofChange hintsNoneWrong)

/-- 'trolleylaw16.HintsLives': WHATEVER THE INPUT: true; the input reads as it did. -/
def hintsLivesSpec : ChangeSpec := { name := "hintsLives", fn := fun _ => fun
  | [d] => { results := [.lit (.bool true)], args := [d] }
  | _ => none }
def hintsLivesRow : OpenClaim := { program := "ytlediffjclploaa", sum := "7feeebaaefc5e3d0854f3dbecfeea93ca813d1b7a70bff533384f4f7cf805f18", func := "trolley/trolleylaw16.HintsLives", spec := "hintsLives", unfollowed := true, recurses := true, apart := false }
def HintsLivesSaid : Prop := hintsLivesRow.holds Try.pinned (OpenSpec.ofChange hintsLivesSpec)

/-- ITS FALSE NEIGHBOUR: 'it returns false'. Refute it at one input. -/
def hintsLivesWrong : ChangeSpec := { name := "hintsLives", fn := fun _ => fun
  | [d] => { results := [.lit (.bool false)], args := [d] }
  | _ => none }
def HintsLivesWrongFalsely : Prop := hintsLivesRow.holds Try.pinned (OpenSpec.ofChange hintsLivesWrong)

/-- 'trolleylaw16.HintsAll': WHATEVER THE INPUT: true; the input reads as it did. -/
def hintsAllSpec : ChangeSpec := { name := "hintsAll", fn := fun _ => fun
  | [d1, d2] => { results := [.lit (.bool true)], args := [d1, d2] }
  | _ => none }
def hintsAllRow : OpenClaim := { program := "ytlediffjclploaa", sum := "7feeebaaefc5e3d0854f3dbecfeea93ca813d1b7a70bff533384f4f7cf805f18", func := "trolley/trolleylaw16.HintsAll", spec := "hintsAll", unfollowed := true, recurses := true, apart := false }
def HintsAllSaid : Prop := hintsAllRow.holds Try.pinned (OpenSpec.ofChange hintsAllSpec)

/-- ITS FALSE NEIGHBOUR: 'it returns false'. Refute it at one input. -/
def hintsAllWrong : ChangeSpec := { name := "hintsAll", fn := fun _ => fun
  | [d1, d2] => { results := [.lit (.bool false)], args := [d1, d2] }
  | _ => none }
def HintsAllWrongFalsely : Prop := hintsAllRow.holds Try.pinned (OpenSpec.ofChange hintsAllWrong)

/- THE SECOND FORM. 'bulk': how many values and letters a reading holds, each counted each time it is reached (what is shared counts as often as it is met; a slice's spare places count too). A statement '..UptoSaid' is the law's where the arguments, and the package variables that the reading takes, are together of bulk at most 1048576: NARROWER than '..Said'. Prove '..Said' where nothing that the law and all that it calls make is longer than what came in: it says more and counts as full. Else prove '..UptoSaid'. A law counts once. -/
mutual
def uptoBulk {H : Type} : DataW H → Nat
  | .lit (.string bytes) => bytes.length + 1
  | .lit _ => 1
  | .nil => 1
  | .ptr d => uptoBulk d + 1
  | .slice elems spare => uptoBulkAll elems + uptoBulkAll spare + 1
  | .agg parts => uptoBulkAll parts + 1
  | .iface _ d => uptoBulk d + 1
  | .map entries => uptoBulkEntries entries + 1
  | .held _ => 1
def uptoBulkAll {H : Type} : List (DataW H) → Nat
  | [] => 0
  | d :: r => uptoBulk d + uptoBulkAll r
def uptoBulkEntries {H : Type} : List (Lit × DataW H) → Nat
  | [] => 0
  | x :: r => uptoBulkEntry x + uptoBulkEntries r
def uptoBulkEntry {H : Type} : Lit × DataW H → Nat
  | (.string bytes, d) => bytes.length + uptoBulk d + 1
  | (_, d) => uptoBulk d + 1
 end
def uptoSmall : (H : Type) → List (DataW H) → Bool := fun _ ds => decide (uptoBulkAll ds ≤ 1048576)
def OpenSpec.upto (s : _root_.Go.ChangeSpec) : _root_.Go.OpenSpec := { _root_.Go.OpenSpec.ofChange s with cond := some uptoSmall }

/-- 'trolleylaw17.QuorumChooses', WHERE WHAT IT READS IS OF BULK AT MOST 1048576: true; the input reads as it did. -/
def quorumChoosesUptoRow : OpenClaim := { program := "ytlediffjclploaa", sum := "7feeebaaefc5e3d0854f3dbecfeea93ca813d1b7a70bff533384f4f7cf805f18", func := "trolley/trolleylaw17.QuorumChooses", spec := "quorumChooses", unfollowed := true, recurses := true, apart := false, narrowed := true }
def QuorumChoosesUptoSaid : Prop := quorumChoosesUptoRow.holds Try.pinned (OpenSpec.upto quorumChoosesSpec)

/-- 'trolleylaw17.QuorumChosen', WHERE WHAT IT READS IS OF BULK AT MOST 1048576: true; the input reads as it did. -/
def quorumChosenUptoRow : OpenClaim := { program := "ytlediffjclploaa", sum := "7feeebaaefc5e3d0854f3dbecfeea93ca813d1b7a70bff533384f4f7cf805f18", func := "trolley/trolleylaw17.QuorumChosen", spec := "quorumChosen", unfollowed := true, recurses := true, apart := false, narrowed := true }
def QuorumChosenUptoSaid : Prop := quorumChosenUptoRow.holds Try.pinned (OpenSpec.upto quorumChosenSpec)

/-- 'trolleylaw16.HintsFew', WHERE WHAT IT READS IS OF BULK AT MOST 1048576: true; the input reads as it did. -/
def hintsFewUptoRow : OpenClaim := { program := "ytlediffjclploaa", sum := "7feeebaaefc5e3d0854f3dbecfeea93ca813d1b7a70bff533384f4f7cf805f18", func := "trolley/trolleylaw16.HintsFew", spec := "hintsFew", unfollowed := true, recurses := true, apart := false, narrowed := true }
def HintsFewUptoSaid : Prop := hintsFewUptoRow.holds Try.pinned (OpenSpec.upto hintsFewSpec)

/-- 'trolleylaw16.HintsApart', WHERE WHAT IT READS IS OF BULK AT MOST 1048576: true; the input reads as it did. -/
def hintsApartUptoRow : OpenClaim := { program := "ytlediffjclploaa", sum := "7feeebaaefc5e3d0854f3dbecfeea93ca813d1b7a70bff533384f4f7cf805f18", func := "trolley/trolleylaw16.HintsApart", spec := "hintsApart", unfollowed := true, recurses := true, apart := false, narrowed := true }
def HintsApartUptoSaid : Prop := hintsApartUptoRow.holds Try.pinned (OpenSpec.upto hintsApartSpec)

/-- 'trolleylaw16.HintsNone', WHERE WHAT IT READS IS OF BULK AT MOST 1048576: true; the input reads as it did. -/
def hintsNoneUptoRow : OpenClaim := { program := "ytlediffjclploaa", sum := "7feeebaaefc5e3d0854f3dbecfeea93ca813d1b7a70bff533384f4f7cf805f18", func := "trolley/trolleylaw16.HintsNone", spec := "hintsNone", unfollowed := true, recurses := true, apart := false, narrowed := true }
def HintsNoneUptoSaid : Prop := hintsNoneUptoRow.holds Try.pinned (OpenSpec.upto hintsNoneSpec)

/-- 'trolleylaw16.HintsLives', WHERE WHAT IT READS IS OF BULK AT MOST 1048576: true; the input reads as it did. -/
def hintsLivesUptoRow : OpenClaim := { program := "ytlediffjclploaa", sum := "7feeebaaefc5e3d0854f3dbecfeea93ca813d1b7a70bff533384f4f7cf805f18", func := "trolley/trolleylaw16.HintsLives", spec := "hintsLives", unfollowed := true, recurses := true, apart := false, narrowed := true }
def HintsLivesUptoSaid : Prop := hintsLivesUptoRow.holds Try.pinned (OpenSpec.upto hintsLivesSpec)

/-- 'trolleylaw16.HintsAll', WHERE WHAT IT READS IS OF BULK AT MOST 1048576: true; the input reads as it did. -/
def hintsAllUptoRow : OpenClaim := { program := "ytlediffjclploaa", sum := "7feeebaaefc5e3d0854f3dbecfeea93ca813d1b7a70bff533384f4f7cf805f18", func := "trolley/trolleylaw16.HintsAll", spec := "hintsAll", unfollowed := true, recurses := true, apart := false, narrowed := true }
def HintsAllUptoSaid : Prop := hintsAllUptoRow.holds Try.pinned (OpenSpec.upto hintsAllSpec)

end Rows
end Go.Proofs.Ytlediffjclploaa
