/-
  No cell of these rows narrows 'for every input' (looked for: loops, veiled, ifaces, maps, wideKeys, modest, calm, conditions, laid).
  DERIVED. THE GIVEN ROWS OF THIS SEAT. 4 by the template 'for every input the law returns true; each argument reads behind the call as it read before'; 0 by the template 'total and deterministic' (their statements: YtdlaoncjiolckaaTotals.lean).
  GIVEN WITH THE SEED: the statements are not yours to turn. If you find one false, say at which input.
  Laid BY PROGRAM, IN A SANDBOX (cutbox-rows.mjs): the forced cells as the released guide's own fill.sh prints them over the translation 09ba305f07090afa… (all of the seat's roots in one cut). By AI agents, Wed Nov 11 2026. No macro, syntax, notation, axiom, sorry.
-/
import Derived.Test.YtdlaoncjiolckaaChecked
import GoSem.Claim
import GoSem.ClaimJoined
import GoSem.ClaimMapViews
import Derived.JoinedTies
import Derived.KernelRfl
namespace Go.Proofs.Ytdlaoncjiolckaa
/- THE CELL 'sum', in the pinned program and in every row, IS THE sha256 OF THE DUMP (.gsa) THAT YtdlaoncjiolckaaProg.lean LOADS. Nothing in Lean hashes anything: it is a label: what it is worth is what the hold of that sum in a sandbox is worth. -/
noncomputable def Try.pinned : Pinned := { name := "ytdlaoncjiolckaa", sum := "09ba305f07090afaf3b08a072f883df98d1a687c81fbce3ec7734f1c345649b9", checked := Try.checked }
namespace Rows
def none {H : Type} : Left H := { results := [], args := [] }

/-- 'trolleylaw22.WorldMade': WHATEVER THE INPUT: true; the input reads as it did. -/
def worldMadeSpec : ChangeSpec := { name := "worldMade", fn := fun _ => fun
  | [d1, d2] => { results := [.lit (.bool true)], args := [d1, d2] }
  | _ => none }
def worldMadeRow : OpenClaim := { program := "ytdlaoncjiolckaa", sum := "09ba305f07090afaf3b08a072f883df98d1a687c81fbce3ec7734f1c345649b9", func := "trolley/trolleylaw22.WorldMade", spec := "worldMade", unfollowed := true, recurses := true, plainKeys := false, apart := false }
def WorldMadeSaid : Prop := worldMadeRow.holds Try.pinned (OpenSpec.ofChange worldMadeSpec)

/-- ITS FALSE NEIGHBOUR: 'it returns false'. Refute it at one input. -/
def worldMadeWrong : ChangeSpec := { name := "worldMade", fn := fun _ => fun
  | [d1, d2] => { results := [.lit (.bool false)], args := [d1, d2] }
  | _ => none }
def WorldMadeWrongFalsely : Prop := worldMadeRow.holds Try.pinned (OpenSpec.ofChange worldMadeWrong)

/-- 'trolleylaw22.WorldApart': WHATEVER THE INPUT: true; the input reads as it did. -/
def worldApartSpec : ChangeSpec := { name := "worldApart", fn := fun _ => fun
  | [d1, d2, d3, d4] => { results := [.lit (.bool true)], args := [d1, d2, d3, d4] }
  | _ => none }
def worldApartRow : OpenClaim := { program := "ytdlaoncjiolckaa", sum := "09ba305f07090afaf3b08a072f883df98d1a687c81fbce3ec7734f1c345649b9", func := "trolley/trolleylaw22.WorldApart", spec := "worldApart", unfollowed := true, recurses := true, plainKeys := false, apart := false }
def WorldApartSaid : Prop := worldApartRow.holds Try.pinned (OpenSpec.ofChange worldApartSpec)

/-- ITS FALSE NEIGHBOUR: 'it returns false'. Refute it at one input. -/
def worldApartWrong : ChangeSpec := { name := "worldApart", fn := fun _ => fun
  | [d1, d2, d3, d4] => { results := [.lit (.bool false)], args := [d1, d2, d3, d4] }
  | _ => none }
def WorldApartWrongFalsely : Prop := worldApartRow.holds Try.pinned (OpenSpec.ofChange worldApartWrong)

/-- 'trolleylaw22.WorldBoth': WHATEVER THE INPUT: true; the input reads as it did. -/
def worldBothSpec : ChangeSpec := { name := "worldBoth", fn := fun _ => fun
  | [d1, d2, d3] => { results := [.lit (.bool true)], args := [d1, d2, d3] }
  | _ => none }
def worldBothRow : OpenClaim := { program := "ytdlaoncjiolckaa", sum := "09ba305f07090afaf3b08a072f883df98d1a687c81fbce3ec7734f1c345649b9", func := "trolley/trolleylaw22.WorldBoth", spec := "worldBoth", inPlace := ["internal/reflectlite.TypeOf"], unfollowed := true, recurses := true, plainKeys := false, apart := false }
def WorldBothSaid : Prop := worldBothRow.holds Try.pinned (OpenSpec.ofChange worldBothSpec)

/-- ITS FALSE NEIGHBOUR: 'it returns false'. Refute it at one input. -/
def worldBothWrong : ChangeSpec := { name := "worldBoth", fn := fun _ => fun
  | [d1, d2, d3] => { results := [.lit (.bool false)], args := [d1, d2, d3] }
  | _ => none }
def WorldBothWrongFalsely : Prop := worldBothRow.holds Try.pinned (OpenSpec.ofChange worldBothWrong)

/-- 'trolleylaw22.WorldNone': WHATEVER THE INPUT: true; the input reads as it did. -/
def worldNoneSpec : ChangeSpec := { name := "worldNone", fn := fun _ => fun
  | [d] => { results := [.lit (.bool true)], args := [d] }
  | _ => none }
def worldNoneRow : OpenClaim := { program := "ytdlaoncjiolckaa", sum := "09ba305f07090afaf3b08a072f883df98d1a687c81fbce3ec7734f1c345649b9", func := "trolley/trolleylaw22.WorldNone", spec := "worldNone", inPlace := ["internal/reflectlite.TypeOf"], unfollowed := true, recurses := true, plainKeys := false, apart := false }
def WorldNoneSaid : Prop := worldNoneRow.holds Try.pinned (OpenSpec.ofChange worldNoneSpec)

/-- ITS FALSE NEIGHBOUR: 'it returns false'. Refute it at one input. -/
def worldNoneWrong : ChangeSpec := { name := "worldNone", fn := fun _ => fun
  | [d] => { results := [.lit (.bool false)], args := [d] }
  | _ => none }
def WorldNoneWrongFalsely : Prop := worldNoneRow.holds Try.pinned (OpenSpec.ofChange worldNoneWrong)

/- THE SECOND FORM. 'bulk': how many values and letters a reading holds, each counted each time it is reached (what is shared counts as often as it is met; a slice's spare places count too). A statement '..UptoSaid' is the law's where the arguments, and the package variables that the reading takes, are together of bulk at most 1048576: NARROWER than '..Said'. Prove '..Said' where nothing that the law and all that it calls make is longer than what came in: it says more and counts as full. Else prove '..UptoSaid'. A law counts once. -/
mutual
def uptoBulk {H : Type} : DataW H → Nat
  | .lit (.string bytes) => bytes.length + 1
  | .lit _ => 1
  | .nil => 1
  | .ptr d => uptoBulk d + 1
  | .slice elems spare => uptoBulkAll elems + uptoBulkAll spare + 1
  | .agg parts => uptoBulkAll parts + 1
  | .iface _ d => uptoBulk d + 1
  | .map entries => uptoBulkEntries entries + 1
  | .held _ => 1
def uptoBulkAll {H : Type} : List (DataW H) → Nat
  | [] => 0
  | d :: r => uptoBulk d + uptoBulkAll r
def uptoBulkEntries {H : Type} : List (Lit × DataW H) → Nat
  | [] => 0
  | x :: r => uptoBulkEntry x + uptoBulkEntries r
def uptoBulkEntry {H : Type} : Lit × DataW H → Nat
  | (.string bytes, d) => bytes.length + uptoBulk d + 1
  | (_, d) => uptoBulk d + 1
 end
def uptoSmall : (H : Type) → List (DataW H) → Bool := fun _ ds => decide (uptoBulkAll ds ≤ 1048576)
def OpenSpec.upto (s : _root_.Go.ChangeSpec) : _root_.Go.OpenSpec := { _root_.Go.OpenSpec.ofChange s with cond := some uptoSmall }

/-- 'trolleylaw22.WorldMade', WHERE WHAT IT READS IS OF BULK AT MOST 1048576: true; the input reads as it did. -/
def worldMadeUptoRow : OpenClaim := { program := "ytdlaoncjiolckaa", sum := "09ba305f07090afaf3b08a072f883df98d1a687c81fbce3ec7734f1c345649b9", func := "trolley/trolleylaw22.WorldMade", spec := "worldMade", unfollowed := true, recurses := true, plainKeys := false, apart := false, narrowed := true }
def WorldMadeUptoSaid : Prop := worldMadeUptoRow.holds Try.pinned (OpenSpec.upto worldMadeSpec)

/-- 'trolleylaw22.WorldApart', WHERE WHAT IT READS IS OF BULK AT MOST 1048576: true; the input reads as it did. -/
def worldApartUptoRow : OpenClaim := { program := "ytdlaoncjiolckaa", sum := "09ba305f07090afaf3b08a072f883df98d1a687c81fbce3ec7734f1c345649b9", func := "trolley/trolleylaw22.WorldApart", spec := "worldApart", unfollowed := true, recurses := true, plainKeys := false, apart := false, narrowed := true }
def WorldApartUptoSaid : Prop := worldApartUptoRow.holds Try.pinned (OpenSpec.upto worldApartSpec)

/-- 'trolleylaw22.WorldBoth', WHERE WHAT IT READS IS OF BULK AT MOST 1048576: true; the input reads as it did. -/
def worldBothUptoRow : OpenClaim := { program := "ytdlaoncjiolckaa", sum := "09ba305f07090afaf3b08a072f883df98d1a687c81fbce3ec7734f1c345649b9", func := "trolley/trolleylaw22.WorldBoth", spec := "worldBoth", inPlace := ["internal/reflectlite.TypeOf"], unfollowed := true, recurses := true, plainKeys := false, apart := false, narrowed := true }
def WorldBothUptoSaid : Prop := worldBothUptoRow.holds Try.pinned (OpenSpec.upto worldBothSpec)

/-- 'trolleylaw22.WorldNone', WHERE WHAT IT READS IS OF BULK AT MOST 1048576: true; the input reads as it did. -/
def worldNoneUptoRow : OpenClaim := { program := "ytdlaoncjiolckaa", sum := "09ba305f07090afaf3b08a072f883df98d1a687c81fbce3ec7734f1c345649b9", func := "trolley/trolleylaw22.WorldNone", spec := "worldNone", inPlace := ["internal/reflectlite.TypeOf"], unfollowed := true, recurses := true, plainKeys := false, apart := false, narrowed := true }
def WorldNoneUptoSaid : Prop := worldNoneUptoRow.holds Try.pinned (OpenSpec.upto worldNoneSpec)

end Rows
end Go.Proofs.Ytdlaoncjiolckaa
