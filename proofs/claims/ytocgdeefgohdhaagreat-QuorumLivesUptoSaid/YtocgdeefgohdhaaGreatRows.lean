/-
  No cell of these rows narrows 'for every input' (looked for: loops, veiled, ifaces, maps, wideKeys, modest, calm, conditions, laid).
  DERIVED. THE GIVEN ROWS OF THIS SEAT. 4 by the template 'for every input the law returns true; each argument reads behind the call as it read before'; 0 by the template 'total and deterministic' (their statements: YtocgdeefgohdhaaGreatTotals.lean).
  GIVEN WITH THE SEED: the statements are not yours to turn. If you find one false, say at which input.
  Laid BY PROGRAM, IN A SANDBOX (cutbox-rows.mjs): the forced cells as the released guide's own fill.sh prints them over the translation 5feb4f8955636e19… (all of the seat's roots in one cut). By AI agents, Wed Nov 11 2026. No macro, syntax, notation, axiom, sorry.
-/
import Derived.Test.YtocgdeefgohdhaaGreatChecked
import GoSem.Claim
import GoSem.ClaimJoined
import GoSem.ClaimMapViews
import Derived.JoinedTies
import Derived.KernelRfl
namespace Go.Proofs.YtocgdeefgohdhaaGreat
/- THE CELL 'sum', in the pinned program and in every row, IS THE sha256 OF THE DUMP (.gsa) THAT YtocgdeefgohdhaaGreatProg.lean LOADS. Nothing in Lean hashes anything: it is a label: what it is worth is what the hold of that sum in a sandbox is worth. -/
noncomputable def Tryz.pinned : Pinned := { name := "ytocgdeefgohdhaagreat", sum := "5feb4f8955636e194b6df23bfaaeda9d7124c51be6bddb64051cf0439a5fc9c0", checked := Tryz.checked }
namespace Rows
def none {H : Type} : Left H := { results := [], args := [] }

/-- 'trolleylaw17.QuorumSeen': WHATEVER THE INPUT: true; the input reads as it did. -/
def quorumSeenSpec : ChangeSpec := { name := "quorumSeen", fn := fun _ => fun
  | [d1, d2] => { results := [.lit (.bool true)], args := [d1, d2] }
  | _ => none }
def quorumSeenRow : OpenClaim := { program := "ytocgdeefgohdhaagreat", sum := "5feb4f8955636e194b6df23bfaaeda9d7124c51be6bddb64051cf0439a5fc9c0", func := "trolley/trolleylaw17.QuorumSeen", spec := "quorumSeen", inPlace := ["internal/bytealg.IndexByteString", "internal/bytealg.IndexString", "math.Float64frombits", "internal/bytealg.abigen_runtime_cmpstring"], unfollowed := true, recurses := true, named := ["internal/bytealg.MaxLen"], apart := false }
def QuorumSeenSaid : Prop := quorumSeenRow.holds Tryz.pinned (OpenSpec.ofChange quorumSeenSpec)

/-- ITS FALSE NEIGHBOUR: 'it returns false'. Refute it at one input. -/
def quorumSeenWrong : ChangeSpec := { name := "quorumSeen", fn := fun _ => fun
  | [d1, d2] => { results := [.lit (.bool false)], args := [d1, d2] }
  | _ => none }
def QuorumSeenWrongFalsely : Prop := quorumSeenRow.holds Tryz.pinned (OpenSpec.ofChange quorumSeenWrong)

/-- 'trolleylaw17.QuorumKept': WHATEVER THE INPUT: true; the input reads as it did. -/
def quorumKeptSpec : ChangeSpec := { name := "quorumKept", fn := fun _ => fun
  | [d1, d2] => { results := [.lit (.bool true)], args := [d1, d2] }
  | _ => none }
def quorumKeptRow : OpenClaim := { program := "ytocgdeefgohdhaagreat", sum := "5feb4f8955636e194b6df23bfaaeda9d7124c51be6bddb64051cf0439a5fc9c0", func := "trolley/trolleylaw17.QuorumKept", spec := "quorumKept", inPlace := ["internal/bytealg.IndexByteString", "internal/bytealg.IndexString", "math.Float64frombits", "internal/bytealg.abigen_runtime_cmpstring"], unfollowed := true, recurses := true, named := ["internal/bytealg.MaxLen"], apart := false }
def QuorumKeptSaid : Prop := quorumKeptRow.holds Tryz.pinned (OpenSpec.ofChange quorumKeptSpec)

/-- ITS FALSE NEIGHBOUR: 'it returns false'. Refute it at one input. -/
def quorumKeptWrong : ChangeSpec := { name := "quorumKept", fn := fun _ => fun
  | [d1, d2] => { results := [.lit (.bool false)], args := [d1, d2] }
  | _ => none }
def QuorumKeptWrongFalsely : Prop := quorumKeptRow.holds Tryz.pinned (OpenSpec.ofChange quorumKeptWrong)

/-- 'trolleylaw17.QuorumLives': WHATEVER THE INPUT: true; the input reads as it did. -/
def quorumLivesSpec : ChangeSpec := { name := "quorumLives", fn := fun _ => fun
  | [d1, d2] => { results := [.lit (.bool true)], args := [d1, d2] }
  | _ => none }
def quorumLivesRow : OpenClaim := { program := "ytocgdeefgohdhaagreat", sum := "5feb4f8955636e194b6df23bfaaeda9d7124c51be6bddb64051cf0439a5fc9c0", func := "trolley/trolleylaw17.QuorumLives", spec := "quorumLives", inPlace := ["internal/bytealg.IndexByteString", "internal/bytealg.IndexString", "math.Float64frombits", "internal/bytealg.abigen_runtime_cmpstring"], unfollowed := true, recurses := true, named := ["internal/bytealg.MaxLen"], apart := false }
def QuorumLivesSaid : Prop := quorumLivesRow.holds Tryz.pinned (OpenSpec.ofChange quorumLivesSpec)

/-- ITS FALSE NEIGHBOUR: 'it returns false'. Refute it at one input. -/
def quorumLivesWrong : ChangeSpec := { name := "quorumLives", fn := fun _ => fun
  | [d1, d2] => { results := [.lit (.bool false)], args := [d1, d2] }
  | _ => none }
def QuorumLivesWrongFalsely : Prop := quorumLivesRow.holds Tryz.pinned (OpenSpec.ofChange quorumLivesWrong)

/-- 'trolleylaw17.QuorumOnce': WHATEVER THE INPUT: true; the input reads as it did. -/
def quorumOnceSpec : ChangeSpec := { name := "quorumOnce", fn := fun _ => fun
  | [d1, d2] => { results := [.lit (.bool true)], args := [d1, d2] }
  | _ => none }
def quorumOnceRow : OpenClaim := { program := "ytocgdeefgohdhaagreat", sum := "5feb4f8955636e194b6df23bfaaeda9d7124c51be6bddb64051cf0439a5fc9c0", func := "trolley/trolleylaw17.QuorumOnce", spec := "quorumOnce", inPlace := ["internal/bytealg.IndexByteString", "internal/bytealg.IndexString", "math.Float64frombits", "internal/bytealg.abigen_runtime_cmpstring"], unfollowed := true, recurses := true, named := ["internal/bytealg.MaxLen"], apart := false }
def QuorumOnceSaid : Prop := quorumOnceRow.holds Tryz.pinned (OpenSpec.ofChange quorumOnceSpec)

/-- ITS FALSE NEIGHBOUR: 'it returns false'. Refute it at one input. -/
def quorumOnceWrong : ChangeSpec := { name := "quorumOnce", fn := fun _ => fun
  | [d1, d2] => { results := [.lit (.bool false)], args := [d1, d2] }
  | _ => none }
def QuorumOnceWrongFalsely : Prop := quorumOnceRow.holds Tryz.pinned (OpenSpec.ofChange quorumOnceWrong)

/- THE SECOND FORM. 'bulk': how many values and letters a reading holds, each counted each time it is reached (what is shared counts as often as it is met; a slice's spare places count too). A statement '..UptoSaid' is the law's where the arguments, and the package variables that the reading takes, are together of bulk at most 1048576: NARROWER than '..Said'. Prove '..Said' where nothing that the law and all that it calls make is longer than what came in: it says more and counts as full. Else prove '..UptoSaid'. A law counts once. -/
mutual
def uptoBulk {H : Type} : DataW H → Nat
  | .lit (.string bytes) => bytes.length + 1
  | .lit _ => 1
  | .nil => 1
  | .ptr d => uptoBulk d + 1
  | .slice elems spare => uptoBulkAll elems + uptoBulkAll spare + 1
  | .agg parts => uptoBulkAll parts + 1
  | .iface _ d => uptoBulk d + 1
  | .map entries => uptoBulkEntries entries + 1
  | .held _ => 1
def uptoBulkAll {H : Type} : List (DataW H) → Nat
  | [] => 0
  | d :: r => uptoBulk d + uptoBulkAll r
def uptoBulkEntries {H : Type} : List (Lit × DataW H) → Nat
  | [] => 0
  | x :: r => uptoBulkEntry x + uptoBulkEntries r
def uptoBulkEntry {H : Type} : Lit × DataW H → Nat
  | (.string bytes, d) => bytes.length + uptoBulk d + 1
  | (_, d) => uptoBulk d + 1
 end
def uptoSmall : (H : Type) → List (DataW H) → Bool := fun _ ds => decide (uptoBulkAll ds ≤ 1048576)
def OpenSpec.upto (s : _root_.Go.ChangeSpec) : _root_.Go.OpenSpec := { _root_.Go.OpenSpec.ofChange s with cond := some uptoSmall }

/-- 'trolleylaw17.QuorumSeen', WHERE WHAT IT READS IS OF BULK AT MOST 1048576: true; the input reads as it did. -/
def quorumSeenUptoRow : OpenClaim := { program := "ytocgdeefgohdhaagreat", sum := "5feb4f8955636e194b6df23bfaaeda9d7124c51be6bddb64051cf0439a5fc9c0", func := "trolley/trolleylaw17.QuorumSeen", spec := "quorumSeen", inPlace := ["internal/bytealg.IndexByteString", "internal/bytealg.IndexString", "math.Float64frombits", "internal/bytealg.abigen_runtime_cmpstring"], unfollowed := true, recurses := true, named := ["internal/bytealg.MaxLen"], apart := false, narrowed := true }
def QuorumSeenUptoSaid : Prop := quorumSeenUptoRow.holds Tryz.pinned (OpenSpec.upto quorumSeenSpec)

/-- 'trolleylaw17.QuorumKept', WHERE WHAT IT READS IS OF BULK AT MOST 1048576: true; the input reads as it did. -/
def quorumKeptUptoRow : OpenClaim := { program := "ytocgdeefgohdhaagreat", sum := "5feb4f8955636e194b6df23bfaaeda9d7124c51be6bddb64051cf0439a5fc9c0", func := "trolley/trolleylaw17.QuorumKept", spec := "quorumKept", inPlace := ["internal/bytealg.IndexByteString", "internal/bytealg.IndexString", "math.Float64frombits", "internal/bytealg.abigen_runtime_cmpstring"], unfollowed := true, recurses := true, named := ["internal/bytealg.MaxLen"], apart := false, narrowed := true }
def QuorumKeptUptoSaid : Prop := quorumKeptUptoRow.holds Tryz.pinned (OpenSpec.upto quorumKeptSpec)

/-- 'trolleylaw17.QuorumLives', WHERE WHAT IT READS IS OF BULK AT MOST 1048576: true; the input reads as it did. -/
def quorumLivesUptoRow : OpenClaim := { program := "ytocgdeefgohdhaagreat", sum := "5feb4f8955636e194b6df23bfaaeda9d7124c51be6bddb64051cf0439a5fc9c0", func := "trolley/trolleylaw17.QuorumLives", spec := "quorumLives", inPlace := ["internal/bytealg.IndexByteString", "internal/bytealg.IndexString", "math.Float64frombits", "internal/bytealg.abigen_runtime_cmpstring"], unfollowed := true, recurses := true, named := ["internal/bytealg.MaxLen"], apart := false, narrowed := true }
def QuorumLivesUptoSaid : Prop := quorumLivesUptoRow.holds Tryz.pinned (OpenSpec.upto quorumLivesSpec)

/-- 'trolleylaw17.QuorumOnce', WHERE WHAT IT READS IS OF BULK AT MOST 1048576: true; the input reads as it did. -/
def quorumOnceUptoRow : OpenClaim := { program := "ytocgdeefgohdhaagreat", sum := "5feb4f8955636e194b6df23bfaaeda9d7124c51be6bddb64051cf0439a5fc9c0", func := "trolley/trolleylaw17.QuorumOnce", spec := "quorumOnce", inPlace := ["internal/bytealg.IndexByteString", "internal/bytealg.IndexString", "math.Float64frombits", "internal/bytealg.abigen_runtime_cmpstring"], unfollowed := true, recurses := true, named := ["internal/bytealg.MaxLen"], apart := false, narrowed := true }
def QuorumOnceUptoSaid : Prop := quorumOnceUptoRow.holds Tryz.pinned (OpenSpec.upto quorumOnceSpec)

end Rows
end Go.Proofs.YtocgdeefgohdhaaGreat
