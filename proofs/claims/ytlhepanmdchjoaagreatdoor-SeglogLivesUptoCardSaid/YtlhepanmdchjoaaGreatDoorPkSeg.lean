/-
  Seg
-/
import Derived.Test.YtlhepanmdchjoaaGreatDoorPkLoop
/-
  Arrays inside blocks, arrays as values, results that lie in cells.
-/
namespace Go.Proofs.YtlhepanmdchjoaaGreatDoor
section
variable {α : Type} [Enc α] {w : World} {b : Nat} {T : TypeId} {A B : List Value} {xs : List α}
end
section
variable {P : Program} {n : Nat} {ρ : Regs} {w : World} {dst : Option Nat} {ty : TypeId} {pos : String} {af : Array Edge} {g : Option (Nat × Bool)}
end
section
variable {P : Program} {f : FuncId} {n : Nat} {R : Ending → World → Prop} {k : List Item} {ρ : Regs} {w : World}
end
end Go.Proofs.YtlhepanmdchjoaaGreatDoor
