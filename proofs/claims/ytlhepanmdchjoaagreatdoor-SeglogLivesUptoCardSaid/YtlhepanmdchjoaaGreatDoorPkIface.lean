/-
  Iface
-/
import Derived.Test.YtlhepanmdchjoaaGreatDoorPkLoop
/-
  Interface values of pointers, methods of theirs as function values, in this seat's walks.
-/
namespace Go.Proofs.YtlhepanmdchjoaaGreatDoor
section
variable {P : Program} {n : Nat} {ρ : Regs} {w : World} {dst : Option Nat} {ty : TypeId} {pos : String} {af : Array Edge} {g : Option (Nat × Bool)}
end
section
variable {P : Program} {f : FuncId} {n : Nat} {R : Ending → World → Prop} {k : List Item} {ρ : Regs} {w : World}
variable {dst : Option Nat} {ty : TypeId} {pos : String} {af : Array Edge} {K : Regs → World → Prop}
end
end Go.Proofs.YtlhepanmdchjoaaGreatDoor
