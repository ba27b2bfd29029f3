/-
  Err
-/
import Derived.Test.YtlhepanmdchjoaaGreatDoorPkIface
import Derived.Test.YtlhepanmdchjoaaGreatDoorPkLoop
import Derived.Test.YtlhepanmdchjoaaGreatDoorPkSeg
import Derived.Stop.IfaceNil
/-
  Errors as interface values, in this seat's walks: made of a number, compared with nil.
-/
namespace Go.Proofs.YtlhepanmdchjoaaGreatDoor
section
variable {P : Program} {n : Nat} {ρ : Regs} {w : World} {dst : Option Nat} {ty : TypeId} {pos : String} {af : Array Edge} {g : Option (Nat × Bool)}
theorem x_mkIfaceI {t : TypeId} {k : IntKind} {x : Operand} {v : Value} (ht : P.underlying t = some (.int k)) (hx : rd n ρ x = v) : X P n ρ ⟨dst, .makeInterface t x, ty, pos, af, g⟩ w (.iface t v) w := by
 simp [X, execOp, hx, Instr.makeInterface, run_underlying ht]
theorem x_eqIN {t t' u : TypeId} {x y : Operand} {v : Value} (ht : P.isIface t = true) (hx : rd n ρ x = .iface u v) (hy : rd n ρ y = .nilIface) : X P n ρ ⟨dst, .binOp .eql t x y t', ty, pos, af, g⟩ w (.bool false) w := by
 simp [X, execOp, hx, hy, eqGuard, run_eql_iface_nil w t ht u v]
theorem x_eqNN {t t' : TypeId} {x : Operand} {c : Value} (ht : P.isIface t = true) (hx : rd n ρ x = .nilIface) (hy : rd n ρ (.const c) = .nilIface) : X P n ρ ⟨dst, .binOp .eql t x (.const c) t', ty, pos, af, g⟩ w (.bool true) w := by
 simp [X, execOp, hx, hy, eqGuard, run_eql_nil_nil_at w t ht]
end
section
variable {P : Program} {f : FuncId} {n : Nat} {R : Ending → World → Prop} {k : List Item} {ρ : Regs} {w : World}
end
end Go.Proofs.YtlhepanmdchjoaaGreatDoor
