/-
  Errors as interface values, in this seat's walks: made of a number, compared with nil.
-/
import Derived.Test.YtnphndfbgdkgbaaGreatDoorIface
import Derived.Test.YtnphndfbgdkgbaaGreatDoorLoop
import Derived.Test.YtnphndfbgdkgbaaGreatDoorSeg
import Derived.Stop.IfaceNil
namespace Go.Proofs.YtnphndfbgdkgbaaGreatDoor
section
variable {P : Program} {n : FN} {ρ : Regs} {w : World} {dst : Option Nat} {ty : TypeId} {pos : String} {af : Array Edge} {g : Option (Nat × Bool)}
theorem x_mkIfaceI {t : TypeId} {k : IntKind} {x : Operand} {v : Value} (ht : P.underlying t = some (.int k)) (hx : rd n ρ x = v) : X P n ρ ⟨dst, .makeInterface t x, ty, pos, af, g⟩ w (.iface t v) w := by
  simp [X, execOp, hx, Instr.makeInterface, run_underlying ht]
theorem x_eqIN {t t' u : TypeId} {x y : Operand} {v : Value} (ht : P.isIface t = true) (hx : rd n ρ x = .iface u v) (hy : rd n ρ y = .nilIface) : X P n ρ ⟨dst, .binOp .eql t x y t', ty, pos, af, g⟩ w (.bool false) w := by
  simp [X, execOp, hx, hy, eqGuard, run_eql_iface_nil w t ht u v]
theorem x_neIN {t t' u : TypeId} {x y : Operand} {v : Value} (ht : P.isIface t = true) (hx : rd n ρ x = .iface u v) (hy : rd n ρ y = .nilIface) : X P n ρ ⟨dst, .binOp .neq t x y t', ty, pos, af, g⟩ w (.bool true) w := by
  simp [X, execOp, hx, hy, eqGuard, run_neq_iface_nil w t ht u v]
theorem x_eqNN {t t' : TypeId} {x : Operand} {c : Value} (ht : P.isIface t = true) (hx : rd n ρ x = .nilIface) (hy : rd n ρ (.const c) = .nilIface) : X P n ρ ⟨dst, .binOp .eql t x (.const c) t', ty, pos, af, g⟩ w (.bool true) w := by
  simp [X, execOp, hx, hy, eqGuard, run_eql_nil_nil_at w t ht]
theorem x_neNN {t t' : TypeId} {x : Operand} {c : Value} (ht : P.isIface t = true) (hx : rd n ρ x = .nilIface) (hy : rd n ρ (.const c) = .nilIface) : X P n ρ ⟨dst, .binOp .neq t x (.const c) t', ty, pos, af, g⟩ w (.bool false) w := by
  simp [X, execOp, hx, hy, eqGuard, run_neq_nil_nil_at w t ht]
end
section
variable {P : Program} {f : FuncId} {n : FN} {m : Nat} {R : Ending → World → Prop} {k : List Item} {ρ : Regs} {w : World}
theorem resultsCT {fn : Func} {t T u : Nat} {x : Value} {cs : Array Value} {b o size bytes : Nat} {z : Value} (h : fn.results = #[.cell t T, .tmp u]) (he : Ty P T size bytes z true) (hp : rd n ρ (.tmp t) = .pointer (some ⟨b, o, none⟩)) (hs : cs.size = size) (hc : Cl w b o cs.toList) (hx : rd n ρ (.tmp u) = x) :
    (results fn (act n ρ).tmps).run P w = .ok (.tuple #[.agg cs, x]) w := by
  have hl := run_loadVar (w := w) (b := b) (o := o) (v := .agg cs) he ⟨fun _ => ⟨cs, rfl, hs⟩, fun e => (by cases e)⟩ hc
  have ht := tmps_getD (n := n) (ρ := ρ) t
  rw [hp] at ht
  have ht' : (act n ρ).tmps[t]?.getD undef = .pointer (some ⟨b, o, none⟩) := by rw [← Array.getD_eq_getD_getElem?]; exact ht
  have hu := tmps_getD (n := n) (ρ := ρ) u
  rw [hx] at hu
  have hu' : (act n ρ).tmps[u]?.getD undef = x := by rw [← Array.getD_eq_getD_getElem?]; exact hu
  simp [results, h, ht', hu', asAddr, hl]
/-- a result in cells, and one beside it -/
theorem Run.retCT {fn : Func} {t T u : Nat} {x : Value} {cs : Array Value} {b o size bytes : Nat} {z : Value} (hf : P.funcs[f]? = some fn) (hr : fn.results = #[.cell t T, .tmp u]) (he : Ty P T size bytes z true) (hp : rd ⟨m, []⟩ ρ (.tmp t) = .pointer (some ⟨b, o, none⟩)) (hs : cs.size = size) (hc : Cl w b o cs.toList) (hx : rd ⟨m, []⟩ ρ (.tmp u) = x)
    (h : R (.returned (.tuple #[.agg cs, x])) w) : Run P f ⟨m, []⟩ R (.code .ret :: k) ρ w := Run.ret hf (resultsCT hr he hp hs hc hx) h
end
end Go.Proofs.YtnphndfbgdkgbaaGreatDoor
