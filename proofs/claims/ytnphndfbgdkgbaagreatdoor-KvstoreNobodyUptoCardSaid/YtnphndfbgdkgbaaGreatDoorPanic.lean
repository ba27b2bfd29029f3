/-
  Calls that may panic: what they leave; the panic of the text; over any program.
-/
import Derived.Test.YtnphndfbgdkgbaaGreatDoorMore
import Derived.Defers
import Derived.Recover
namespace Go.Proofs.YtnphndfbgdkgbaaGreatDoor

/-- what a function leaves that returns or panics -/
def Two (Φ : Value → World → Prop) (Ψ : List PanicEntry → World → Prop) : Ending → World → Prop := fun e w => (∃ v, e = .returned v ∧ Φ v w) ∨ (∃ ch, e = .panicked ch ∧ Ψ ch w)
/-- the panic of a value of an interface -/
abbrev raisedBy (t : TypeId) (v : Value) : List PanicEntry := [{ v := .iface t v, recovered := false }]

section
variable {P : Program} {f : FuncId} {m : Nat} {R : Ending → World → Prop} {k : List Item} {ops : Array Oper} {rest : List Oper} {ρ : Regs} {w : World}
variable {dst : Option Nat} {op : Op} {ty : TypeId} {pos : String} {af : Array Edge} {K : Regs → World → Prop}

theorem St1.panic {x : Operand} {t : TypeId} {v : Value} {fn : Func} (hx : rd ⟨m, []⟩ ρ x = .iface t v) (hf : P.funcs[f]? = some fn) (h : R (.panicked (raisedBy t v)) w) : St1 P f ⟨m, []⟩ R k ⟨dst, .panic x, ty, pos, af, none⟩ ρ w K := by
  simp only [St1, Oper.wp, eval_act, execOp, hx]
  exact ⟨rfl, ⟨fn, hf⟩, h⟩
theorem St1.enterP {g : FuncId} {vals : Array Value} {Φ : Value → World → Prop} {Ψ : List PanicEntry → World → Prop} {fn : Func} (hrun : (execOp (rd ⟨m, []⟩ ρ) ⟨dst, op, ty, pos, af, none⟩).run P w = .ok (.enter g vals) w)
    (hc : Calls P g vals w (Two Φ Ψ)) (hf : P.funcs[f]? = some fn) (hp : ∀ ch w', Ψ ch w' → R (.panicked ch) w') (h : ∀ v w', Φ v w' → K (updo ρ dst v) w') : St1 P f ⟨m, []⟩ R k ⟨dst, op, ty, pos, af, none⟩ ρ w K := by
  simp only [St1, Oper.wp, eval_act, hrun, Oper.upon]
  refine hc.mono ?_
  rintro e w' (⟨v, rfl, hΦ⟩ | ⟨ch, rfl, hΨ⟩)
  · simp only [put_act]
    exact ⟨_, rfl, h v w' hΦ⟩
  · exact ⟨rfl, ⟨fn, hf⟩, hp ch w' hΨ⟩
theorem St1.callP {g : FuncId} {ol : List Operand} {ts : Array TypeId} {vals : List Value} {Φ : Value → World → Prop} {Ψ : List PanicEntry → World → Prop} {fn : Func} (he : Enters P g) (ha : ol.map (rd ⟨m, []⟩ ρ) = vals)
    (hc : Calls P g vals.toArray w (Two Φ Ψ)) (hf : P.funcs[f]? = some fn) (hp : ∀ ch w', Ψ ch w' → R (.panicked ch) w') (h : ∀ v w', Φ v w' → K (updo ρ dst v) w') :
    St1 P f ⟨m, []⟩ R k ⟨dst, .call { callee := .value (.func g), args := ol.toArray, argTypes := ts }, ty, pos, af, none⟩ ρ w K := by
  refine St1.enterP (g := g) (vals := vals.toArray) ?_ hc hf hp h
  simp [execOp, resolve, rd, Deferred.ofValue, invoke, ha, he vals.toArray w]
end
theorem dies_two {P : Program} {g : FuncId} {vals : Array Value} {w : World} {Ψ : List PanicEntry → World → Prop} (h : Calls P g vals w fun e w' => ∃ ch, e = .panicked ch ∧ Ψ ch w') : Calls P g vals w (Two (fun _ _ => False) Ψ) :=
  h.mono fun _ _ h => .inr h
theorem ret_two {P : Program} {g : FuncId} {vals : Array Value} {w : World} {Φ : Value → World → Prop} {Ψ : List PanicEntry → World → Prop} (h : Calls P g vals w (Ret Φ)) : Calls P g vals w (Two Φ Ψ) :=
  h.mono fun _ _ h => .inl h
end Go.Proofs.YtnphndfbgdkgbaaGreatDoor
