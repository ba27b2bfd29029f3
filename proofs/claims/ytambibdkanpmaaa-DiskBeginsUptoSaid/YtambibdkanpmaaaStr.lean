/-
  Strings out of bytes, in this seat's walks.
-/
import Derived.Test.YtambibdkanpmaaaLoop
import Derived.Laws.IdiomStrings
namespace Go.Proofs.Ytambibdkanpmaaa
section
variable {P : Program} {n : Nat} {ρ : Regs} {w : World} {dst : Option Nat} {ty : TypeId} {pos : String} {af : Array Edge} {g : Option (Nat × Bool)}
theorem x_strOf {s d e : TypeId} {x : Operand} {a : Option Addr} {c : Nat} {xs : List UInt8} (hs : P.underlying s = some (.slice e)) (he : P.underlying e = some (.int .u8)) (hd : P.underlying d = some .string)
    (hx : rd n ρ x = .slice a xs.length c) (h : SlOf w a xs) : X P n ρ ⟨dst, .convert s d x, ty, pos, af, g⟩ w (.string ⟨xs.toArray⟩) w := by
  have hr : (convert s d (.slice a xs.length c)).run P w = .ok (.string ⟨xs.toArray⟩) w := by
    cases a with
    | none =>
      have := h.nil_of rfl
      subst this
      rw [run_convert_bytes_string w s d e none _ c hs he hd]
      simp [Conv.bytesToString, Sem.run_pure]
      rfl
    | some ad =>
      refine run_convert_bytes_back w s d e ad c xs hs he hd fun j hj => ?_
      rcases h with rfl | ⟨b, o, ha, hc⟩
      · simp at hj
      · simp only [Option.some.injEq] at ha
        subst ha
        rw [Addr.add_lit]
        refine hc.cell ?_
        rw [flat_bytes, List.getElem?_map, List.getElem?_eq_getElem hj]
        rfl
  simp only [X, execOp, hx, Sem.run_bind, hr, Result.andThen_ok, Sem.run_pure]
theorem str_inj {xs ys : List UInt8} : ((⟨xs.toArray⟩ : ByteArray) = ⟨ys.toArray⟩) ↔ xs = ys := by
  constructor
  · intro h; simpa using h
  · rintro rfl; rfl
end
end Go.Proofs.Ytambibdkanpmaaa
