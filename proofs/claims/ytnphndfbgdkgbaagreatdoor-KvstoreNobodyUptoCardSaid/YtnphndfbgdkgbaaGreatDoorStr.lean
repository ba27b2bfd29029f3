/-
  Strings out of bytes, in this seat's walks.
-/
import Derived.Test.YtnphndfbgdkgbaaGreatDoorLoop
import Derived.Laws.IdiomStrings
import Derived.Sort.Walk0
import Derived.Sort.KeysCollected
import Derived.Laws.BitsAllLaws
namespace Go.Proofs.YtnphndfbgdkgbaaGreatDoor
section
variable {P : Program} {n : FN} {ρ : Regs} {w : World} {dst : Option Nat} {ty : TypeId} {pos : String} {af : Array Edge} {g : Option (Nat × Bool)}
theorem x_strOf {s d e : TypeId} {x : Operand} {a : Option Addr} {c : Nat} {xs : List UInt8} (hs : P.underlying s = some (.slice e)) (he : P.underlying e = some (.int .u8)) (hd : P.underlying d = some .string)
    (hx : rd n ρ x = .slice a xs.length c) (h : SlOf w a xs) : X P n ρ ⟨dst, .convert s d x, ty, pos, af, g⟩ w (.string ⟨xs.toArray⟩) w := by
  have hr : (convert s d (.slice a xs.length c)).run P w = .ok (.string ⟨xs.toArray⟩) w := by
    cases a with
    | none =>
      have := h.nil_of rfl
      subst this
      rw [run_convert_bytes_string w s d e none _ c hs he hd]
      simp [Conv.bytesToString, Sem.run_pure]
      rfl
    | some ad =>
      refine run_convert_bytes_back w s d e ad c xs hs he hd fun j hj => ?_
      rcases h with rfl | ⟨b, o, ha, hc⟩
      · simp at hj
      · simp only [Option.some.injEq] at ha
        subst ha
        rw [Addr.add_lit]
        refine hc.cell ?_
        rw [flat_bytes, List.getElem?_map, List.getElem?_eq_getElem hj]
        rfl
  simp only [X, execOp, hx, Sem.run_bind, hr, Result.andThen_ok, Sem.run_pure]
theorem x_ltS {t t' : TypeId} {x y : Operand} {a b : ByteArray} (hx : rd n ρ x = .string a) (hy : rd n ρ y = .string b) : X P n ρ ⟨dst, .binOp .lss t x y t', ty, pos, af, g⟩ w (.bool (decide (a.data.toList < b.data.toList))) w := by
  simp [X, execOp, hx, hy, eqGuard, binOp, Op.stringOp, bytesLess_eq, ByteArray.toList_eq]
theorem x_addS {t t' : TypeId} {x y : Operand} {a b : ByteArray} (hx : rd n ρ x = .string a) (hy : rd n ρ y = .string b) (hs : a.size + b.size ≤ 9223372036854775807) : X P n ρ ⟨dst, .binOp .add t x y t', ty, pos, af, g⟩ w (.string (a ++ b)) w := by
  have e : IntKind.i64.max = 9223372036854775807 := rfl
  have h : ¬ ((a.size + b.size : Nat) : Int) > IntKind.i64.max := by rw [e]; omega
  have h2 : ¬ (IntKind.i64.max < (a.size : Int) + (b.size : Int)) := by rw [e]; omega
  simp [X, execOp, hx, hy, eqGuard, binOp, Op.stringOp, h2]
  omega
theorem x_xorB {t t' : TypeId} {x y : Operand} {c : UInt8} {m : Nat} (hx : rd n ρ x = .int .u8 (c.toNat : Int)) (hy : rd n ρ y = .int .u8 (m : Int)) (hm : m < 256) : X P n ρ ⟨dst, .binOp .xor t x y t', ty, pos, af, g⟩ w (.int .u8 ((c ^^^ UInt8.ofNat m).toNat : Int)) w := by
  have h1 : c.toNat < 256 := c.toNat_lt
  have h2 := Go.u8_xor_nat c.toNat m h1 hm
  have h3 : (c ^^^ UInt8.ofNat m).toNat = c.toNat ^^^ m := by
    rw [UInt8.toNat_xor, UInt8.toNat_ofNat_of_lt' (by simp [UInt8.size]; omega)]
  rw [h3, ← h2]
  simp [X, execOp, hx, hy, eqGuard, binOp]
  rfl
theorem x_slStrTo {t : TypeId} {x hi : Operand} {s : ByteArray} {kd : IntKind} {j : Nat} (ht : P.underlying t = some .string) (hx : rd n ρ x = .string s) (hj : rd n ρ hi = .int kd (j : Int)) (h : j ≤ s.size) :
    X P n ρ ⟨dst, .slice t x none (some hi) none, ty, pos, af, g⟩ w (.string (s.extract 0 j)) w := by
  have hb : (Instr.sliceBounds false s.size s.size none (some (.int kd (j : Int))) none).run P w = .ok (0, j, s.size) w := by simp [Instr.sliceBounds, Instr.sliceBound, asIntOf, h]
  simp only [X, execOp, hx, Instr.sliceAt, Sem.run_bind, run_underlying ht, Result.andThen_ok, Instr.slice, Option.map_none, Option.map_some, hj, Option.isSome_none, Bool.false_eq_true, if_false, hb, Sem.run_pure]
theorem x_slStrFrom {t : TypeId} {x lo : Operand} {s : ByteArray} {kd : IntKind} {i : Nat} (ht : P.underlying t = some .string) (hx : rd n ρ x = .string s) (hi : rd n ρ lo = .int kd (i : Int)) (h : i ≤ s.size) :
    X P n ρ ⟨dst, .slice t x (some lo) none none, ty, pos, af, g⟩ w (.string (s.extract i s.size)) w := by
  have hb : (Instr.sliceBounds false s.size s.size (some (.int kd (i : Int))) none none).run P w = .ok (i, s.size, s.size) w := by simp [Instr.sliceBounds, Instr.sliceBound, asIntOf, h]
  simp only [X, execOp, hx, Instr.sliceAt, Sem.run_bind, run_underlying ht, Result.andThen_ok, Instr.slice, Option.map_none, Option.map_some, hi, Option.isSome_none, Bool.false_eq_true, if_false, hb, Sem.run_pure]
theorem str_inj {xs ys : List UInt8} : ((⟨xs.toArray⟩ : ByteArray) = ⟨ys.toArray⟩) ↔ xs = ys := by
  constructor
  · intro h; simpa using h
  · rintro rfl; rfl
end
end Go.Proofs.YtnphndfbgdkgbaaGreatDoor
