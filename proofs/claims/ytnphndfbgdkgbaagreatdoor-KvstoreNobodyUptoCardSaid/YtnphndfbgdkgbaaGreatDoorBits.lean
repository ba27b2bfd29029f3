/-
  Bits of numbers that are not negative; shifts by a number of bits; over any program.
-/
import Derived.Test.YtnphndfbgdkgbaaGreatDoorSteps
import Derived.Laws.BitsAllLaws
import Derived.Laws.Unary
namespace Go.Proofs.YtnphndfbgdkgbaaGreatDoor

/-- what a kind holds: numbers below this -/
def KM : IntKind → Nat
  | .i8 => 2 ^ 7 | .i16 => 2 ^ 15 | .i32 => 2 ^ 31 | .i64 => 2 ^ 63 | .u8 => 2 ^ 8 | .u16 => 2 ^ 16 | .u32 => 2 ^ 32 | .u64 => 2 ^ 64
def KB : IntKind → Nat
  | .i8 => 7 | .i16 => 15 | .i32 => 31 | .i64 => 63 | .u8 => 8 | .u16 => 16 | .u32 => 32 | .u64 => 64
theorem KM_eq (kd : IntKind) : KM kd = 2 ^ KB kd := by cases kd <;> rfl
theorem KB_le (kd : IntKind) : KB kd ≤ kd.bits := by cases kd <;> decide
theorem wrapN (kd : IntKind) (r : Nat) (h : r < KM kd) : kd.wrap ((r : Nat) : Int) = ((r : Nat) : Int) := by
  cases kd <;> simp only [KM] at h <;> simp [IntKind.wrap, IntKind.bits, IntKind.signed] <;> omega
theorem ofIntN (kd : IntKind) (a : Nat) (h : a < KM kd) : (BitVec.ofInt kd.bits ((a : Nat) : Int)).toNat = a := by
  have h2 : a < 2 ^ kd.bits := Nat.lt_of_lt_of_le (by rw [← KM_eq]; exact h) (Nat.pow_le_pow_right (by decide) (KB_le kd))
  simp only [BitVec.toNat_ofInt]
  have : ((a : Nat) : Int) % ((2 ^ kd.bits : Nat) : Int) = ((a : Nat) : Int) := Int.emod_eq_of_lt (by omega) (by exact_mod_cast h2)
  rw [this]; rfl
theorem bitsAnd (kd : IntKind) (a b : Nat) (ha : a < KM kd) (hb : b < KM kd) : bits .and kd (a : Int) (b : Int) = ((a &&& b : Nat) : Int) := by
  show kd.wrap ((BitVec.ofInt kd.bits (a : Int) &&& BitVec.ofInt kd.bits (b : Int)).toNat : Int) = _
  rw [BitVec.toNat_and, ofIntN kd a ha, ofIntN kd b hb]
  exact wrapN kd _ (by rw [KM_eq] at *; exact Nat.and_lt_two_pow _ hb)
theorem bitsOr (kd : IntKind) (a b : Nat) (ha : a < KM kd) (hb : b < KM kd) : bits .or kd (a : Int) (b : Int) = ((a ||| b : Nat) : Int) := by
  show kd.wrap ((BitVec.ofInt kd.bits (a : Int) ||| BitVec.ofInt kd.bits (b : Int)).toNat : Int) = _
  rw [BitVec.toNat_or, ofIntN kd a ha, ofIntN kd b hb]
  exact wrapN kd _ (by rw [KM_eq] at *; exact Nat.or_lt_two_pow ha hb)
theorem bitsXor (kd : IntKind) (a b : Nat) (ha : a < KM kd) (hb : b < KM kd) : bits .xor kd (a : Int) (b : Int) = ((a ^^^ b : Nat) : Int) := by
  show kd.wrap ((BitVec.ofInt kd.bits (a : Int) ^^^ BitVec.ofInt kd.bits (b : Int)).toNat : Int) = _
  rw [BitVec.toNat_xor, ofIntN kd a ha, ofIntN kd b hb]
  exact wrapN kd _ (by rw [KM_eq] at *; exact Nat.xor_lt_two_pow ha hb)

section
variable {P : Program} {n : FN} {ρ : Regs} {w : World}
variable {dst : Option Nat} {ty : TypeId} {pos : String} {af : Array Edge} {g : Option (Nat × Bool)}
variable {t t' : TypeId} {x y : Operand} {kd kd' : IntKind} {a b : Nat}
theorem x_andN (hx : rd n ρ x = .int kd ((a : Nat) : Int)) (hy : rd n ρ y = .int kd ((b : Nat) : Int)) (ha : a < KM kd) (hb : b < KM kd) :
    X P n ρ ⟨dst, .binOp .and t x y t', ty, pos, af, g⟩ w (.int kd ((a &&& b : Nat) : Int)) w := by
  simp [X, execOp, hx, hy, eqGuard, binOp, intBits_and, intBits_or, intBits_xor, bitsAnd kd a b ha hb]
/-- the last bits -/
theorem x_andM (hx : rd n ρ x = .int kd ((a : Nat) : Int)) (hy : rd n ρ y = .int kd ((b : Nat) : Int)) (j : Nat) (hj : b = 2 ^ j - 1) (ha : a < KM kd) (hb : b < KM kd) :
    X P n ρ ⟨dst, .binOp .and t x y t', ty, pos, af, g⟩ w (.int kd ((a % 2 ^ j : Nat) : Int)) w := by
  have := x_andN (P := P) (w := w) (dst := dst) (ty := ty) (pos := pos) (af := af) (g := g) (t := t) (t' := t') hx hy ha hb
  rwa [hj, Nat.and_two_pow_sub_one_eq_mod] at this
theorem x_orN (hx : rd n ρ x = .int kd ((a : Nat) : Int)) (hy : rd n ρ y = .int kd ((b : Nat) : Int)) (ha : a < KM kd) (hb : b < KM kd) :
    X P n ρ ⟨dst, .binOp .or t x y t', ty, pos, af, g⟩ w (.int kd ((a ||| b : Nat) : Int)) w := by
  simp [X, execOp, hx, hy, eqGuard, binOp, intBits_and, intBits_or, intBits_xor, bitsOr kd a b ha hb]
theorem x_xorN (hx : rd n ρ x = .int kd ((a : Nat) : Int)) (hy : rd n ρ y = .int kd ((b : Nat) : Int)) (ha : a < KM kd) (hb : b < KM kd) :
    X P n ρ ⟨dst, .binOp .xor t x y t', ty, pos, af, g⟩ w (.int kd ((a ^^^ b : Nat) : Int)) w := by
  simp [X, execOp, hx, hy, eqGuard, binOp, intBits_and, intBits_or, intBits_xor, bitsXor kd a b ha hb]
theorem x_shrN (hx : rd n ρ x = .int kd ((a : Nat) : Int)) (hy : rd n ρ y = .int kd' ((b : Nat) : Int)) (hb : b ≤ kd.bits) :
    X P n ρ ⟨dst, .binOp .shr t x y t', ty, pos, af, g⟩ w (.int kd ((a / 2 ^ b : Nat) : Int)) w := by
  have e : ((a : Nat) : Int) / 2 ^ b = ((a / 2 ^ b : Nat) : Int) := by push_cast; rfl
  have h := shift_shr kd kd' (a : Int) (b : Int) (by omega) (by omega)
  rw [Int.toNat_natCast, e] at h
  simp [X, execOp, hx, hy, eqGuard, binOp, h]
theorem x_shlN (hx : rd n ρ x = .int kd ((a : Nat) : Int)) (hy : rd n ρ y = .int kd' ((b : Nat) : Int)) (hb : b ≤ kd.bits) (h : a * 2 ^ b < KM kd) :
    X P n ρ ⟨dst, .binOp .shl t x y t', ty, pos, af, g⟩ w (.int kd ((a * 2 ^ b : Nat) : Int)) w := by
  have e : kd.wrap (((a : Nat) : Int) * 2 ^ b) = ((a * 2 ^ b : Nat) : Int) := by
    have := wrapN kd (a * 2 ^ b) h
    push_cast at this ⊢
    exact this
  have h := shift_shl kd kd' (a : Int) (b : Int) (by omega) (by omega)
  rw [Int.toNat_natCast, e] at h
  simp [X, execOp, hx, hy, eqGuard, binOp, h]
theorem x_andL (hx : rd n ρ x = .int kd ((a : Nat) : Int)) (hy : rd n ρ y = .int kd ((b : Nat) : Int)) (j m : Nat) (hj : b = 2 ^ j - 1) (hm : m = 2 ^ j) (ha : a < KM kd) (hb : b < KM kd) :
    X P n ρ ⟨dst, .binOp .and t x y t', ty, pos, af, g⟩ w (.int kd ((a % m : Nat) : Int)) w := by subst hm; exact x_andM hx hy j hj ha hb
theorem x_shrL (m : Nat) (hm : m = 2 ^ b) (hx : rd n ρ x = .int kd ((a : Nat) : Int)) (hy : rd n ρ y = .int kd' ((b : Nat) : Int)) (hb : b ≤ kd.bits) :
    X P n ρ ⟨dst, .binOp .shr t x y t', ty, pos, af, g⟩ w (.int kd ((a / m : Nat) : Int)) w := by subst hm; exact x_shrN hx hy hb
theorem x_shlL (m : Nat) (hm : m = 2 ^ b) (hx : rd n ρ x = .int kd ((a : Nat) : Int)) (hy : rd n ρ y = .int kd' ((b : Nat) : Int)) (hb : b ≤ kd.bits) (h : a * m < KM kd) :
    X P n ρ ⟨dst, .binOp .shl t x y t', ty, pos, af, g⟩ w (.int kd ((a * m : Nat) : Int)) w := by subst hm; exact x_shlN hx hy hb h
/-- the complement, of a kind without sign -/
theorem x_complN {m : Nat} (hx : rd n ρ x = .int kd ((a : Nat) : Int)) (hs : kd.signed = false) (hm : kd.max = ((m : Nat) : Int)) (hmk : m < KM kd) (ha : a < KM kd) :
    X P n ρ ⟨dst, .unOp .xor t x, ty, pos, af, g⟩ w (.int kd ((m ^^^ a : Nat) : Int)) w := by
  simp [X, execOp, hx, unary_xor, intBits_xor, hs, hm, bitsXor kd m a hmk ha]
theorem x_convN {d : TypeId} {kx : IntKind} (hx : rd n ρ x = .int kx ((a : Nat) : Int)) (hs : ∃ u, P.underlying t = some u) (hd : P.underlying d = some (.int kd)) (ha : a < KM kd) :
    X P n ρ ⟨dst, .convert t d x, ty, pos, af, g⟩ w (.int kd ((a : Nat) : Int)) w := by
  have := x_convI (P := P) (w := w) (dst := dst) (ty := ty) (pos := pos) (af := af) (g := g) hx hs hd
  rwa [wrapN kd a ha] at this
theorem x_convB {d : TypeId} {kx : IntKind} (hx : rd n ρ x = .int kx ((a : Nat) : Int)) (hs : ∃ u, P.underlying t = some u) (hd : P.underlying d = some (.int .u8)) :
    X P n ρ ⟨dst, .convert t d x, ty, pos, af, g⟩ w (.int .u8 (((UInt8.ofNat a).toNat : Nat) : Int)) w := by
  have := x_convI (P := P) (w := w) (dst := dst) (ty := ty) (pos := pos) (af := af) (g := g) hx hs hd
  have e : IntKind.u8.wrap ((a : Nat) : Int) = (((UInt8.ofNat a).toNat : Nat) : Int) := by
    rw [UInt8.toNat_ofNat']
    simp [IntKind.wrap, IntKind.bits, IntKind.signed]
  rwa [e] at this
end
theorem tmodN (a b : Nat) : Int.tmod ((a : Nat) : Int) ((b : Nat) : Int) = ((a % b : Nat) : Int) := by rw [Int.tmod_eq_emod_of_nonneg (by omega)]; push_cast; rfl
theorem tdivN (kd : IntKind) (a b : Nat) (h : a < KM kd) : kd.wrap (Int.tdiv ((a : Nat) : Int) ((b : Nat) : Int)) = ((a / b : Nat) : Int) := by
  have e : Int.tdiv ((a : Nat) : Int) ((b : Nat) : Int) = ((a / b : Nat) : Int) := by rw [Int.tdiv_eq_ediv_of_nonneg (by omega)]; push_cast; rfl
  rw [e]
  exact wrapN kd _ (Nat.lt_of_le_of_lt (Nat.div_le_self a b) h)
theorem byte_or128 (m : Nat) : (UInt8.ofNat m).toNat ||| 128 = (UInt8.ofNat (m % 128 + 128)).toNat := by
  rw [UInt8.toNat_ofNat', UInt8.toNat_ofNat']
  have h : ∀ k : Nat, k < 256 → k ||| 128 = k % 128 + 128 := by decide +kernel
  rw [h _ (by omega)]
  omega
/-! numbers put together of parts -/
theorem or_parts (a b k : Nat) (h : a < 2 ^ k) : a ||| (b * 2 ^ k) = a + b * 2 ^ k := by
  have := Nat.two_pow_add_eq_or_of_lt h b
  rw [Nat.or_comm, Nat.mul_comm, ← this]; omega
end Go.Proofs.YtnphndfbgdkgbaaGreatDoor
