/-
  The seat's own things as cells.
-/
import Derived.Test.YtlediffjclploaaRows
import Derived.Test.YtlediffjclploaaDraw
import Derived.Test.YtlediffjclploaaPlain
namespace Go.Proofs.Ytlediffjclploaa
attribute [local irreducible] St1 RL RA RT Run

/-- a target -/
structure Target where
  node : Int
  owner : Int
theorem Target.ext' {a b : Target} (h1 : a.node = b.node) (h2 : a.owner = b.owner) : a = b := by cases a; cases b; simp_all
instance : DecidableEq Target := fun a b => if h : a.node = b.node ∧ a.owner = b.owner then isTrue (Target.ext' h.1 h.2) else isFalse (fun e => h (by subst e; exact ⟨rfl, rfl⟩))
instance : Enc Target := Enc.struct (fun t => [.int .i64 t.node, .int .i64 t.owner]) 2 (fun _ => rfl) (fun _ v hv => by simp at hv; rcases hv with rfl | rfl <;> rfl) (by decide)
theorem tyI : Ty Try.prog 3 1 8 (.int .i64 0) false := ty_of (by kernel_rfl) (by kernel_rfl)
theorem eq_Target (a b : Target) (w : World) : (Op.equalIn 10000 28 (.agg #[.int .i64 a.node, .int .i64 a.owner]) (.agg #[.int .i64 b.node, .int .i64 b.owner])).run Try.prog w = .ok (decide (a = b)) w := by
  have h := run_equalIn_struct (P := Try.prog) w 9999 28 #[.int .i64 a.node, .int .i64 a.owner] #[.int .i64 b.node, .int .i64 b.owner] Try.underlying28 (by kernel_rfl)
  have h2 := run_eqFields_cons (P := Try.prog) (d := 9999) (xs := #[.int .i64 a.node, .int .i64 a.owner]) (ys := #[.int .i64 b.node, .int .i64 b.owner]) (fd := (Try.prog.fieldsOf 28).toList[0]) (fs := [(Try.prog.fieldsOf 28).toList[1]])
    (r := a.node == b.node) (by kernel_rfl) (run_part tyI rfl) (run_part tyI rfl) (fun w => run_equalIn_int w 9998 3 .i64 .i64 a.node b.node Try.underlying3)
    (run_eqFields_cons (r := a.owner == b.owner) (by kernel_rfl) (run_part tyI rfl) (run_part tyI rfl) (fun w => run_equalIn_int w 9998 3 .i64 .i64 a.owner b.owner Try.underlying3) (run_eqFields_nil 9999 _ _)) w
  refine h.trans (h2.trans ?_)
  congr 1
  rw [Bool.eq_iff_iff]
  simp only [Bool.and_eq_true, beq_iff_eq, and_true, decide_eq_true_eq]
  exact ⟨fun h => Target.ext' h.1 h.2, fun h => by subst h; exact ⟨rfl, rfl⟩⟩

/-! ### who is asked -/
def isN (x : Int) (t : Target) : Bool := t.node == x
def fits (owners up : List Int) (out : List Target) (n : Int) : Bool := up.any (n == ·) && !owners.any (n == ·) && !out.any (isN n)
def cStep (owners walk up : List Int) (out : List Target) (o : Int) : List Target :=
  if up.any (o == ·) then out ++ [⟨o, -1⟩] else
  match walk.find? (fits owners up out) with
  | some n => out ++ [⟨n, o⟩]
  | none => out
def chL (owners walk up : List Int) (i : Nat) : List Target := (owners.take i).foldl (cStep owners walk up) []
def choose17 (owners walk up : List Int) : List Target := chL owners walk up owners.length
theorem chL_zero (owners walk up : List Int) : chL owners walk up 0 = [] := by simp [chL]
theorem chL_succ (owners walk up : List Int) (i : Nat) (h : i < owners.length) : chL owners walk up (i + 1) = cStep owners walk up (chL owners walk up i) owners[i] := by
  simp only [chL, List.take_succ_eq_append_getElem h, List.foldl_append, List.foldl_cons, List.foldl_nil]
theorem cStep_le (owners walk up : List Int) (out : List Target) (o : Int) : (cStep owners walk up out o).length ≤ out.length + 1 := by
  unfold cStep
  split
  · simp
  · split <;> simp
theorem chL_le (owners walk up : List Int) (i : Nat) (h : i ≤ owners.length) : (chL owners walk up i).length ≤ i := by
  induction i with
  | zero => simp [chL]
  | succ i ih =>
    rw [chL_succ _ _ _ _ (by omega)]
    have h1 := cStep_le owners walk up (chL owners walk up i) owners[i]
    have h2 := ih (by omega)
    omega
theorem choose17_le (owners walk up : List Int) : (choose17 owners walk up).length ≤ owners.length := chL_le _ _ _ _ (Nat.le_refl _)
theorem chL_step {owners walk up : List Int} {i : Nat} {o : Int} (h : owners[i]? = some o) : chL owners walk up (i + 1) = cStep owners walk up (chL owners walk up i) o := by
  obtain ⟨hi, rfl⟩ := List.getElem?_eq_some_iff.1 h
  exact chL_succ _ _ _ _ hi
theorem chL_in {owners walk up : List Int} {i : Nat} {o : Int} (h : owners[i]? = some o) (hu : up.any (o == ·) = true) : chL owners walk up (i + 1) = chL owners walk up i ++ [⟨o, -1⟩] := by
  rw [chL_step h, cStep, if_pos hu]
theorem chL_at {owners walk up : List Int} {i k : Nat} {o n : Int} (h : owners[i]? = some o) (hu : up.any (o == ·) = false) (hn : walk[k]? = some n) (hp : fits owners up (chL owners walk up i) n = true)
    (hno : NoB (fits owners up (chL owners walk up i)) walk k) : chL owners walk up (i + 1) = chL owners walk up i ++ [⟨n, o⟩] := by
  rw [chL_step h, cStep, if_neg (by rw [hu]; simp), find_at hn hp hno]
theorem chL_no {owners walk up : List Int} {i k : Nat} {o : Int} (h : owners[i]? = some o) (hu : up.any (o == ·) = false)
    (hno : NoB (fits owners up (chL owners walk up i)) walk k) (hk : walk.length ≤ k) : chL owners walk up (i + 1) = chL owners walk up i := by
  rw [chL_step h, cStep, if_neg (by rw [hu]; simp), find_no hno hk]




end Go.Proofs.Ytlediffjclploaa
