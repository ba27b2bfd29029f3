/-
  The seat's own things as cells.
-/
import Derived.Test.YtlediffjclploaaRows
import Derived.Test.YtlediffjclploaaDraw
import Derived.Test.YtlediffjclploaaPlain
namespace Go.Proofs.Ytlediffjclploaa
attribute [local irreducible] St1 RL RA RT Run

/-- a target -/
structure Target where
  node : Int
  owner : Int
theorem Target.ext' {a b : Target} (h1 : a.node = b.node) (h2 : a.owner = b.owner) : a = b := by cases a; cases b; simp_all
instance : DecidableEq Target := fun a b => if h : a.node = b.node ∧ a.owner = b.owner then isTrue (Target.ext' h.1 h.2) else isFalse (fun e => h (by subst e; exact ⟨rfl, rfl⟩))
instance : Enc Target := Enc.struct (fun t => [.int .i64 t.node, .int .i64 t.owner]) 2 (fun _ => rfl) (fun _ v hv => by simp at hv; rcases hv with rfl | rfl <;> rfl) (by decide)
theorem tyI : Ty Try.prog 3 1 8 (.int .i64 0) false := ty_of (by kernel_rfl) (by kernel_rfl)
theorem eq_Target (a b : Target) (w : World) : (Op.equalIn 10000 28 (.agg #[.int .i64 a.node, .int .i64 a.owner]) (.agg #[.int .i64 b.node, .int .i64 b.owner])).run Try.prog w = .ok (decide (a = b)) w := by
  have h := run_equalIn_struct (P := Try.prog) w 9999 28 #[.int .i64 a.node, .int .i64 a.owner] #[.int .i64 b.node, .int .i64 b.owner] Try.underlying28 (by kernel_rfl)
  have h2 := run_eqFields_cons (P := Try.prog) (d := 9999) (xs := #[.int .i64 a.node, .int .i64 a.owner]) (ys := #[.int .i64 b.node, .int .i64 b.owner]) (fd := (Try.prog.fieldsOf 28).toList[0]) (fs := [(Try.prog.fieldsOf 28).toList[1]])
    (r := a.node == b.node) (by kernel_rfl) (run_part tyI rfl) (run_part tyI rfl) (fun w => run_equalIn_int w 9998 3 .i64 .i64 a.node b.node Try.underlying3)
    (run_eqFields_cons (r := a.owner == b.owner) (by kernel_rfl) (run_part tyI rfl) (run_part tyI rfl) (fun w => run_equalIn_int w 9998 3 .i64 .i64 a.owner b.owner Try.underlying3) (run_eqFields_nil 9999 _ _)) w
  refine h.trans (h2.trans ?_)
  congr 1
  rw [Bool.eq_iff_iff]
  simp only [Bool.and_eq_true, beq_iff_eq, and_true, decide_eq_true_eq]
  exact ⟨fun h => Target.ext' h.1 h.2, fun h => by subst h; exact ⟨rfl, rfl⟩⟩

/-! ### who is asked -/
def isN (x : Int) (t : Target) : Bool := t.node == x
def fits (owners up : List Int) (out : List Target) (n : Int) : Bool := up.any (n == ·) && !owners.any (n == ·) && !out.any (isN n)
def cStep (owners walk up : List Int) (out : List Target) (o : Int) : List Target :=
  if up.any (o == ·) then out ++ [⟨o, -1⟩] else
  match walk.find? (fits owners up out) with
  | some n => out ++ [⟨n, o⟩]
  | none => out
def chL (owners walk up : List Int) (i : Nat) : List Target := (owners.take i).foldl (cStep owners walk up) []
def choose17 (owners walk up : List Int) : List Target := chL owners walk up owners.length
theorem chL_zero (owners walk up : List Int) : chL owners walk up 0 = [] := by simp [chL]
theorem chL_succ (owners walk up : List Int) (i : Nat) (h : i < owners.length) : chL owners walk up (i + 1) = cStep owners walk up (chL owners walk up i) owners[i] := by
  simp only [chL, List.take_succ_eq_append_getElem h, List.foldl_append, List.foldl_cons, List.foldl_nil]
theorem cStep_le (owners walk up : List Int) (out : List Target) (o : Int) : (cStep owners walk up out o).length ≤ out.length + 1 := by
  unfold cStep
  split
  · simp
  · split <;> simp
theorem chL_le (owners walk up : List Int) (i : Nat) (h : i ≤ owners.length) : (chL owners walk up i).length ≤ i := by
  induction i with
  | zero => simp [chL]
  | succ i ih =>
    rw [chL_succ _ _ _ _ (by omega)]
    have h1 := cStep_le owners walk up (chL owners walk up i) owners[i]
    have h2 := ih (by omega)
    omega
theorem choose17_le (owners walk up : List Int) : (choose17 owners walk up).length ≤ owners.length := chL_le _ _ _ _ (Nat.le_refl _)
theorem chL_step {owners walk up : List Int} {i : Nat} {o : Int} (h : owners[i]? = some o) : chL owners walk up (i + 1) = cStep owners walk up (chL owners walk up i) o := by
  obtain ⟨hi, rfl⟩ := List.getElem?_eq_some_iff.1 h
  exact chL_succ _ _ _ _ hi
theorem chL_in {owners walk up : List Int} {i : Nat} {o : Int} (h : owners[i]? = some o) (hu : up.any (o == ·) = true) : chL owners walk up (i + 1) = chL owners walk up i ++ [⟨o, -1⟩] := by
  rw [chL_step h, cStep, if_pos hu]
theorem chL_at {owners walk up : List Int} {i k : Nat} {o n : Int} (h : owners[i]? = some o) (hu : up.any (o == ·) = false) (hn : walk[k]? = some n) (hp : fits owners up (chL owners walk up i) n = true)
    (hno : NoB (fits owners up (chL owners walk up i)) walk k) : chL owners walk up (i + 1) = chL owners walk up i ++ [⟨n, o⟩] := by
  rw [chL_step h, cStep, if_neg (by rw [hu]; simp), find_at hn hp hno]
theorem chL_no {owners walk up : List Int} {i k : Nat} {o : Int} (h : owners[i]? = some o) (hu : up.any (o == ·) = false)
    (hno : NoB (fits owners up (chL owners walk up i)) walk k) (hk : walk.length ≤ k) : chL owners walk up (i + 1) = chL owners walk up i := by
  rw [chL_step h, cStep, if_neg (by rw [hu]; simp), find_no hno hk]

/-! ### what is chosen -/
def ownS (l : List Int) (n : Int) : List Int := if !l.any (n == ·) && decide (0 ≤ n) then l ++ [n] else l
def ownL (owners : List Int) (i : Nat) : List Int := (owners.take i).foldl ownS []
theorem ownL_zero (owners : List Int) : ownL owners 0 = [] := by simp [ownL]
theorem ownL_step {owners : List Int} {i : Nat} {o : Int} (h : owners[i]? = some o) : ownL owners (i + 1) = ownS (ownL owners i) o := by
  obtain ⟨hi, rfl⟩ := List.getElem?_eq_some_iff.1 h
  simp only [ownL, List.take_succ_eq_append_getElem hi, List.foldl_append, List.foldl_cons, List.foldl_nil]
theorem any_iff (l : List Int) (n : Int) : l.any (n == ·) = true ↔ n ∈ l := by rw [any_mem]; simp
theorem any_iff' (l : List Int) (n : Int) : l.any (n == ·) = false ↔ ¬ n ∈ l := by rw [any_mem]; simp
theorem foldl_ownS (os : List Int) : ∀ l : List Int, l.Nodup → (∀ x ∈ l, 0 ≤ x) → (os.foldl ownS l).Nodup ∧ (∀ x ∈ os.foldl ownS l, 0 ≤ x) ∧ (os.foldl ownS l).length ≤ l.length + os.length := by
  induction os with
  | nil => intro l h1 h2; exact ⟨h1, h2, by simp⟩
  | cons o os ih =>
    intro l h1 h2
    have h3 : (ownS l o).Nodup ∧ (∀ x ∈ ownS l o, 0 ≤ x) ∧ (ownS l o).length ≤ l.length + 1 := by
      unfold ownS
      split
      · rename_i hc
        simp only [Bool.and_eq_true, Bool.not_eq_true', decide_eq_true_eq] at hc
        have hno := (any_iff' l o).1 hc.1
        refine ⟨?_, ?_, by simp⟩
        · rw [List.nodup_append]
          refine ⟨h1, by simp, ?_⟩
          intro a ha b hb
          simp at hb
          subst hb
          intro e; subst e; exact hno ha
        · intro x hx
          simp only [List.mem_append, List.mem_singleton] at hx
          rcases hx with hx | rfl
          · exact h2 x hx
          · exact hc.2
      · exact ⟨h1, h2, by omega⟩
    obtain ⟨h4, h5, h6⟩ := ih (ownS l o) h3.1 h3.2.1
    refine ⟨h4, h5, ?_⟩
    have := h3.2.2
    simp only [List.foldl_cons, List.length_cons]
    omega
theorem ownL_good (owners : List Int) (i : Nat) : (ownL owners i).Nodup ∧ (∀ x ∈ ownL owners i, 0 ≤ x) ∧ (ownL owners i).length ≤ i := by
  obtain ⟨h1, h2, h3⟩ := foldl_ownS (owners.take i) [] List.nodup_nil (by simp)
  refine ⟨h1, h2, ?_⟩
  have : (owners.take i).length ≤ i := List.length_take_le _ _
  simp only [List.length_nil] at h3
  unfold ownL
  omega
/-- what each one chosen is: an owner for itself, or another one in an owner's place -/
def Ok17 (own up : List Int) (i : Nat) (t : Target) : Prop := t.node ∈ up ∧ ((t.owner = -1 ∧ t.node ∈ own.take i) ∨ (¬ t.node ∈ own ∧ t.owner ∈ own.take i))
theorem chL_ok (own walk up : List Int) (hn : own.Nodup) (hp : ∀ x ∈ own, 0 ≤ x) : ∀ i, i ≤ own.length → (∀ t ∈ chL own walk up i, Ok17 own up i t) ∧ (chL own walk up i).Pairwise (fun x t => ¬ x.node = t.node ∧ ¬ (0 ≤ t.owner ∧ x.owner = t.owner)) := by
  intro i
  induction i with
  | zero => intro _; simp [chL]
  | succ i ih =>
    intro hi
    obtain ⟨h1, h2⟩ := ih (by omega)
    have hlt : i < own.length := by omega
    have hup : ∀ t, Ok17 own up i t → Ok17 own up (i + 1) t := by
      rintro t ⟨ha, hb⟩
      refine ⟨ha, ?_⟩
      rw [List.take_succ_eq_append_getElem hlt]
      rcases hb with ⟨b1, b2⟩ | ⟨b1, b2⟩
      · exact .inl ⟨b1, List.mem_append_left _ b2⟩
      · exact .inr ⟨b1, List.mem_append_left _ b2⟩
    have hnew : own[i] ∈ own.take (i + 1) := by
      have e := List.take_succ_eq_append_getElem hlt
      rw [e]
      exact List.mem_append_right _ (List.mem_singleton.2 rfl)
    have hnot : ¬ own[i] ∈ own.take i := by
      intro hm
      have hd : (own.take (i + 1)).Nodup := hn.sublist (List.take_sublist _ _)
      rw [List.take_succ_eq_append_getElem hlt, List.nodup_append] at hd
      exact hd.2.2 _ hm _ (by simp) rfl
    have hmem : own[i] ∈ own := List.getElem_mem _
    have hpos := hp _ hmem
    have htk : ∀ x, x ∈ own.take i → x ∈ own := fun x hx => List.mem_of_mem_take hx
    rw [chL_succ _ _ _ _ hlt, cStep]
    split
    · rename_i hu
      have hu' := (any_iff up _).1 hu
      refine ⟨?_, ?_⟩
      · intro t ht
        simp only [List.mem_append, List.mem_singleton] at ht
        rcases ht with ht | rfl
        · exact hup t (h1 t ht)
        · exact ⟨hu', .inl ⟨rfl, hnew⟩⟩
      · rw [List.pairwise_append]
        refine ⟨h2, by simp, ?_⟩
        intro x hx t ht
        simp only [List.mem_singleton] at ht
        subst ht
        refine ⟨?_, by simp⟩
        rcases (h1 x hx).2 with ⟨_, b2⟩ | ⟨b1, _⟩
        · intro e; simp only at e; rw [e] at b2; exact hnot b2
        · intro e; simp only at e; rw [e] at b1; exact b1 hmem
    · split
      · rename_i n hf
        have hfit := List.find?_some hf
        simp only [fits, Bool.and_eq_true, Bool.not_eq_true'] at hfit
        obtain ⟨⟨f1, f2⟩, f3⟩ := hfit
        have f1' := (any_iff up n).1 f1
        have f2' := (any_iff' own n).1 f2
        refine ⟨?_, ?_⟩
        · intro t ht
          simp only [List.mem_append, List.mem_singleton] at ht
          rcases ht with ht | rfl
          · exact hup t (h1 t ht)
          · exact ⟨f1', .inr ⟨f2', hnew⟩⟩
        · rw [List.pairwise_append]
          refine ⟨h2, by simp, ?_⟩
          intro x hx t ht
          simp only [List.mem_singleton] at ht
          subst ht
          refine ⟨?_, ?_⟩
          · intro e
            simp only at e
            rw [List.any_eq_false] at f3
            exact f3 x hx (by simp [isN, e])
          · rintro ⟨_, e⟩
            simp only at e
            rcases (h1 x hx).2 with ⟨b1, _⟩ | ⟨_, b2⟩
            · rw [b1] at e; omega
            · rw [e] at b2; exact hnot b2
      · exact ⟨fun t ht => hup t (h1 t ht), h2⟩
/-- what the law asks of each one -/
theorem chosen_one {own walk up : List Int} {t : Target} (hn : own.Nodup) (hp : ∀ x ∈ own, 0 ≤ x) (ht : t ∈ choose17 own walk up) :
    up.any (t.node == ·) = true ∧ (t.owner == -1) = own.any (t.node == ·) ∧ (¬ t.owner = -1 → own.any (t.owner == ·) = true) := by
  obtain ⟨h1, h2⟩ := (chL_ok own walk up hn hp own.length (Nat.le_refl _)).1 t ht
  rw [List.take_length] at h2
  refine ⟨(any_iff up _).2 h1, ?_, ?_⟩
  · rcases h2 with ⟨b1, b2⟩ | ⟨b1, b2⟩
    · rw [(any_iff own _).2 b2, b1]; rfl
    · rw [(any_iff' own _).2 b1]
      have := hp _ b2
      simp only [beq_eq_false_iff_ne]
      omega
  · intro hne
    rcases h2 with ⟨b1, _⟩ | ⟨_, b2⟩
    · exact absurd b1 hne
    · exact (any_iff own _).2 b2
theorem chosen_two {own walk up : List Int} {x t : Target} {j k : Nat} (hn : own.Nodup) (hp : ∀ x ∈ own, 0 ≤ x) (hjk : j < k) (hx : (choose17 own walk up)[j]? = some x) (ht : (choose17 own walk up)[k]? = some t) :
    ¬ x.node = t.node ∧ ¬ (0 ≤ t.owner ∧ x.owner = t.owner) := by
  have h := (chL_ok own walk up hn hp own.length (Nat.le_refl _)).2
  rw [List.pairwise_iff_getElem] at h
  obtain ⟨h1, rfl⟩ := List.getElem?_eq_some_iff.1 hx
  obtain ⟨h2, rfl⟩ := List.getElem?_eq_some_iff.1 ht
  exact h j k h1 h2 hjk




end Go.Proofs.Ytlediffjclploaa
