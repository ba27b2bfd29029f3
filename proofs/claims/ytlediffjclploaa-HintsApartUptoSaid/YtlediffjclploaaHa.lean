/-
  Layer 16's things as cells, and what its calls come to, in plain Lean.
-/
import Derived.Test.YtlediffjclploaaRows
import Derived.Test.YtlediffjclploaaMore
import Derived.Test.YtlediffjclploaaPlain
namespace Go.Proofs.Ytlediffjclploaa
attribute [local irreducible] St1 RL RA RT RT1 Run
namespace Ha
theorem ty3 : Ty Try.prog 3 1 8 (.int .i64 (0)) false := ty_of (by kernel_rfl) (by kernel_rfl)
theorem ty9 : Ty Try.prog 9 1 16 (.string (⟨#[]⟩)) false := ty_of (by kernel_rfl) (by kernel_rfl)
end Ha
open Ha
structure Hint where
  owner : Int
  key : ByteArray
instance : Enc Hint := Enc.struct (fun t => [.int .i64 t.owner, .string t.key]) 2 (fun _ => rfl) (fun _ v hv => by simp at hv; rcases hv with rfl | rfl <;> rfl) (by decide)
theorem Hint.ext' {a b : Hint} (h0 : a.owner = b.owner) (h1 : a.key = b.key) : a = b := by cases a; cases b; simp_all
instance : DecidableEq Hint := fun a b => if h : a.owner = b.owner ∧ a.key = b.key then isTrue (Hint.ext' h.1 h.2) else isFalse (fun e => h (by subst e; exact ⟨rfl, rfl⟩))
theorem eq_Hint (a b : Hint) (w : World) : (Op.equalIn 10000 42 (.agg #[.int .i64 a.owner, .string a.key]) (.agg #[.int .i64 b.owner, .string b.key])).run Try.prog w = .ok (decide (a = b)) w := by
  have h := run_equalIn_struct (P := Try.prog) w 9999 42 #[.int .i64 a.owner, .string a.key] #[.int .i64 b.owner, .string b.key] Try.underlying42 (by kernel_rfl)
  have h2 := (run_eqFields_cons (P := Try.prog) (d := 9999) (xs := #[.int .i64 a.owner, .string a.key]) (ys := #[.int .i64 b.owner, .string b.key]) (fd := (Try.prog.fieldsOf 42).toList[0]) (fs := [(Try.prog.fieldsOf 42).toList[1]]) (r := a.owner == b.owner) (by kernel_rfl) (run_part ty3 rfl) (run_part ty3 rfl) (fun w => run_equalIn_int w 9998 3 .i64 .i64 a.owner b.owner Try.underlying3) (run_eqFields_cons (P := Try.prog) (d := 9999) (xs := #[.int .i64 a.owner, .string a.key]) (ys := #[.int .i64 b.owner, .string b.key]) (fd := (Try.prog.fieldsOf 42).toList[1]) (fs := []) (r := a.key.toList == b.key.toList) (by kernel_rfl) (run_part ty9 rfl) (run_part ty9 rfl) (fun w => run_equalIn_string w 9998 9 a.key b.key Try.underlying9) (run_eqFields_nil 9999 _ _))) w
  refine h.trans (h2.trans ?_)
  congr 1
  rw [Bool.eq_iff_iff]
  simp only [Bool.and_eq_true, beq_iff_eq, and_true, decide_eq_true_eq, bytes_eq]
  exact ⟨fun h => Hint.ext' h.1 h.2, fun h => by subst h; exact ⟨rfl, rfl⟩⟩
structure KeptM where
  h : Hint
  since : Int
instance : Enc KeptM := Enc.struct (fun t => [.int .i64 t.h.owner, .string t.h.key, .int .i64 t.since]) 3 (fun _ => rfl) (fun _ v hv => by simp at hv; rcases hv with rfl | rfl | rfl <;> rfl) (by decide)
structure RKept where
  hint : Hint
  sent : Bool
  since : Int
instance : Enc RKept := Enc.struct (fun t => [.int .i64 t.hint.owner, .string t.hint.key, .bool t.sent, .int .i64 t.since]) 4 (fun _ => rfl) (fun _ v hv => by simp at hv; rcases hv with rfl | rfl | rfl | rfl <;> rfl) (by decide)

/-! ### arrays of eight cells -/
def updI (c : Nat → Int) (k : Nat) (v : Int) : Nat → Int := fun j => if j = k then v else c j
def updB (c : Nat → Bool) (k : Nat) (v : Bool) : Nat → Bool := fun j => if j = k then v else c j
def bools8 (m : Nat → Bool) : List Value := [.bool (m 0), .bool (m 1), .bool (m 2), .bool (m 3), .bool (m 4), .bool (m 5), .bool (m 6), .bool (m 7)]
theorem bools8_at (m : Nat → Bool) : ∀ k, k < 8 → (bools8 m)[0 + k * 1]? = some (.bool (m k))
  | 0, _ => rfl | 1, _ => rfl | 2, _ => rfl | 3, _ => rfl | 4, _ => rfl | 5, _ => rfl | 6, _ => rfl | 7, _ => rfl
  | k + 8, h => absurd h (by omega)
theorem bools8_set (m : Nat → Bool) (v : Bool) : ∀ k, k < 8 → (bools8 m).take (0 + k * 1) ++ (Value.bool v).cells.toList ++ (bools8 m).drop (0 + k * 1 + 1) = bools8 (updB m k v)
  | 0, _ => rfl | 1, _ => rfl | 2, _ => rfl | 3, _ => rfl | 4, _ => rfl | 5, _ => rfl | 6, _ => rfl | 7, _ => rfl
  | k + 8, h => absurd h (by omega)
def boxCells (made : Bool) (al : Option Addr) (n cl : Nat) (c : Nat → Int) (now : Int) : List Value :=
  [.bool made, .slice al n cl, .int .i64 (c 0), .int .i64 (c 1), .int .i64 (c 2), .int .i64 (c 3), .int .i64 (c 4), .int .i64 (c 5), .int .i64 (c 6), .int .i64 (c 7), .int .i64 now]
theorem box_at (al : Option Addr) (n cl : Nat) (c : Nat → Int) (now : Int) : ∀ k, k < 8 → (boxCells true al n cl c now)[2 + k * 1]? = some (.int .i64 (c k))
  | 0, _ => rfl | 1, _ => rfl | 2, _ => rfl | 3, _ => rfl | 4, _ => rfl | 5, _ => rfl | 6, _ => rfl | 7, _ => rfl
  | k + 8, h => absurd h (by omega)
theorem box_set (al : Option Addr) (n cl : Nat) (c : Nat → Int) (now v : Int) : ∀ k, k < 8 → (boxCells true al n cl c now).take (2 + k * 1) ++ (Value.int .i64 v).cells.toList ++ (boxCells true al n cl c now).drop (2 + k * 1 + 1) = boxCells true al n cl (updI c k v) now
  | 0, _ => rfl | 1, _ => rfl | 2, _ => rfl | 3, _ => rfl | 4, _ => rfl | 5, _ => rfl | 6, _ => rfl | 7, _ => rfl
  | k + 8, h => absurd h (by omega)
theorem box_congr {made : Bool} {al : Option Addr} {n cl : Nat} {c c' : Nat → Int} {now : Int} (h : ∀ k, k < 8 → c k = c' k) : boxCells made al n cl c now = boxCells made al n cl c' now := by
  unfold boxCells
  rw [h 0 (by omega), h 1 (by omega), h 2 (by omega), h 3 (by omega), h 4 (by omega), h 5 (by omega), h 6 (by omega), h 7 (by omega)]

/-! ### keys -/
def badByte (c : UInt8) : Bool := decide (¬ (97 ≤ (c.toNat : Int) ∧ (c.toNat : Int) ≤ 122) ∧ ¬ (65 ≤ (c.toNat : Int) ∧ (c.toNat : Int) ≤ 90) ∧ ¬ (48 ≤ (c.toNat : Int) ∧ (c.toNat : Int) ≤ 57) ∧ (c.toNat : Int) ≠ 46 ∧ (c.toNat : Int) ≠ 45 ∧ (c.toNat : Int) ≠ 95)
def isKey (s : ByteArray) : Bool := !(s.data.toList.any badByte) && (decide (1 ≤ (s.size : Int)) && decide ((s.size : Int) ≤ 32))

theorem keyEnd (s : ByteArray) : (!decide (s = ⟨#[]⟩) && decide ((s.size : Int) ≤ 32)) = (!false && (decide (1 ≤ (s.size : Int)) && decide ((s.size : Int) ≤ 32))) := by
  have e : (!decide (s = ⟨#[]⟩)) = decide (1 ≤ (s.size : Int)) := by
    rw [emptyS, Bool.eq_iff_iff]
    simp only [Bool.not_eq_true', decide_eq_false_iff_not, decide_eq_true_eq]
    omega
  rw [e]; rfl

/-! ### a box -/
def hE (h : Hint) : Int := if h.owner < 0 ∨ 8 ≤ h.owner then 1 else if isKey h.key = true then 0 else 6
def isH (h : Hint) (k : KeptM) : Bool := decide (k.h = h)
def cntO (l : List KeptM) (k : Nat) : Int := ((l.countP fun x => decide (x.h.owner = (k : Int)) : Nat) : Int)
def putE (l : List KeptM) (h : Hint) : Int := if hE h = 0 then (if l.any (isH h) = true then 0 else if 256 ≤ l.length then 7 else 0) else hE h
def putL (l : List KeptM) (h : Hint) : List KeptM :=
  if hE h = 0 then (match l.findIdx? (isH h) with | some i => l.set i ⟨h, -1⟩ | none => if 256 ≤ l.length then l else l ++ [⟨h, -1⟩]) else l
def dropE (l : List KeptM) (h : Hint) : Int := if hE h = 0 then (if l.any (isH h) = true then 0 else 160) else hE h
def dropL (l : List KeptM) (h : Hint) : List KeptM :=
  if hE h = 0 then (match l.findIdx? (isH h) with | some i => l.take i ++ l.drop (i + 1) | none => l) else l
def countB (l : List KeptM) (o : Int) : Int := if o < 0 ∨ 8 ≤ o then 0 else cntO l o.toNat
def waitsB (now : Int) (k : KeptM) : Bool := decide (0 ≤ k.since) && decide (now - k.since < 1000)
def onWay (now n : Int) (k : KeptM) : Bool := decide (k.h.owner = n) && waitsB now k
structure Snd where
  L : List KeptM
  T : List Hint
  c : Nat
def sStep (now n : Int) (s : Snd) (k : KeptM) : Snd :=
  if (decide (k.h.owner = n) && !waitsB now k) && decide (s.c < 4) then ⟨s.L ++ [⟨k.h, now⟩], s.T ++ [k.h], s.c + 1⟩ else ⟨s.L ++ [k], s.T, s.c⟩
def sndI (now n : Int) (l : List KeptM) (i : Nat) : Snd := (l.take i).foldl (sStep now n) ⟨[], [], l.countP (onWay now n)⟩
structure Due where
  L : List KeptM
  T : List Hint
  met : Nat → Bool
def dStep (now : Int) (s : Due) (n : Int) : Due :=
  if n < 0 ∨ 8 ≤ n ∨ s.met n.toNat = true then s else ⟨(sndI now n s.L s.L.length).L, s.T ++ (sndI now n s.L s.L.length).T, updB s.met n.toNat true⟩
def dueI (now : Int) (l : List KeptM) (up : List Int) (i : Nat) : Due := (up.take i).foldl (dStep now) ⟨l, [], fun _ => false⟩
def due (now : Int) (l : List KeptM) (up : List Int) : Due := dueI now l up up.length

/-- what a box is in memory -/
structure BoxAt (w : World) (b : Nat) (al : Option Addr) (cl : Nat) (l : List KeptM) (now : Int) : Prop where
  blk : Blk w b (boxCells true al l.length cl (cntO l) now) 51
  own : OwnSl w 76 al cl l
  ap : ¬ Go.Proofs.Ytlediffjclploaa.own al b
def boxS (b : Nat) (al : Option Addr) : Nat → Prop := fun x => x = b ∨ own al x
theorem BoxAt.keepO {S : Nat → Prop} {w w' : World} {b : Nat} {al : Option Addr} {cl : Nat} {l : List KeptM} {now : Int} (h : BoxAt w b al cl l now) (k : Keeps S w w') (hn : ∀ x, boxS b al x → ¬ S x) : BoxAt w' b al cl l now :=
  ⟨h.blk.keep k (hn _ (.inl rfl)), h.own.keepO k (fun _ hx => hn _ (.inr hx)), h.ap⟩
theorem BoxAt.ext {w w' : World} {b : Nat} {al : Option Addr} {cl : Nat} {l : List KeptM} {now : Int} (h : BoxAt w b al cl l now) (k : Ext w w') : BoxAt w' b al cl l now := h.keepO k fun _ _ => id
theorem BoxAt.own_lt {w : World} {b : Nat} {al : Option Addr} {cl : Nat} {l : List KeptM} {now : Int} (h : BoxAt w b al cl l now) : ∀ x, boxS b al x → x < w.heap.size := by
  rintro x (rfl | hx)
  · exact h.blk.lt
  · exact h.own.own_lt x hx
theorem boxMoved {w : World} {b : Nat} {al al' : Option Addr} (h : MovedS w (own al) (own al')) : MovedS w (boxS b al) (boxS b al') := by
  rintro x (rfl | hx)
  · exact .inl (.inl rfl)
  · rcases h x hx with h1 | h1
    · exact .inl (.inr h1)
    · exact .inr h1
/-- nothing in it is of a later time -/
def Past (l : List KeptM) (now : Int) : Prop := ∀ k ∈ l, k.since ≤ now

theorem sndI_zero (now n : Int) (l : List KeptM) : sndI now n l 0 = ⟨[], [], l.countP (onWay now n)⟩ := rfl
theorem sndI_step {now n : Int} {l : List KeptM} {i : Nat} {x : KeptM} (h : l[i]? = some x) : sndI now n l (i + 1) = sStep now n (sndI now n l i) x := by
  obtain ⟨hi, rfl⟩ := List.getElem?_eq_some_iff.1 h
  simp only [sndI, List.take_succ_eq_append_getElem hi, List.foldl_append, List.foldl_cons, List.foldl_nil]
theorem sndI_len (now n : Int) (l : List KeptM) : ∀ i, i ≤ l.length → (sndI now n l i).L.length = i := by
  intro i
  induction i with
  | zero => intro _; rfl
  | succ i ih =>
    intro hi
    rw [sndI_step (x := l[i]'(by omega)) (by simp), sStep]
    have := ih (by omega)
    split <;> simp [this]
theorem sndI_c (now n : Int) (l : List KeptM) : ∀ i, i ≤ l.length → (sndI now n l i).c ≤ l.length + i := by
  intro i
  induction i with
  | zero => intro _; exact List.countP_le_length
  | succ i ih =>
    intro hi
    rw [sndI_step (x := l[i]'(by omega)) (by simp), sStep]
    have := ih (by omega)
    split <;> simp <;> omega
theorem sndI_T (now n : Int) (l : List KeptM) : ∀ i, i ≤ l.length → (sndI now n l i).T.length ≤ 4 := by
  intro i
  have key : ∀ i, i ≤ l.length → (sndI now n l i).T.length ≤ 4 ∧ ((sndI now n l i).T.length ≤ (sndI now n l i).c) := by
    intro i
    induction i with
    | zero => intro _; exact ⟨by simp [sndI], by simp [sndI]⟩
    | succ i ih =>
      intro hi
      rw [sndI_step (x := l[i]'(by omega)) (by simp), sStep]
      have h1 := ih (by omega)
      split
      · rename_i hc
        simp only [Bool.and_eq_true, decide_eq_true_eq] at hc
        simp
        omega
      · exact h1
  exact fun hi => (key i hi).1
theorem sndI_past (now n : Int) (l : List KeptM) (hp : Past l now) : ∀ i, i ≤ l.length → Past (sndI now n l i).L now := by
  intro i
  induction i with
  | zero => intro _ k hk; simp [sndI] at hk
  | succ i ih =>
    intro hi
    rw [sndI_step (x := l[i]'(by omega)) (by simp), sStep]
    have h1 := ih (by omega)
    split
    · intro k hk
      simp only [List.mem_append, List.mem_singleton] at hk
      rcases hk with hk | rfl
      · exact h1 k hk
      · exact Int.le_refl _
    · intro k hk
      simp only [List.mem_append, List.mem_singleton] at hk
      rcases hk with hk | rfl
      · exact h1 k hk
      · exact hp _ (List.getElem_mem _)
theorem dueI_zero (now : Int) (l : List KeptM) (up : List Int) : dueI now l up 0 = ⟨l, [], fun _ => false⟩ := rfl
theorem dueI_step {now : Int} {l : List KeptM} {up : List Int} {i : Nat} {n : Int} (h : up[i]? = some n) : dueI now l up (i + 1) = dStep now (dueI now l up i) n := by
  obtain ⟨hi, rfl⟩ := List.getElem?_eq_some_iff.1 h
  simp only [dueI, List.take_succ_eq_append_getElem hi, List.foldl_append, List.foldl_cons, List.foldl_nil]
theorem dueI_len (now : Int) (l : List KeptM) (up : List Int) : ∀ i, i ≤ up.length → (dueI now l up i).L.length = l.length ∧ (dueI now l up i).T.length ≤ 4 * i ∧ (Past l now → Past (dueI now l up i).L now) := by
  intro i
  induction i with
  | zero => intro _; exact ⟨rfl, by simp [dueI], fun h => h⟩
  | succ i ih =>
    intro hi
    rw [dueI_step (n := up[i]'(by omega)) (by simp), dStep]
    obtain ⟨h1, h2, h3⟩ := ih (by omega)
    split
    · exact ⟨h1, by omega, h3⟩
    · refine ⟨?_, ?_, ?_⟩
      · simp only; rw [sndI_len _ _ _ _ (Nat.le_refl _), h1]
      · have := sndI_T now up[i] (dueI now l up i).L _ (Nat.le_refl _)
        simp only [List.length_append]
        omega
      · intro hp; exact sndI_past _ _ _ (h3 hp) _ (Nat.le_refl _)
/-- the list while it is gone through -/
def mixL (now n : Int) (l : List KeptM) (i : Nat) : List KeptM := (sndI now n l i).L ++ l.drop i
theorem mixL_zero (now n : Int) (l : List KeptM) : mixL now n l 0 = l := by simp [mixL, sndI]
theorem mixL_len (now n : Int) (l : List KeptM) (i : Nat) (h : i ≤ l.length) : (mixL now n l i).length = l.length := by
  simp only [mixL, List.length_append, sndI_len _ _ _ _ h, List.length_drop]; omega
theorem mixL_end (now n : Int) (l : List KeptM) : mixL now n l l.length = (sndI now n l l.length).L := by simp [mixL]
theorem mixL_get (now n : Int) (l : List KeptM) (i : Nat) (h : i < l.length) : (mixL now n l i)[i]? = l[i]? := by
  have hl := sndI_len now n l i (by omega)
  rw [mixL, List.getElem?_append_right (by omega), hl, List.getElem?_drop]; simp
theorem mixL_same {now n : Int} {l : List KeptM} {i : Nat} {x : KeptM} (h : l[i]? = some x) (hs : (sndI now n l (i + 1)).L = (sndI now n l i).L ++ [x]) : mixL now n l (i + 1) = mixL now n l i := by
  obtain ⟨hi, rfl⟩ := List.getElem?_eq_some_iff.1 h
  rw [mixL, hs, mixL, List.append_assoc, List.singleton_append, List.getElem_cons_drop]
theorem mixL_set {now n : Int} {l : List KeptM} {i : Nat} {x y : KeptM} (h : l[i]? = some x) (hs : (sndI now n l (i + 1)).L = (sndI now n l i).L ++ [y]) : mixL now n l (i + 1) = (mixL now n l i).set i y := by
  obtain ⟨hi, rfl⟩ := List.getElem?_eq_some_iff.1 h
  have hl := sndI_len now n l i (by omega)
  rw [mixL, hs, mixL, List.set_append_right _ _ (by omega), hl, Nat.sub_self, List.drop_eq_getElem_cons hi, List.set_cons_zero, List.append_assoc, List.singleton_append]
theorem sStep_yes {now n : Int} {s : Snd} {k : KeptM} (h1 : k.h.owner = n) (h2 : waitsB now k = false) (h3 : s.c < 4) : sStep now n s k = ⟨s.L ++ [⟨k.h, now⟩], s.T ++ [k.h], s.c + 1⟩ := by
  rw [sStep, if_pos (by simp [h1, h2, h3])]
theorem sStep_no {now n : Int} {s : Snd} {k : KeptM} (h : ¬ (k.h.owner = n ∧ waitsB now k = false ∧ s.c < 4)) : sStep now n s k = ⟨s.L ++ [k], s.T, s.c⟩ := by
  rw [sStep, if_neg]
  simp only [Bool.and_eq_true, decide_eq_true_eq, Bool.not_eq_true']
  exact fun h' => h ⟨h'.1.1, h'.1.2, h'.2⟩
theorem sStep_no' {now n : Int} {s : Snd} {k : KeptM} (h : (¬ k.h.owner = n ∨ waitsB now k = true) ∨ 4 ≤ (s.c : Int)) : sStep now n s k = ⟨s.L ++ [k], s.T, s.c⟩ := by
  refine sStep_no ?_
  rintro ⟨a1, a2, a3⟩
  rcases h with (h | h) | h
  · exact h a1
  · rw [h] at a2; cases a2
  · omega
theorem countP_take {l : List KeptM} {i : Nat} {x : KeptM} (p : KeptM → Bool) (h : l[i]? = some x) : (l.take (i + 1)).countP p = (l.take i).countP p + (if p x then 1 else 0) := by
  obtain ⟨hi, rfl⟩ := List.getElem?_eq_some_iff.1 h
  rw [List.take_succ_eq_append_getElem hi, List.countP_append, List.countP_singleton]
theorem cntO_set {l : List KeptM} {i : Nat} {x y : KeptM} (h : l[i]? = some x) (hxy : y.h = x.h) (k : Nat) : cntO (l.set i y) k = cntO l k := by
  obtain ⟨hi, rfl⟩ := List.getElem?_eq_some_iff.1 h
  unfold cntO
  congr 1
  rw [List.countP_set hi]
  simp only [hxy]
  have : (if decide (l[i].h.owner = (k : Int)) = true then 1 else 0) ≤ l.countP fun x => decide (x.h.owner = (k : Int)) := by
    split
    · rename_i hc
      exact List.countP_pos_iff.2 ⟨l[i], List.getElem_mem _, hc⟩
    · omega
  omega
theorem cntO_push (l : List KeptM) (x : KeptM) (k : Nat) : cntO (l ++ [x]) k = updI (cntO l) x.h.owner.toNat (cntO l x.h.owner.toNat + 1) k ∨ x.h.owner < 0 := by
  by_cases h0 : x.h.owner < 0
  · exact .inr h0
  · refine .inl ?_
    unfold cntO updI
    rw [List.countP_append, List.countP_singleton]
    by_cases hk : k = x.h.owner.toNat
    · subst hk
      rw [if_pos rfl]
      have : decide (x.h.owner = (x.h.owner.toNat : Int)) = true := by simp; omega
      simp only [this, if_true]
      omega
    · rw [if_neg hk]
      have : decide (x.h.owner = (k : Int)) = false := by simp; omega
      simp [this]
theorem cntO_del {l : List KeptM} {i : Nat} {x : KeptM} (h : l[i]? = some x) (h0 : 0 ≤ x.h.owner) (k : Nat) : cntO (l.take i ++ l.drop (i + 1)) k = updI (cntO l) x.h.owner.toNat (cntO l x.h.owner.toNat - 1) k := by
  obtain ⟨hi, rfl⟩ := List.getElem?_eq_some_iff.1 h
  have hl : ∀ k : Nat, cntO l k = cntO (l.take i ++ l.drop (i + 1)) k + (if decide (l[i].h.owner = (k : Int)) then 1 else 0) := by
    intro k
    have e : l = l.take i ++ l[i] :: l.drop (i + 1) := by rw [List.getElem_cons_drop]; exact (List.take_append_drop i l).symm
    unfold cntO
    conv => lhs; rw [e]
    rw [List.countP_append, List.countP_append, List.countP_cons]
    split <;> omega
  unfold updI
  split
  · rename_i hk
    have h1 := hl l[i].h.owner.toNat
    have : decide (l[i].h.owner = (l[i].h.owner.toNat : Int)) = true := by simp; omega
    rw [this, if_pos rfl] at h1
    subst hk
    omega
  · rename_i hk
    have h1 := hl k
    have : decide (l[i].h.owner = (k : Int)) = false := by simp; omega
    rw [this] at h1
    simp at h1
    omega

theorem hE1 {h : Hint} (hc : h.owner < 0 ∨ 8 ≤ h.owner) : hE h = 1 := by rw [hE, if_pos hc]
theorem hE6 {h : Hint} (hc : 0 ≤ h.owner ∧ h.owner < 8) (hk : isKey h.key = false) : hE h = 6 := by rw [hE, if_neg (by omega), if_neg (by simp [hk])]
theorem hE0 {h : Hint} (hc : 0 ≤ h.owner ∧ h.owner < 8) (hk : isKey h.key = true) : hE h = 0 := by rw [hE, if_neg (by omega), if_pos hk]
theorem hE_range {h : Hint} (h0 : hE h = 0) : 0 ≤ h.owner ∧ h.owner < 8 := by
  unfold hE at h0
  split at h0
  · cases h0
  · omega
theorem cntO_range (l : List KeptM) (k : Nat) : 0 ≤ cntO l k ∧ cntO l k ≤ l.length := by
  unfold cntO
  have := List.countP_le_length (p := fun x : KeptM => decide (x.h.owner = (k : Int))) (l := l)
  omega
theorem putE_bad {l : List KeptM} {h : Hint} (h0 : ¬ hE h = 0) : putE l h = hE h := if_neg h0
theorem putL_bad {l : List KeptM} {h : Hint} (h0 : ¬ hE h = 0) : putL l h = l := if_neg h0
theorem putE_in {l : List KeptM} {h : Hint} {k : Nat} {x : KeptM} (h0 : hE h = 0) (hx : l[k]? = some x) (hp : isH h x = true) : putE l h = 0 := by rw [putE, if_pos h0, if_pos (any_at hx hp)]
theorem isH_h {h : Hint} {x : KeptM} (hp : isH h x = true) : x.h = h := of_decide_eq_true hp
theorem putL_in {l : List KeptM} {h : Hint} {k : Nat} {x : KeptM} (h0 : hE h = 0) (hx : l[k]? = some x) (hp : isH h x = true) (hno : NoB (isH h) l k) : putL l h = l.set k { x with since := -1 } := by
  rw [putL, if_pos h0, findIdx_some hx hp hno, ← isH_h hp]
theorem putE_full {l : List KeptM} {h : Hint} (h0 : hE h = 0) (hno : NoB (isH h) l l.length) (hf : 256 ≤ l.length) : putE l h = 7 := by rw [putE, if_pos h0, any_no hno (Nat.le_refl _), if_neg (by simp), if_pos hf]
theorem putL_full {l : List KeptM} {h : Hint} (h0 : hE h = 0) (hno : NoB (isH h) l l.length) (hf : 256 ≤ l.length) : putL l h = l := by rw [putL, if_pos h0, findIdx_none hno (Nat.le_refl _)]; exact if_pos hf
theorem putE_new {l : List KeptM} {h : Hint} (h0 : hE h = 0) (hno : NoB (isH h) l l.length) (hf : ¬ 256 ≤ l.length) : putE l h = 0 := by rw [putE, if_pos h0, any_no hno (Nat.le_refl _), if_neg (by simp), if_neg hf]
theorem putL_new {l : List KeptM} {h : Hint} (h0 : hE h = 0) (hno : NoB (isH h) l l.length) (hf : ¬ 256 ≤ l.length) : putL l h = l ++ [⟨h, -1⟩] := by rw [putL, if_pos h0, findIdx_none hno (Nat.le_refl _)]; exact if_neg hf
theorem dropE_bad {l : List KeptM} {h : Hint} (h0 : ¬ hE h = 0) : dropE l h = hE h := if_neg h0
theorem dropL_bad {l : List KeptM} {h : Hint} (h0 : ¬ hE h = 0) : dropL l h = l := if_neg h0
theorem dropE_no {l : List KeptM} {h : Hint} (h0 : hE h = 0) (hno : NoB (isH h) l l.length) : dropE l h = 160 := by rw [dropE, if_pos h0, any_no hno (Nat.le_refl _), if_neg (by simp)]
theorem dropL_no {l : List KeptM} {h : Hint} (h0 : hE h = 0) (hno : NoB (isH h) l l.length) : dropL l h = l := by rw [dropL, if_pos h0, findIdx_none hno (Nat.le_refl _)]
theorem dropE_in {l : List KeptM} {h : Hint} {k : Nat} {x : KeptM} (h0 : hE h = 0) (hx : l[k]? = some x) (hp : isH h x = true) : dropE l h = 0 := by rw [dropE, if_pos h0, if_pos (any_at hx hp)]
theorem dropL_in {l : List KeptM} {h : Hint} {k : Nat} {x : KeptM} (h0 : hE h = 0) (hx : l[k]? = some x) (hp : isH h x = true) (hno : NoB (isH h) l k) : dropL l h = l.take k ++ l.drop (k + 1) := by
  rw [dropL, if_pos h0, findIdx_some hx hp hno]
theorem cntO_del' {l : List KeptM} {i : Nat} {x : KeptM} {h : Hint} (hx : l[i]? = some x) (hp : isH h x = true) (h0 : 0 ≤ h.owner) (k : Nat) : cntO (l.take i ++ l.drop (i + 1)) k = updI (cntO l) h.owner.toNat (cntO l h.owner.toNat - 1) k := by
  have e := isH_h hp
  subst e
  exact cntO_del hx h0 k
theorem sndI_cnt (now n : Int) (l : List KeptM) (k : Nat) : ∀ i, i ≤ l.length → cntO (sndI now n l i).L k = cntO (l.take i) k := by
  intro i
  induction i with
  | zero => intro _; rfl
  | succ i ih =>
    intro hi
    have h1 := ih (by omega)
    rw [sndI_step (x := l[i]'(by omega)) (by simp), sStep, List.take_succ_eq_append_getElem (by omega)]
    unfold cntO at h1 ⊢
    split <;> simp only [List.countP_append, List.countP_singleton] <;> omega
theorem dueI_cnt (now : Int) (l : List KeptM) (up : List Int) (k : Nat) : ∀ i, i ≤ up.length → cntO l k = cntO (dueI now l up i).L k := by
  intro i
  induction i with
  | zero => intro _; rfl
  | succ i ih =>
    intro hi
    rw [dueI_step (n := up[i]'(by omega)) (by simp), dStep]
    split
    · exact ih (by omega)
    · simp only
      rw [sndI_cnt _ _ _ _ _ (Nat.le_refl _), List.take_length]
      exact ih (by omega)
theorem dStep_no {now : Int} {s : Due} {n : Int} (h : (n < 0 ∨ 8 ≤ n) ∨ s.met n.toNat = true) : dStep now s n = s := by
  rw [dStep, if_pos (by rcases h with (h | h) | h <;> simp [h])]
theorem dStep_yes {now : Int} {s : Due} {n : Int} (h1 : 0 ≤ n ∧ n < 8) (h2 : s.met n.toNat = false) : dStep now s n = ⟨(sndI now n s.L s.L.length).L, s.T ++ (sndI now n s.L s.L.length).T, updB s.met n.toNat true⟩ := by
  rw [dStep, if_neg (by simp [h2]; omega)]
theorem Past.mono {l : List KeptM} {a b : Int} (h : Past l a) (hab : a ≤ b) : Past l b := fun k hk => Int.le_trans (h k hk) hab
theorem BoxAt.of {w : World} {b : Nat} {al : Option Addr} {n cl : Nat} {c : Nat → Int} {l : List KeptM} {now : Int} (hb : Blk w b (boxCells true al n cl c now) 51) (ho : OwnSl w 76 al cl l) (hap : ¬ Go.Proofs.Ytlediffjclploaa.own al b)
    (hn : n = l.length) (hc : ∀ k, k < 8 → c k = cntO l k) : BoxAt w b al cl l now := ⟨by rw [← box_congr hc, ← hn]; exact hb, ho, hap⟩
theorem box_store {w : World} {b : Nat} {T : TypeId} {al : Option Addr} {n cl : Nat} {c : Nat → Int} {now v : Int} {k : Nat}
    (h : Blk w b ((boxCells true al n cl c now).take (2 + k * 1) ++ (Value.int .i64 v).cells.toList ++ (boxCells true al n cl c now).drop (2 + k * 1 + 1)) T) (hk : k < 8) : Blk w b (boxCells true al n cl (updI c k v) now) T := by rwa [box_set _ _ _ _ _ _ _ hk] at h
theorem bools_store {w : World} {b : Nat} {T : TypeId} {m : Nat → Bool} {v : Bool} {k : Nat}
    (h : Blk w b ((bools8 m).take (0 + k * 1) ++ (Value.bool v).cells.toList ++ (bools8 m).drop (0 + k * 1 + 1)) T) (hk : k < 8) : Blk w b (bools8 (updB m k v)) T := by rwa [bools8_set _ _ _ hk] at h
theorem boxMoved' {w : World} {b : Nat} {al al' : Option Addr} (h : ∀ x, own al' x → x < w.heap.size → boxS b al x) : MovedS w (boxS b al) (boxS b al') := by
  rintro x (rfl | hx)
  · exact .inl (.inl rfl)
  · by_cases hl : x < w.heap.size
    · exact .inl (h x hx hl)
    · exact .inr (by omega)




end Go.Proofs.Ytlediffjclploaa
