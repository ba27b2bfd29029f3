/-
  Layer 18's walks, second part.
-/
import Derived.Test.YthhhkjmlnjbnjaaRows
import Derived.Test.YthhhkjmlnjbnjaaOb
namespace Go.Proofs.Ythhhkjmlnjbnjaa
attribute [local irreducible] St1 RL RA RT RT1 Run

/-- those of the first j that stay -/
def keepF {α : Type} (q : α → Bool) (xs : List α) (j : Nat) : List α := (xs.take j).filter (fun x => !q x)
theorem keepF_len {α : Type} (q : α → Bool) (xs : List α) (j : Nat) : (keepF q xs j).length ≤ j := by
  unfold keepF
  have := List.length_filter_le (fun x => !q x) (xs.take j)
  have := List.length_take_le j xs
  omega
theorem keepF_succ {α : Type} {q : α → Bool} {xs : List α} {j : Nat} {x : α} (h : xs[j]? = some x) : keepF q xs (j + 1) = if q x = true then keepF q xs j else keepF q xs j ++ [x] := by
  obtain ⟨hj, rfl⟩ := List.getElem?_eq_some_iff.1 h
  unfold keepF
  rw [List.take_succ_eq_append_getElem hj, List.filter_append]
  split
  · rename_i hq; simp [hq]
  · rename_i hq; simp [hq]
theorem keepF_first {α : Type} {q : α → Bool} {xs : List α} {k : Nat} (hk : k < xs.length) (hq : ∀ x, xs[k]? = some x → q x = true) (hn : NoB q xs k) : keepF q xs (k + 1) = xs.take k := by
  rw [keepF_succ (x := xs[k]) (by simp), if_pos (hq _ (by simp))]
  unfold keepF
  rw [List.filter_eq_self]
  intro x hx
  obtain ⟨i, hi, rfl⟩ := List.getElem_of_mem hx
  simp only [List.length_take] at hi
  rw [List.getElem_take]
  rw [hn i _ (by omega) (List.getElem?_eq_getElem (by omega))]
  rfl
theorem keepF_none {α : Type} {q : α → Bool} {xs : List α} (hn : NoB q xs xs.length) : xs.filter (fun x => !q x) = xs := by
  rw [List.filter_eq_self]
  intro x hx
  obtain ⟨i, hi, rfl⟩ := List.getElem_of_mem hx
  rw [hn i _ hi (by simp)]
  rfl
theorem keepF_all {α : Type} (q : α → Bool) (xs : List α) : keepF q xs xs.length = xs.filter (fun x => !q x) := by rw [keepF, List.take_length]
theorem drop_get {α : Type} {xs ys : List α} {j : Nat} (h : ys.drop j = xs.drop j) : ys[j]? = xs[j]? := by
  have := congrArg (fun l => l[0]?) h
  simpa [List.getElem?_drop] using this
theorem drop_succ_eq {α : Type} {xs ys : List α} {j : Nat} (h : ys.drop j = xs.drop j) : ys.drop (j + 1) = xs.drop (j + 1) := by
  rw [← List.drop_drop, h, List.drop_drop]
theorem set_take_succ {α : Type} {ys : List α} {i : Nat} {x : α} (hi : i < ys.length) : (ys.set i x).take (i + 1) = ys.take i ++ [x] := by
  rw [List.take_succ_eq_append_getElem (by simpa using hi), List.getElem_set_self, List.take_set_of_le (Nat.le_refl _)]
theorem set_drop_gt {α : Type} {ys : List α} {i j : Nat} {x : α} (h : i < j) : (ys.set i x).drop j = ys.drop j := by
  rw [List.drop_set, if_pos h]

theorem uniq_succ {xs : List ByteArray} {j : Nat} {x : ByteArray} (h : xs[j]? = some x) : uniq (xs.take (j + 1)) = uqStep (uniq (xs.take j)) x := by rw [uniq, take_snoc' h, List.foldl_append]; rfl
theorem uniq_last : ∀ {xs : List ByteArray} {j : Nat} {x : ByteArray}, xs[j]? = some x → (uniq (xs.take (j + 1))).getLast? = some x := by
  intro xs j x h
  rw [uniq_succ h, uqStep]
  split
  · assumption
  · simp
theorem uniq_same {xs : List ByteArray} {j : Nat} {x : ByteArray} (h1 : xs[j]? = some x) (h2 : xs[j + 1]? = some x) : uniq (xs.take (j + 2)) = uniq (xs.take (j + 1)) := by
  rw [uniq_succ h2, uqStep, if_pos (uniq_last h1)]
theorem uniq_new {xs : List ByteArray} {j : Nat} {x y : ByteArray} (h1 : xs[j]? = some y) (h2 : xs[j + 1]? = some x) (hn : x ≠ y) : uniq (xs.take (j + 2)) = uniq (xs.take (j + 1)) ++ [x] := by
  rw [uniq_succ h2, uqStep, if_neg (by rw [uniq_last h1]; simpa using fun e => hn e.symm)]
/-- no two neighbours among the first i are equal -/
def NoR (xs : List ByteArray) (i : Nat) : Prop := ∀ j x y, j + 1 < i → xs[j + 1]? = some x → xs[j]? = some y → x ≠ y
theorem NoR.one (xs : List ByteArray) : NoR xs 1 := fun _ _ _ h => absurd h (by omega)
theorem NoR.step {xs : List ByteArray} {i : Nat} {x y : ByteArray} (h : NoR xs (i + 1)) (h1 : xs[i + 1]? = some x) (h2 : xs[i]? = some y) (hn : x ≠ y) : NoR xs (i + 2) := fun j a b hj ha hb => by
  by_cases c : j = i
  · subst c; rw [h1] at ha; rw [h2] at hb; cases ha; cases hb; exact hn
  · exact h j a b (by omega) ha hb
theorem uniq_first {xs : List ByteArray} : ∀ {i : Nat}, i ≤ xs.length → NoR xs i → uniq (xs.take i) = xs.take i
  | 0, _, _ => rfl
  | 1, h, _ => by
    rw [uniq_succ (List.getElem?_eq_getElem (by omega)), take_snoc' (List.getElem?_eq_getElem (by omega))]; rfl
  | i + 2, h, hn => by
    have h1 : xs[i]? = some xs[i] := List.getElem?_eq_getElem (by omega)
    have h2 : xs[i + 1]? = some xs[i + 1] := List.getElem?_eq_getElem (by omega)
    rw [uniq_new h1 h2 (hn i _ _ (by omega) h2 h1), uniq_first (by omega) (fun j a b hj => hn j a b (by omega)), ← take_snoc' h2]
theorem uniq_le (xs : List ByteArray) : (uniq xs).length ≤ xs.length := by
  have : ∀ i, i ≤ xs.length → (uniq (xs.take i)).length ≤ i := by
    intro i
    induction i with
    | zero => intro _; exact Nat.le_refl _
    | succ i ih =>
      intro h
      rw [uniq_succ (List.getElem?_eq_getElem (by omega)), uqStep]
      have := ih (by omega)
      split
      · omega
      · simp; omega
  have h := this xs.length (Nat.le_refl _)
  rwa [List.take_length] at h
theorem NoR.pred {xs : List ByteArray} {i : Nat} {x y : ByteArray} (h : NoR xs i) (h0 : 1 ≤ i) (h1 : xs[i]? = some x) (h2 : xs[i - 1]? = some y) (hn : ¬ x = y) : NoR xs (i + 1) := by
  obtain ⟨j, rfl⟩ : ∃ j, i = j + 1 := ⟨i - 1, by omega⟩
  exact NoR.step h h1 h2 hn
theorem uniq_at {xs : List ByteArray} {k : Nat} {x y : ByteArray} (h : NoR xs k) (h0 : 1 ≤ k) (h1 : xs[k]? = some x) (h2 : xs[k - 1]? = some y) (he : x = y) : uniq (xs.take (k + 1)) = xs.take k := by
  obtain ⟨j, rfl⟩ : ∃ j, k = j + 1 := ⟨k - 1, by omega⟩
  subst he
  have := (List.getElem?_eq_some_iff.1 h1).1
  have h2' : xs[j]? = some x := h2
  rw [uniq_same h2' h1, uniq_first (by omega) h]
theorem uniq_step {xs : List ByteArray} {j : Nat} {x y : ByteArray} (h0 : 1 ≤ j) (h1 : xs[j]? = some x) (h2 : xs[j - 1]? = some y) : uniq (xs.take (j + 1)) = if x = y then uniq (xs.take j) else uniq (xs.take j) ++ [x] := by
  obtain ⟨i, rfl⟩ : ∃ i, j = i + 1 := ⟨j - 1, by omega⟩
  split
  · rename_i e; subst e; exact uniq_same h2 h1
  · rename_i e; exact uniq_new h2 h1 e
theorem drop_at {xs ys : List ByteArray} {k q j : Nat} {x : ByteArray} (h : (ys.drop k)[q]? = some x) (hd : ys.drop j = xs.drop j) (hj : j ≤ k + q) : xs[k + q]? = some x := by
  rw [List.getElem?_drop] at h
  rw [← h]
  have := congrArg (fun l => l[k + q - j]?) hd
  simp only [List.getElem?_drop] at this
  rw [show j + (k + q - j) = k + q by omega] at this
  exact this.symm
section
variable {self now req part to : Int} {pl : List (PTr Item)} {ts l1 l2 : List (TrS Item)} {t : TrS Item} {k : Nat} {keys : List ByteArray} {nl : List Item} {w : World} {s : Nat} {al al' : Option Addr} {ts' : List (TrS Item)}
theorem mayE_one (h : mayE self part to ≠ 0) : mayE self part to = 1 := by
  unfold mayE at *
  split
  · rfl
  · rename_i hc; rw [if_neg hc] at h; exact absurd rfl h
theorem beg_may (h : ¬ mayE self part to = 0) : begE self pl part to keys = mayE self part to ∧ begL self pl part to keys nl = pl := by
  have e : begE self pl part to keys = 1 := by rw [begE, if_neg h]
  exact ⟨by rw [e, mayE_one h], by rw [begL, e]; rfl⟩
theorem beg_key (h : mayE self part to = 0) (hk : keys.any (fun k => !isKey k) = true) : begE self pl part to keys = 6 ∧ begL self pl part to keys nl = pl := by
  have e : begE self pl part to keys = 6 := by rw [begE, if_pos h, if_pos hk]
  exact ⟨e, by rw [begL, e]; rfl⟩
theorem hcF {b : Bool} (h : ¬ b = true) : b = false := by simpa using h
theorem beg_there (h : mayE self part to = 0) (hk : keys.any (fun k => !isKey k) = false) (hl : leftN pl part to ≠ 0) : begE self pl part to keys = 61 ∧ begL self pl part to keys nl = pl := by
  have e : begE self pl part to keys = 61 := by rw [begE, if_pos h, if_neg (by simp [hk]), if_neg hl]
  exact ⟨e, by rw [begL, e]; rfl⟩
theorem beg_ok (h : mayE self part to = 0) (hk : keys.any (fun k => !isKey k) = false) (hl : leftN pl part to = 0) : begE self pl part to keys = 0 ∧ begL self pl part to keys nl = without pl part to ++ [⟨part, to, nl⟩] := by
  have e : begE self pl part to keys = 0 := by rw [begE, if_pos h, if_neg (by simp [hk]), if_pos hl]
  exact ⟨e, by rw [begL, e]; rfl⟩
theorem del_mid {α : Type} {l l1 l2 : List α} {x : α} {k : Nat} (e : l = l1 ++ x :: l2) (h : l1.length = k) : delI l k = l1 ++ l2 := by
  subst e; subst h
  have h1 : (l1 ++ x :: l2).take l1.length = l1 := List.take_left
  have h2 : (l1 ++ x :: l2).drop (l1.length + 1) = l2 := by rw [List.drop_append]; simp
  rw [delI, h1, h2]
theorem delI_len {α : Type} (l : List α) (k : Nat) : (delI l k).length ≤ l.length := by
  rw [delI, List.length_append, List.length_take, List.length_drop]; omega
theorem del_ptr (e : ts = l1 ++ t :: l2) (h : l1.length = k) : delI (ts.map TrS.ptr) k = (l1 ++ l2).map TrS.ptr := by
  rw [del_mid (l1 := l1.map TrS.ptr) (l2 := l2.map TrS.ptr) (x := t.ptr) (by rw [e, List.map_append, List.map_cons]) (by rw [List.length_map, h]), List.map_append]
theorem del_p (e : ts = l1 ++ t :: l2) (h : l1.length = k) : delI (ts.map TrS.p) k = (l1 ++ l2).map TrS.p := by
  rw [del_mid (l1 := l1.map TrS.p) (l2 := l2.map TrS.p) (x := t.p) (by rw [e, List.map_append, List.map_cons]) (by rw [List.length_map, h]), List.map_append]
theorem without_in (hx : (ts.map TrS.p).findIdx? (sameT part to) = some k) (e : ts = l1 ++ t :: l2) (h : l1.length = k) : without (ts.map TrS.p) part to = (l1 ++ l2).map TrS.p := by rw [without, hx]; exact del_p e h
theorem without_no (hx : pl.findIdx? (sameT part to) = none) : without pl part to = pl := by rw [without, hx]
theorem beg_in (h : mayE self part to = 0) (hk : keys.any (fun k => !isKey k) = false) (hl : leftN (ts.map TrS.p) part to = 0) (hx : (ts.map TrS.p).findIdx? (sameT part to) = some k) (e : ts = l1 ++ t :: l2) (h1 : l1.length = k) :
    begE self (ts.map TrS.p) part to keys = 0 ∧ begL self (ts.map TrS.p) part to keys nl = (l1 ++ l2).map TrS.p ++ [⟨part, to, nl⟩] := by
  have := beg_ok (self := self) (nl := nl) h hk hl
  rwa [without_in hx e h1] at this
theorem beg_new (h : mayE self part to = 0) (hk : keys.any (fun k => !isKey k) = false) (hl : leftN pl part to = 0) (hx : pl.findIdx? (sameT part to) = none) :
    begE self pl part to keys = 0 ∧ begL self pl part to keys nl = pl ++ [⟨part, to, nl⟩] := by
  have := beg_ok (self := self) (nl := nl) h hk hl
  rwa [without_no hx] at this
theorem snoc_ptr (ts : List (TrS Item)) (b : Nat) (p o : Int) (a : Option Addr) (c : Nat) (l : List Item) : ts.map TrS.ptr ++ [some (⟨b, 0, none⟩ : Addr)] = (ts ++ [(⟨b, p, o, a, c, l⟩ : TrS Item)]).map TrS.ptr := by rw [List.map_append]; rfl
theorem SOk.del (h : SOk self now (ts.map TrS.p)) (e : ts = l1 ++ t :: l2) : SOk self now ((l1 ++ l2).map TrS.p) := by
  subst e
  refine ⟨h.self0, h.now0, fun x hx => h.all x ?_⟩
  simp only [List.map_append, List.map_cons, List.mem_append, List.mem_cons] at hx ⊢
  rcases hx with hx | hx
  · exact .inl hx
  · exact .inr (.inr hx)
theorem SOk.snoc (h : SOk self now (ts.map TrS.p)) (ht : LOk now t.left ∧ t.left.length ≤ 4294967295) : SOk self now ((ts ++ [t]).map TrS.p) := by
  refine ⟨h.self0, h.now0, fun x hx => ?_⟩
  rw [List.map_append] at hx
  rcases List.mem_append.1 hx with hx | hx
  · exact h.all x hx
  · simp only [List.map_cons, List.map_nil, List.mem_singleton] at hx; subst hx; exact ht
theorem can_may (h : ¬ mayE self part to = 0) : canE self pl part to = mayE self part to ∧ canL self pl part to = pl := by
  have e : canE self pl part to = 1 := by rw [canE, if_neg h]
  exact ⟨by rw [e, mayE_one h], by rw [canL, e]; rfl⟩
theorem can_none (h : mayE self part to = 0) (hl : leftN pl part to = 0) : canE self pl part to = 180 ∧ canL self pl part to = pl := by
  have e : canE self pl part to = 180 := by rw [canE, if_pos h, if_pos hl]
  exact ⟨e, by rw [canL, e]; rfl⟩
theorem can_in (h : mayE self part to = 0) (hl : leftN (ts.map TrS.p) part to ≠ 0) (hx : (ts.map TrS.p).findIdx? (sameT part to) = some k) (e : ts = l1 ++ t :: l2) (h1 : l1.length = k) :
    canE self (ts.map TrS.p) part to = 0 ∧ canL self (ts.map TrS.p) part to = (l1 ++ l2).map TrS.p := by
  have e2 : canE self (ts.map TrS.p) part to = 0 := by rw [canE, if_pos h, if_neg hl]
  exact ⟨e2, by rw [canL, if_pos e2, without_in hx e h1]⟩
theorem uniq_mem : ∀ {l : List ByteArray} {x : ByteArray}, x ∈ uniq l → x ∈ l := by
  intro l x
  have : ∀ (l s : List ByteArray), x ∈ l.foldl uqStep s → x ∈ s ∨ x ∈ l := by
    intro l
    induction l with
    | nil => intro s h; exact .inl h
    | cons y l ih =>
      intro s h
      rcases ih _ h with h | h
      · unfold uqStep at h
        split at h
        · exact .inl h
        · rcases List.mem_append.1 h with h | h
          · exact .inl h
          · simp only [List.mem_singleton] at h; exact .inr (by simp [h])
      · exact .inr (List.mem_cons_of_mem _ h)
  intro h
  exact (this l [] h).resolve_left (by simp)
theorem newI_ok (h0 : 0 ≤ now) (hk : ∀ k ∈ keys, k.size ≤ 32) (hl : keys.length ≤ 1048576) : LOk now (newI (uniq (sortN keys))) ∧ (newI (uniq (sortN keys))).length ≤ 4294967295 := by
  refine ⟨fun x hx => ?_, ?_⟩
  · obtain ⟨k, hk2, rfl⟩ := List.mem_map.1 hx
    exact ⟨hk k (sortN_mem.mem_iff.1 (uniq_mem hk2)), Int.le_refl _, by show (-1 : Int) ≤ now; omega⟩
  · rw [newI, List.length_map]
    have := uniq_le (sortN keys)
    rw [sortN_mem.length_eq] at this
    omega
theorem isKey_size {k : ByteArray} (h : isKey k = true) : k.size ≤ 32 := by
  simp only [isKey, Bool.and_eq_true, decide_eq_true_eq] at h
  omega
theorem hcK (h : keys.any (fun k => !isKey k) = false) : ∀ k ∈ keys, k.size ≤ 32 := fun k hk => by
  have := List.any_eq_false.1 h k hk
  exact isKey_size (by simpa using this)
theorem snd_moved (h1 : ∀ q, own al' q → q < w.heap.size → sndS s al ts q) (h2 : ∀ q, trsS ts' q → q < w.heap.size → sndS s al ts q) : ∀ q, sndS s al' ts' q → q < w.heap.size → sndS s al ts q := by
  rintro q (rfl | h | h) hl
  · exact .inl rfl
  · exact h1 q h hl
  · exact h2 q h hl
end

theorem en40 : Enters Try.prog 40 := enters_of Try.func40 rfl (by kernel_rfl)
theorem en41 : Enters Try.prog 41 := enters_of Try.func41 rfl (by kernel_rfl)
theorem en42 : Enters Try.prog 42 := enters_of Try.func42 rfl (by kernel_rfl)
theorem en43 : Enters Try.prog 43 := enters_of Try.func43 rfl (by kernel_rfl)
theorem en44 : Enters Try.prog 44 := enters_of Try.func44 rfl (by kernel_rfl)
theorem en46 : Enters Try.prog 46 := enters_of Try.func46 rfl (by kernel_rfl)
theorem en47 : Enters Try.prog 47 := enters_of Try.func47 rfl (by kernel_rfl)
theorem en48 : Enters Try.prog 48 := enters_of Try.func48 rfl (by kernel_rfl)

set_option maxRecDepth 100000 in
set_option maxHeartbeats 4000000 in
theorem delete_tr (al : Option Addr) (l : List (Option Addr)) (cl k : Nat) (w : World) (ho : OwnSl w 90 al cl l) (hk : k < l.length) (hl : l.length ≤ 4294967295) :
    Calls Try.prog 46 #[.slice (al) (l.length) (cl), .int .i64 (((k : Nat) : Int)), .int .i64 (((k + 1 : Nat) : Int))] w (Ret (fun v w' => v = .slice al (l.take k ++ l.drop (k + 1)).length cl ∧ OwnSl w' 90 al cl (l.take k ++ l.drop (k + 1)) ∧ Keeps (own al) w w')) := by
  have hcap := ho.le_cap
  refine calls_run (n := 33) Try.func46 rfl rfl rfl ?_
  refine Run.seq ?_
  refine Run.region ?_
  refine RL.val (x_assignSl rfl) ?_
  refine RL.nil ?_
  refine Run.seq ?_
  refine Run.region ?_
  refine RL.val (x_moveSl rfl) ?_
  refine RL.val (x_moveI rfl) ?_
  refine RL.val (x_moveI rfl) ?_
  refine RL.val (x_moveSl rfl) ?_
  refine RL.val (x_lenSl Try.underlying58 rfl) ?_
  refine RL.val (x_slice3 Try.underlying58 ty90 rfl rfl rfl rfl (by omega) (by omega) (by omega)) ?_
  refine RL.nil ?_
  refine Run.seq ?_
  refine Run.seq ?_
  refine Run.region ?_
  refine RL.val (x_moveI rfl) ?_
  refine RL.val (x_moveI rfl) ?_
  refine RL.val (x_eqI rfl rfl) ?_
  refine RL.nil ?_
  refine Run.cond rfl (fun hc16 => ?_) (fun hc16 => ?_)
  · try simp only [br] at hc16
    exact absurd hc16 (by omega)
  · try simp only [br] at hc16
    refine Run.skip ?_
    refine Run.seq ?_
    refine Run.region ?_
    refine RL.val (x_moveSl rfl) ?_
    refine RL.val (x_lenSl Try.underlying58 rfl) ?_
    refine RL.val (x_assignI rfl) ?_
    refine RL.nil ?_
    refine Run.seq ?_
    refine Run.drawT [] (m := 8) (by kernel_rfl) rfl ?_
    intro w_1 K_2
    replace ho := ho.ext K_2
    have K0 := (K_2 : Ext w _).to (S := (own al))
    refine ⟨fun w' => True, ?_⟩
    refine RT.takeP (v := .slice (al) (l.length) (cl)) 0 rfl (by kernel_rfl) (.inr trivial) (fun _ => (x_moveSl rfl)) ?_
    refine RT.takeP (v := .int .i64 (((k : Nat) : Int))) 1 rfl (by kernel_rfl) (.inr trivial) (fun _ => (x_moveI rfl)) ?_
    refine RT.takeP (v := .slice (al) (k) (cl)) 2 rfl (by kernel_rfl) (.inr trivial) (fun _ => (x_sliceTo Try.underlying58 ty90 rfl rfl (by omega))) ?_
    refine RT.takeP (v := .slice (al) (l.length) (cl)) 3 rfl (by kernel_rfl) (.inr trivial) (fun _ => (x_moveSl rfl)) ?_
    refine RT.takeP (v := .int .i64 (((k + 1 : Nat) : Int))) 4 rfl (by kernel_rfl) (.inr trivial) (fun _ => (x_moveI rfl)) ?_
    refine RT.takeP (v := .slice (advA al cl (k + 1) 1) ((l.drop (k + 1)).length) (cl - (k + 1))) 5 rfl (by kernel_rfl) (.inr trivial) (fun _ => (x_sliceFrom (xs := l) Try.underlying58 ty90 rfl rfl (by omega))) ?_
    have ho_3 := ho.take k
    have hsx_4 := (ho.sl.from (k + 1) cl (ho.le_cap))
    refine RT.st 6 rfl (by kernel_rfl) rfl <| St1.append (xs := l.take k) (ys := l.drop (k + 1)) Try.underlying58 ty90 rfl (slLen rfl (List.length_take_of_le (by omega))) rfl ho_3 hsx_4 (by simp only [List.length_append, List.length_take, List.length_drop]; omega) (by decide) ?_
    intro a_5 c_6 w_7 ho_8 K_9 hm_10 hrm_11
    have pg_12 : ∀ q_, own a_5 q_ → q_ < w.heap.size → (own al) q_ := hm_10.inS (fun x h _ => h) K0.size
    replace K0 := K0.trans K_9 (fun x hlt hx => (fun x h _ => h) x hx hlt)
    clear hm_10
    have e1 := (hrm_11 (by simp only [List.length_take, List.length_drop]; omega)).1.symm
    have e2 := (hrm_11 (by simp only [List.length_take, List.length_drop]; omega)).2.symm
    clear hrm_11
    subst e1; subst e2
    refine ⟨.inr trivial, ?_⟩
    refine RT.takeP (v := .slice (al) (((l.take k) ++ l.drop (k + 1)).length) (cl)) 7 rfl (by kernel_rfl) (.inr trivial) (fun _ => (x_assignSl rfl)) ?_
    refine RT.done (by kernel_rfl) ?_
    refine Run.seq ?_
    refine Run.region ?_
    refine RL.val (x_moveSl rfl) ?_
    refine RL.val (x_moveSl rfl) ?_
    refine RL.val (x_lenSl Try.underlying58 rfl) ?_
    refine RL.val (x_moveI rfl) ?_
    refine RL.val (x_sliceFT Try.underlying58 ty90 rfl rfl rfl (by simp only [List.length_append, List.length_take, List.length_drop]; omega) (by omega)) ?_
    refine RL.st rfl <| St1.clearTail (xs := (l.take k) ++ l.drop (k + 1)) Try.underlying58 ty90 rfl (by simp [Value.cells, Value.oneCell']) rfl ho_8 (by simp only [List.length_append, List.length_take, List.length_drop]; omega) ?_
    intro w_13 ho_15 K_14
    replace K0 := K0.trans K_14 (fun x hlt hx => pg_12 x hx hlt)
    replace ho_8 := ho_15
    clear ho_15
    refine RL.nil ?_
    refine Run.seq ?_
    refine Run.region ?_
    refine RL.val (x_moveSl rfl) ?_
    refine RL.val (x_assignSl rfl) ?_
    refine RL.nil ?_
    refine Run.ret1 (v := .slice (al) (((l.take k) ++ l.drop (k + 1)).length) (cl)) Try.func46 rfl rfl ?_
    exact ⟨_, rfl, rfl, ho_8, K0⟩

set_option maxRecDepth 100000 in
set_option maxHeartbeats 4000000 in
theorem delete_item (al : Option Addr) (l : List Item) (cl k : Nat) (w : World) (ho : OwnSl w 97 al cl l) (hk : k < l.length) (hl : l.length ≤ 4294967295) :
    Calls Try.prog 53 #[.slice (al) (l.length) (cl), .int .i64 (((k : Nat) : Int)), .int .i64 (((k + 1 : Nat) : Int))] w (Ret (fun v w' => v = .slice al (l.take k ++ l.drop (k + 1)).length cl ∧ OwnSl w' 97 al cl (l.take k ++ l.drop (k + 1)) ∧ Keeps (own al) w w')) := by
  have hcap := ho.le_cap
  refine calls_run (n := 33) Try.func53 rfl rfl rfl ?_
  refine Run.seq ?_
  refine Run.region ?_
  refine RL.val (x_assignSl rfl) ?_
  refine RL.nil ?_
  refine Run.seq ?_
  refine Run.region ?_
  refine RL.val (x_moveSl rfl) ?_
  refine RL.val (x_moveI rfl) ?_
  refine RL.val (x_moveI rfl) ?_
  refine RL.val (x_moveSl rfl) ?_
  refine RL.val (x_lenSl Try.underlying87 rfl) ?_
  refine RL.val (x_slice3 Try.underlying87 ty97 rfl rfl rfl rfl (by omega) (by omega) (by omega)) ?_
  refine RL.nil ?_
  refine Run.seq ?_
  refine Run.seq ?_
  refine Run.region ?_
  refine RL.val (x_moveI rfl) ?_
  refine RL.val (x_moveI rfl) ?_
  refine RL.val (x_eqI rfl rfl) ?_
  refine RL.nil ?_
  refine Run.cond rfl (fun hc16 => ?_) (fun hc16 => ?_)
  · try simp only [br] at hc16
    exact absurd hc16 (by omega)
  · try simp only [br] at hc16
    refine Run.skip ?_
    refine Run.seq ?_
    refine Run.region ?_
    refine RL.val (x_moveSl rfl) ?_
    refine RL.val (x_lenSl Try.underlying87 rfl) ?_
    refine RL.val (x_assignI rfl) ?_
    refine RL.nil ?_
    refine Run.seq ?_
    refine Run.drawT [] (m := 8) (by kernel_rfl) rfl ?_
    intro w_1 K_2
    replace ho := ho.ext K_2
    have K0 := (K_2 : Ext w _).to (S := (own al))
    refine ⟨fun w' => True, ?_⟩
    refine RT.takeP (v := .slice (al) (l.length) (cl)) 0 rfl (by kernel_rfl) (.inr trivial) (fun _ => (x_moveSl rfl)) ?_
    refine RT.takeP (v := .int .i64 (((k : Nat) : Int))) 1 rfl (by kernel_rfl) (.inr trivial) (fun _ => (x_moveI rfl)) ?_
    refine RT.takeP (v := .slice (al) (k) (cl)) 2 rfl (by kernel_rfl) (.inr trivial) (fun _ => (x_sliceTo Try.underlying87 ty97 rfl rfl (by omega))) ?_
    refine RT.takeP (v := .slice (al) (l.length) (cl)) 3 rfl (by kernel_rfl) (.inr trivial) (fun _ => (x_moveSl rfl)) ?_
    refine RT.takeP (v := .int .i64 (((k + 1 : Nat) : Int))) 4 rfl (by kernel_rfl) (.inr trivial) (fun _ => (x_moveI rfl)) ?_
    refine RT.takeP (v := .slice (advA al cl (k + 1) 3) ((l.drop (k + 1)).length) (cl - (k + 1))) 5 rfl (by kernel_rfl) (.inr trivial) (fun _ => (x_sliceFrom (xs := l) Try.underlying87 ty97 rfl rfl (by omega))) ?_
    have ho_3 := ho.take k
    have hsx_4 := (ho.sl.from (k + 1) cl (ho.le_cap))
    refine RT.st 6 rfl (by kernel_rfl) rfl <| St1.append (xs := l.take k) (ys := l.drop (k + 1)) Try.underlying87 ty97 rfl (slLen rfl (List.length_take_of_le (by omega))) rfl ho_3 hsx_4 (by simp only [List.length_append, List.length_take, List.length_drop]; omega) (by decide) ?_
    intro a_5 c_6 w_7 ho_8 K_9 hm_10 hrm_11
    have pg_12 : ∀ q_, own a_5 q_ → q_ < w.heap.size → (own al) q_ := hm_10.inS (fun x h _ => h) K0.size
    replace K0 := K0.trans K_9 (fun x hlt hx => (fun x h _ => h) x hx hlt)
    clear hm_10
    have e1 := (hrm_11 (by simp only [List.length_take, List.length_drop]; omega)).1.symm
    have e2 := (hrm_11 (by simp only [List.length_take, List.length_drop]; omega)).2.symm
    clear hrm_11
    subst e1; subst e2
    refine ⟨.inr trivial, ?_⟩
    refine RT.takeP (v := .slice (al) (((l.take k) ++ l.drop (k + 1)).length) (cl)) 7 rfl (by kernel_rfl) (.inr trivial) (fun _ => (x_assignSl rfl)) ?_
    refine RT.done (by kernel_rfl) ?_
    refine Run.seq ?_
    refine Run.region ?_
    refine RL.val (x_moveSl rfl) ?_
    refine RL.val (x_moveSl rfl) ?_
    refine RL.val (x_lenSl Try.underlying87 rfl) ?_
    refine RL.val (x_moveI rfl) ?_
    refine RL.val (x_sliceFT Try.underlying87 ty97 rfl rfl rfl (by simp only [List.length_append, List.length_take, List.length_drop]; omega) (by omega)) ?_
    refine RL.st rfl <| St1.clearTail (xs := (l.take k) ++ l.drop (k + 1)) Try.underlying87 ty97 rfl (by simp [Value.cells, Value.oneCell']) rfl ho_8 (by simp only [List.length_append, List.length_take, List.length_drop]; omega) ?_
    intro w_13 ho_15 K_14
    replace K0 := K0.trans K_14 (fun x hlt hx => pg_12 x hx hlt)
    replace ho_8 := ho_15
    clear ho_15
    refine RL.nil ?_
    refine Run.seq ?_
    refine Run.region ?_
    refine RL.val (x_moveSl rfl) ?_
    refine RL.val (x_assignSl rfl) ?_
    refine RL.nil ?_
    refine Run.ret1 (v := .slice (al) (((l.take k) ++ l.drop (k + 1)).length) (cl)) Try.func53 rfl rfl ?_
    exact ⟨_, rfl, rfl, ho_8, K0⟩

set_option maxRecDepth 100000 in
set_option maxHeartbeats 4000000 in
theorem compact_ (a : Option Addr) (xs : List ByteArray) (c : Nat) (w : World) (ho : OwnSl w 9 a c xs) (hl : xs.length ≤ 4294967295) :
    Calls Try.prog 40 #[.slice (a) (xs.length) (c)] w (Ret (fun v w' => v = .slice a (uniq xs).length c ∧ OwnSl w' 9 a c (uniq xs) ∧ Keeps (own a) w w')) := by
  have hcap := ho.le_cap
  refine calls_run (n := 61) Try.func40 rfl rfl rfl ?_
  refine Run.seq ?_
  refine Run.region ?_
  refine RL.val (x_assignSl rfl) ?_
  refine RL.nil ?_
  refine Run.seq ?_
  refine Run.seq ?_
  refine Run.region ?_
  refine RL.val (x_moveSl rfl) ?_
  refine RL.val (x_lenSl Try.underlying22 rfl) ?_
  refine RL.val (x_ltI rfl rfl) ?_
  refine RL.nil ?_
  refine Run.cond rfl (fun hc8 => ?_) (fun hc8 => ?_)
  · try simp only [br] at hc8
    refine Run.seq ?_
    refine Run.region ?_
    refine RL.val (x_moveSl rfl) ?_
    refine RL.val (x_assignSl rfl) ?_
    refine RL.nil ?_
    refine Run.ret1 (v := .slice (a) (xs.length) (c)) Try.func40 rfl rfl ?_
    have e : uniq xs = xs := by have := uniq_first (xs := xs) (Nat.le_refl _) (fun j x y hj => absurd hj (by omega)); rwa [List.take_length] at this
    rw [e]
    exact ⟨_, rfl, rfl, ho, Keeps.refl _ w⟩
  · try simp only [br] at hc8
    refine Run.skip ?_
    refine Run.seq ?_
    refine Run.seq ?_
    refine Run.region ?_
    refine RL.val (x_assignI rfl) ?_
    refine RL.nil ?_
    refine Run.block ?_
    refine Run.loop (ι := Nat) (fun i ρ' w' => Holds ρ' [(0, .slice (a) (xs.length) (c)), (3, .int .i64 (((i : Nat) : Int)))] ∧ Keeps (own a) w w' ∧ (OwnSl w' 9 (a) (c) (xs)) ∧ (1 ≤ i ∧ i ≤ xs.length) ∧ (NoR xs i)) (fun i => xs.length - i) 1 ?_ ?_
    · refine ⟨⟨rfl, rfl, trivial⟩, (Keeps.refl _ w), ho, ?_, ?_⟩
      · omega
      · exact NoR.one _
    clear ho
    rintro i ρ_3 w_1 ⟨hH_2, K0, ho, hi, hno⟩ ih1
    obtain ⟨ρ₀, rfl⟩ := hH_2.ex
    clear hH_2
    refine Run.seq ?_
    refine Run.seq ?_
    refine Run.region ?_
    refine RL.val (x_moveI rfl) ?_
    refine RL.val (x_moveSl rfl) ?_
    refine RL.val (x_lenSl Try.underlying22 rfl) ?_
    refine RL.val (x_ltI rfl rfl) ?_
    refine RL.nil ?_
    refine Run.cond rfl (fun hc13 => ?_) (fun hc13 => ?_)
    · try simp only [br] at hc13
      refine Run.skip ?_
      refine Run.seq ?_
      refine Run.block ?_
      refine Run.seq ?_
      obtain ⟨b_6, o_7, x, hx, ha_8, hc_9⟩ := ho.sl.el (i := i) (by first | omega | (simp only [List.length_set]; omega))
      obtain ⟨b_12, o_13, y, hy, ha_14, hc_15⟩ := ho.sl.el (i := (((i : Nat) : Int) - 1).toNat) (by first | omega | (simp only [List.length_set]; omega))
      refine Run.draw' (m := 10) (by kernel_rfl) rfl ?_
      intro w_4 K_5
      replace ho := ho.ext K_5
      replace hc_9 := hc_9.ext K_5
      replace hc_15 := hc_15.ext K_5
      replace K0 := K0.ext K_5
      refine RA.take (v := .slice (a) (xs.length) (c)) 0 rfl (by kernel_rfl) rfl (by rintro _ rfl; exact (x_moveSl rfl)) ?_
      refine RA.take (v := .int .i64 (((i : Nat) : Int))) 1 rfl (by kernel_rfl) rfl (by rintro _ rfl; exact (x_moveI rfl)) ?_
      refine RA.take (v := .pointer (some ⟨b_6, o_7 + i * 1, none⟩)) 2 rfl (by kernel_rfl) rfl (by rintro _ rfl; exact (x_idxN Try.underlying22 ty9 rfl rfl ha_8 (by first | omega | (simp only [List.length_set]; omega)))) ?_
      refine RA.take (v := .string (x)) 3 rfl (by kernel_rfl) rfl (by rintro _ rfl; exact (x_ldV (v := .string (x)) (y := x) ty9 rfl hc_9 rfl)) ?_
      refine RA.take (v := .slice (a) (xs.length) (c)) 4 rfl (by kernel_rfl) rfl (by rintro _ rfl; exact (x_moveSl rfl)) ?_
      refine RA.take (v := .int .i64 (((i : Nat) : Int))) 5 rfl (by kernel_rfl) rfl (by rintro _ rfl; exact (x_moveI rfl)) ?_
      refine RA.take (v := .int .i64 (((i : Nat) : Int) - 1)) 6 rfl (by kernel_rfl) rfl (by rintro _ rfl; exact (x_sub rfl rfl (by omega) (by omega))) ?_
      refine RA.take (v := .pointer (some ⟨b_12, o_13 + (((i : Nat) : Int) - 1).toNat * 1, none⟩)) 7 rfl (by kernel_rfl) rfl (by rintro _ rfl; exact (x_idxZ Try.underlying22 ty9 rfl rfl ha_14 (by omega) (by first | omega | (simp only [List.length_set]; omega)))) ?_
      refine RA.take (v := .string (y)) 8 rfl (by kernel_rfl) rfl (by rintro _ rfl; exact (x_ldV (v := .string (y)) (y := y) ty9 rfl hc_15 rfl)) ?_
      refine RA.take (v := .bool (decide (x = y))) 9 rfl (by kernel_rfl) rfl (by rintro _ rfl; exact (x_eqS rfl rfl)) ?_
      refine RA.done (by kernel_rfl) ?_
      have hy' : xs[i - 1]? = some y := by rw [show i - 1 = ((i : Int) - 1).toNat by omega]; exact hy
      refine Run.cond rfl (fun hc25 => ?_) (fun hc25 => ?_)
      · try simp only [br] at hc25
        refine Run.seq ?_
        have hil : i < xs.length := (List.getElem?_eq_some_iff.1 hx).1
        have e1 := uniq_at hno hi.1 hx hy' hc25
        have hdl : (xs.drop i).length = xs.length - i := List.length_drop
        refine Run.region ?_
        refine RL.val (x_moveSl rfl) ?_
        refine RL.val (x_moveI rfl) ?_
        refine RL.val (x_sliceFrom (xs := xs) Try.underlying22 ty9 rfl rfl (by omega)) ?_
        refine RL.val (x_assignSl rfl) ?_
        refine RL.nil ?_
        refine Run.seq ?_
        refine Run.seq ?_
        refine Run.region ?_
        refine RL.val (x_assignI rfl) ?_
        refine RL.nil ?_
        refine Run.block ?_
        refine Run.loop (ι := Nat) (fun q ρ' w' => ∃ ys : List ByteArray, Holds ρ' [(0, .slice (a) (xs.length) (c)), (3, .int .i64 ((((uniq (xs.take (i + q))).length : Nat) : Int))), (4, .slice (advA a c i 1) ((xs.drop i).length) (c - i)), (5, .int .i64 (((q : Nat) : Int)))] ∧ Keeps (own a) w w' ∧ (OwnSl w' 9 a c (ys)) ∧ (∀ q_, own a q_ → q_ < w.heap.size → (own a) q_) ∧ (1 ≤ q ∧ i + q ≤ xs.length) ∧ (ys.take (uniq (xs.take (i + q))).length = (uniq (xs.take (i + q)))) ∧ (ys.drop (i + q - 1) = xs.drop (i + q - 1)) ∧ (ys.length = xs.length) ∧ ((uniq (xs.take (i + q))).length + 1 ≤ i + q)) (fun q => xs.length - q) 1 ?_ ?_
        · rw [e1, List.length_take, Nat.min_eq_left (Nat.le_of_lt hil)]
          refine ⟨_, ⟨rfl, rfl, rfl, rfl, trivial⟩, K0, ho, (fun x h _ => h), ?_, ?_, ?_, ?_, ?_⟩
          · omega
          · rfl
          · rfl
          · rfl
          · omega
        clear ho
        clear K0
        rintro q ρ_22 w_18 ⟨ys, hH_19, K0, ho_20, pr_21, hq, h1, h2, h3, h4⟩ ih2
        obtain ⟨ρ₀, rfl⟩ := hH_19.ex
        clear hH_19
        refine Run.seq ?_
        refine Run.seq ?_
        refine Run.region ?_
        refine RL.val (x_moveI rfl) ?_
        refine RL.val (x_moveSl rfl) ?_
        refine RL.val (x_lenSl Try.underlying22 rfl) ?_
        refine RL.val (x_ltI rfl rfl) ?_
        refine RL.nil ?_
        refine Run.cond rfl (fun hc32 => ?_) (fun hc32 => ?_)
        · try simp only [br] at hc32
          refine Run.skip ?_
          refine Run.seq ?_
          refine Run.block ?_
          refine Run.seq ?_
          obtain ⟨b_25, o_26, x2, hx2, ha_27, hc_28⟩ := (ho_20.sl.from i c (ho_20.le_cap)).el (i := q) (by rw [List.length_drop]; omega)
          obtain ⟨b_31, o_32, y2, hy2, ha_33, hc_34⟩ := (ho_20.sl.from i c (ho_20.le_cap)).el (i := (((q : Nat) : Int) - 1).toNat) (by rw [List.length_drop]; omega)
          refine Run.draw' (m := 10) (by kernel_rfl) rfl ?_
          intro w_23 K_24
          replace ho_20 := ho_20.ext K_24
          replace hc_28 := hc_28.ext K_24
          replace hc_34 := hc_34.ext K_24
          replace K0 := K0.ext K_24
          refine RA.take (v := .slice (advA a c i 1) ((xs.drop i).length) (c - i)) 0 rfl (by kernel_rfl) rfl (by rintro _ rfl; exact (x_moveSl rfl)) ?_
          refine RA.take (v := .int .i64 (((q : Nat) : Int))) 1 rfl (by kernel_rfl) rfl (by rintro _ rfl; exact (x_moveI rfl)) ?_
          refine RA.take (v := .pointer (some ⟨b_25, o_26 + q * 1, none⟩)) 2 rfl (by kernel_rfl) rfl (by rintro _ rfl; exact (x_idxN Try.underlying22 ty9 rfl rfl ha_27 (by rw [List.length_drop]; omega))) ?_
          refine RA.take (v := .string (x2)) 3 rfl (by kernel_rfl) rfl (by rintro _ rfl; exact (x_ldV (v := .string (x2)) (y := x2) ty9 rfl hc_28 rfl)) ?_
          refine RA.take (v := .slice (advA a c i 1) ((xs.drop i).length) (c - i)) 4 rfl (by kernel_rfl) rfl (by rintro _ rfl; exact (x_moveSl rfl)) ?_
          refine RA.take (v := .int .i64 (((q : Nat) : Int))) 5 rfl (by kernel_rfl) rfl (by rintro _ rfl; exact (x_moveI rfl)) ?_
          refine RA.take (v := .int .i64 (((q : Nat) : Int) - 1)) 6 rfl (by kernel_rfl) rfl (by rintro _ rfl; exact (x_sub rfl rfl (by omega) (by omega))) ?_
          refine RA.take (v := .pointer (some ⟨b_31, o_32 + (((q : Nat) : Int) - 1).toNat * 1, none⟩)) 7 rfl (by kernel_rfl) rfl (by rintro _ rfl; exact (x_idxZ Try.underlying22 ty9 rfl rfl ha_33 (by omega) (by rw [List.length_drop]; omega))) ?_
          refine RA.take (v := .string (y2)) 8 rfl (by kernel_rfl) rfl (by rintro _ rfl; exact (x_ldV (v := .string (y2)) (y := y2) ty9 rfl hc_34 rfl)) ?_
          refine RA.take (v := .bool (!decide (x2 = y2))) 9 rfl (by kernel_rfl) rfl (by rintro _ rfl; exact (x_neS rfl rfl)) ?_
          refine RA.done (by kernel_rfl) ?_
          refine Run.cond rfl (fun hc44 => ?_) (fun hc44 => ?_)
          · try simp only [br] at hc44
            refine Run.seq ?_
            refine Run.region ?_
            refine RL.val (x_moveSl rfl) ?_
            refine RL.val (x_moveI rfl) ?_
            refine RL.val (x_moveSl rfl) ?_
            refine RL.val (x_moveI rfl) ?_
            obtain ⟨b_37, o_38, x_41, hx_42, ha_39, hc_40⟩ := (ho_20.sl.from i c (ho_20.le_cap)).el (i := q) (by rw [List.length_drop]; omega)
            obtain rfl : x2 = x_41 := Option.some.inj (hx2.symm.trans hx_42)
            refine RL.val (x_idxN Try.underlying22 ty9 rfl rfl ha_39 (by rw [List.length_drop]; omega)) ?_
            refine RL.val (x_ldV (v := .string (x2)) (y := x2) ty9 rfl hc_40 rfl) ?_
            obtain ⟨b_43, o_44, x_47, hx_48, ha_45, hc_46⟩ := ho_20.sl.el (i := (uniq (xs.take (i + q))).length) (by omega)
            refine RL.val (x_idxN Try.underlying22 ty9 rfl rfl ha_45 (by omega)) ?_
            refine RL.st rfl <| St1.storeEl (v := .string (x2)) (off := 0) (i := (uniq (xs.take (i + q))).length) x2 ty9 rfl rfl rfl (by simp [Value.cells, Value.oneCell']) ho_20 ha_45 hx_48 rfl (by decide) rfl ?_
            intro w_49 ho_51 K_50
            clear hc_40
            clear hc_46
            replace K0 := K0.trans K_50 (fun x hlt hx => pr_21 x hx hlt)
            replace ho_20 := ho_51
            clear ho_51
            refine RL.nil ?_
            refine Run.region ?_
            refine RL.val (x_moveI rfl) ?_
            refine RL.val (litI (c := ((((uniq (xs.take (i + q))).length) + 1 : Nat) : Int)) (x_add rfl rfl (by omega) (by omega)) rfl) ?_
            refine RL.val (x_assignI rfl) ?_
            refine RL.nil ?_
            refine Run.inBlock ?_
            refine Run.region ?_
            refine RL.val (x_moveI rfl) ?_
            refine RL.val (litI (c := ((q + 1 : Nat) : Int)) (x_add rfl rfl (by omega) (by omega)) rfl) ?_
            refine RL.val (x_assignI rfl) ?_
            refine RL.nil ?_
            have hz := drop_at hx2 h2 (by omega)
            have hz2 := drop_at hy2 h2 (by omega)
            rw [show i + ((q : Int) - 1).toNat = i + q - 1 by omega] at hz2
            have e : uniq (xs.take (i + (q + 1))) = _ := uniq_step (j := i + q) (by omega) hz hz2
            rw [if_neg hc44] at e
            have e2 : (uniq (xs.take (i + (q + 1)))).length = (uniq (xs.take (i + q))).length + 1 := by rw [e]; simp
            refine ih2 (q + 1) _ _ ?_ (by omega)
            rw [e2, e]
            refine ⟨_, ⟨rfl, rfl, rfl, rfl, trivial⟩, K0, ho_20, pr_21, ?_, ?_, ?_, ?_, ?_⟩
            · omega
            · rw [set_take_succ (by omega), h1]
            · rw [set_drop_gt (by omega), show i + (q + 1) - 1 = (i + q - 1) + 1 by omega]; exact drop_succ_eq h2
            · rw [List.length_set]; exact h3
            · omega
          · try simp only [br] at hc44
            refine Run.skip ?_
            refine Run.inBlock ?_
            refine Run.region ?_
            refine RL.val (x_moveI rfl) ?_
            refine RL.val (litI (c := ((q + 1 : Nat) : Int)) (x_add rfl rfl (by omega) (by omega)) rfl) ?_
            refine RL.val (x_assignI rfl) ?_
            refine RL.nil ?_
            have hz := drop_at hx2 h2 (by omega)
            have hz2 := drop_at hy2 h2 (by omega)
            rw [show i + ((q : Int) - 1).toNat = i + q - 1 by omega] at hz2
            have e : uniq (xs.take (i + (q + 1))) = _ := uniq_step (j := i + q) (by omega) hz hz2
            rw [if_pos hc44] at e
            refine ih2 (q + 1) _ _ ?_ (by omega)
            rw [e]
            refine ⟨_, ⟨rfl, rfl, rfl, rfl, trivial⟩, K0, ho_20, pr_21, ?_, ?_, ?_, ?_, ?_⟩
            · omega
            · exact h1
            · rw [show i + (q + 1) - 1 = (i + q - 1) + 1 by omega]; exact drop_succ_eq h2
            · exact h3
            · omega
        · try simp only [br] at hc32
          refine Run.exit rfl ?_
          refine Run.seq ?_
          have hcap2 : ys.length ≤ c := by omega
          refine Run.region ?_
          refine RL.val (x_moveSl rfl) ?_
          refine RL.val (x_moveI rfl) ?_
          refine RL.val (x_sliceFrom (xs := ys) Try.underlying22 ty9 (slLen rfl h3) rfl (by omega)) ?_
          have ht_55 := ho_20.take ((uniq (xs.take (i + q))).length)
          have ht_55_l : (ys.take ((uniq (xs.take (i + q))).length)).length = (uniq (xs.take (i + q))).length := by rw [List.length_take]; omega
          refine RL.st rfl <| St1.clearTail (xs := ys.take ((uniq (xs.take (i + q))).length)) Try.underlying22 ty9 rfl (by simp [Value.cells, Value.oneCell']) (by rw [ht_55_l]; exact rfl) ht_55 (by rw [ht_55_l]; simp only [List.length_drop]; omega) ?_
          intro w_52 ho_54 K_53
          replace K0 := K0.trans K_53 (fun x hlt hx => pr_21 x hx hlt)
          replace ho_20 := ho_54
          clear ho_54 ht_55
          refine RL.nil ?_
          refine Run.seq ?_
          refine Run.region ?_
          refine RL.val (x_moveSl rfl) ?_
          refine RL.val (x_moveI rfl) ?_
          refine RL.val (litSl (m' := (ys.take ((uniq (xs.take (i + q))).length)).length) (x_sliceTo Try.underlying22 ty9 rfl rfl (by omega)) (by rw [List.length_take]; omega)) ?_
          refine RL.val (x_assignSl rfl) ?_
          refine RL.nil ?_
          refine Run.ret1 (v := .slice (a) ((ys.take ((uniq (xs.take (i + q))).length)).length) (c)) Try.func40 rfl rfl ?_
          have hkq : i + q = xs.length := by omega
          rw [hkq, List.take_length] at h1 ho_20 ⊢
          rw [h1] at ho_20 ⊢
          exact ⟨_, rfl, rfl, ho_20, K0⟩
      · try simp only [br] at hc25
        refine Run.skip ?_
        refine Run.inBlock ?_
        refine Run.region ?_
        refine RL.val (x_moveI rfl) ?_
        refine RL.val (litI (c := ((i + 1 : Nat) : Int)) (x_add rfl rfl (by omega) (by omega)) rfl) ?_
        refine RL.val (x_assignI rfl) ?_
        refine RL.nil ?_
        refine ih1 (i + 1) _ _ ?_ (by omega)
        refine ⟨⟨rfl, rfl, trivial⟩, K0, ho, ?_, ?_⟩
        · omega
        · exact hno.pred hi.1 hx hy' hc25
    · try simp only [br] at hc13
      refine Run.exit rfl ?_
      refine Run.seq ?_
      refine Run.region ?_
      refine RL.val (x_moveSl rfl) ?_
      refine RL.val (x_assignSl rfl) ?_
      refine RL.nil ?_
      refine Run.ret1 (v := .slice (a) (xs.length) (c)) Try.func40 rfl rfl ?_
      have hil : i = xs.length := by omega
      have e : uniq xs = xs := by have := uniq_first (xs := xs) (Nat.le_refl _) (hil ▸ hno); rwa [List.take_length] at this
      rw [e]
      exact ⟨_, rfl, rfl, ho, K0⟩

set_option maxRecDepth 100000 in
set_option maxHeartbeats 4000000 in
theorem begin1_ (s : ByteArray) (w : World) (hl : s.size ≤ 4294967295) :
    Calls Try.prog 43 #[.string (s)] w (Ret (fun v w' => v = .bool (!isKey s) ∧ Ext w w')) := by
  refine calls_run (n := 6) Try.func43 rfl rfl rfl ?_
  refine Run.seq ?_
  refine Run.region ?_
  refine RL.val (x_assignB rfl) ?_
  refine RL.nil ?_
  refine Run.seq ?_
  refine Run.region ?_
  refine RL.val (x_moveS rfl) ?_
  refine RL.st rfl <| St1.call (vals := [.string (s)]) en44 rfl (isKeyP _ _ (by omega)) ?_
  rintro _ w_1 ⟨rfl, K_2⟩
  have K0 := (K_2 : Ext w _)
  refine RL.val (x_not rfl) ?_
  refine RL.val (x_assignB rfl) ?_
  refine RL.nil ?_
  refine Run.ret1 (v := .bool (!(isKey s))) Try.func43 rfl rfl ?_
  exact ⟨_, rfl, rfl, K0⟩

set_option maxRecDepth 100000 in
set_option maxHeartbeats 4000000 in
theorem begin_ (s : Nat) (al : Option Addr) (cl : Nat) (self now req : Int) (ts : List (TrS Item)) (part to : Int) (ak : Option Addr) (keys : List ByteArray) (ck : Nat) (w : World) (hD : SndO w s al cl self now req ts) (hL : ts.length ≤ 1000) (hka : SlOf w ak keys) (hdk : ∀ x, ak = some x → ¬ sndS s al ts x.block) (hkyl : keys.length ≤ 1048576) (hks : ∀ k ∈ keys, k.size ≤ 4294967295) :
    Calls Try.prog 11 #[.pointer (some ⟨s, 0, none⟩), .int .i64 (part), .int .i64 (to), .slice (ak) (keys.length) (ck)] w (Ret (fun v w' => ∃ al' cl' ts', v = .int .i64 (begE self (ts.map TrS.p) part to keys) ∧ SndO w' s al' cl' self now req ts' ∧ ts'.map TrS.p = begL self (ts.map TrS.p) part to keys (newI (uniq (sortN keys))) ∧ (∀ q, sndS s al' ts' q → q < w.heap.size → sndS s al ts q) ∧ Keeps (sndS s al ts) w w')) := by
  obtain ⟨hB, ho, hT, hos, htss, hto, hok⟩ := hD
  have hlp := ptr_len ts
  have hs0 := hok.self0
  have hn0 := hok.now0
  have hsl : (sortN keys).length = keys.length := sortN_mem.length_eq
  have hul := uniq_le (sortN keys)
  refine calls_run (n := 91) Try.func11 rfl rfl rfl ?_
  refine Run.seq ?_
  refine Run.region ?_
  refine RL.val (x_assignI rfl) ?_
  refine RL.nil ?_
  refine Run.seq ?_
  refine Run.seq ?_
  refine Run.region ?_
  refine RL.val (x_moveP rfl) ?_
  refine RL.val (x_moveI rfl) ?_
  refine RL.val (x_moveI rfl) ?_
  refine RL.st rfl <| St1.call (vals := [.pointer (some ⟨s, 0, none⟩), .int .i64 (part), .int .i64 (to)]) en41 rfl (may_ s al cl self now req ts part to _ (⟨hB, ho, hT, hos, htss, hto, hok⟩ : SndO _ s al cl self now req ts) hL) ?_
  rintro _ w_1 ⟨rfl, K_2⟩
  replace hB := hB.ext K_2
  replace ho := ho.ext K_2
  replace hT := hT.ext K_2
  have K0 := (K_2 : Ext w _).to (S := (sndS s al ts))
  refine RL.val (x_assignI rfl) ?_
  refine RL.nil ?_
  refine Run.seq ?_
  refine Run.region ?_
  refine RL.val (x_moveI rfl) ?_
  refine RL.val (x_neI rfl rfl) ?_
  refine RL.nil ?_
  refine Run.cond rfl (fun hc19 => ?_) (fun hc19 => ?_)
  · try simp only [br] at hc19
    refine Run.seq ?_
    refine Run.region ?_
    refine RL.val (x_moveI rfl) ?_
    refine RL.val (x_assignI rfl) ?_
    refine RL.nil ?_
    refine Run.ret1 (v := .int .i64 (mayE self part to)) Try.func11 rfl rfl ?_
    exact ⟨_, rfl, al, cl, ts, by rw [(beg_may (nl := newI (uniq (sortN keys))) hc19).1], ⟨hB, ho, hT, hos, htss, hto, hok⟩, by rw [(beg_may (nl := newI (uniq (sortN keys))) hc19).2], fun _ h _ => h, K0⟩
  · try simp only [br] at hc19
    refine Run.skip ?_
    refine Run.seq ?_
    refine Run.seq ?_
    refine Run.region ?_
    refine RL.val (x_moveSl rfl) ?_
    refine RL.st rfl <| St1.call (vals := [.slice (ak) (keys.length) (ck), .func (.func 43) #[] #[]]) en42 rfl (containsFunc_str _ _ _ 43 _ (fun k => !isKey k) en43 _ (hka.keep K0 hdk) (by omega) (fun k hk w' _ => begin1_ k w' (hks k hk))) ?_
    rintro _ w_3 ⟨rfl, K_4⟩
    replace hB := hB.ext K_4
    replace ho := ho.ext K_4
    replace hT := hT.ext K_4
    replace K0 := K0.ext K_4
    refine RL.nil ?_
    refine Run.cond rfl (fun hc22 => ?_) (fun hc22 => ?_)
    · try simp only [br] at hc22
      refine Run.seq ?_
      refine Run.region ?_
      refine RL.val (x_assignI rfl) ?_
      refine RL.nil ?_
      refine Run.ret1 (v := .int .i64 (6)) Try.func11 rfl rfl ?_
      exact ⟨_, rfl, al, cl, ts, by rw [(beg_key (nl := newI (uniq (sortN keys))) (by omega) hc22).1], ⟨hB, ho, hT, hos, htss, hto, hok⟩, by rw [(beg_key (nl := newI (uniq (sortN keys))) (by omega) hc22).2], fun _ h _ => h, K0⟩
    · try simp only [br] at hc22
      refine Run.skip ?_
      refine Run.seq ?_
      refine Run.region ?_
      refine RL.val (x_moveP rfl) ?_
      refine RL.val (x_moveI rfl) ?_
      refine RL.val (x_moveI rfl) ?_
      refine RL.st rfl <| St1.call (vals := [.pointer (some ⟨s, 0, none⟩), .int .i64 (part), .int .i64 (to)]) en45 rfl (find_ s al cl self now req ts part to _ (⟨hB, ho, hT, hos, htss, hto, hok⟩ : SndO _ s al cl self now req ts) hL) ?_
      rintro _ w_5 ⟨rfl, K_6⟩
      replace hB := hB.ext K_6
      replace ho := ho.ext K_6
      replace hT := hT.ext K_6
      replace K0 := K0.ext K_6
      refine RL.val (x_assignI rfl) ?_
      refine RL.nil ?_
      refine Run.seq ?_
      refine Run.seq ?_
      by_cases hh : 0 ≤ findI (sameT part to) (ts.map TrS.p)
      · obtain ⟨k, t, l1, l2, hk, hkl, hts, hl1, hti, hpt, hst, hfs, hfx⟩ := tr_yes (ts := ts) (part := part) (to := to) (by omega)
        rw [hk]
        have hbt := (hT.all t (mem_tr hts)).blk
        have hLt := hok.at (mem_tr hts)
        have ne_7 : t.blk ≠ s := fun e_ => htss (e_ ▸ trs_subB hts)
        refine Run.region ?_
        refine RL.val (x_moveI rfl) ?_
        refine RL.val (x_geI rfl rfl) ?_
        refine RL.val (x_moveB rfl) ?_
        refine RL.gval (wantedT rfl rfl rfl rfl) (fun hg => (x_moveP rfl)) ?_
        refine RL.gval (wantedT rfl rfl rfl rfl) (fun hg => (x_nilCheck (gvr hg))) ?_
        refine RL.gval (wantedT rfl rfl rfl rfl) (fun hg => (x_fld (o' := 4) Try.underlying60 rfl ty58 rfl (gvr hg) rfl)) ?_
        refine RL.gval (wantedT rfl rfl rfl rfl) (fun hg => (x_ld (v := .slice (al) ((ts.map TrS.ptr).length) (cl)) ty58 (gvr hg) rfl (hB.cl.field (i := 4) rfl))) ?_
        refine RL.gval (wantedT rfl rfl rfl rfl) (fun hg => (x_moveI rfl)) ?_
        obtain ⟨b_8, o_9, x_12, hx_13, ha_10, hc_11⟩ := ho.sl.el (i := k) (by first | omega | (simp only [List.length_set]; omega))
        obtain rfl : (some (⟨t.blk, 0, none⟩ : Addr)) = x_12 := Option.some.inj (hpt.symm.trans hx_13)
        refine RL.gval (wantedT rfl rfl rfl rfl) (fun hg => (x_idxN Try.underlying58 ty90 (gvr hg) (gvr hg) ha_10 (by first | omega | (simp only [List.length_set]; omega)))) ?_
        refine RL.gval (wantedT rfl rfl rfl rfl) (fun hg => (x_ldV (v := .pointer (some ⟨t.blk, 0, none⟩)) (y := (some (⟨t.blk, 0, none⟩ : Addr))) ty90 (gvr hg) hc_11 rfl)) ?_
        refine RL.gval (wantedT rfl rfl rfl rfl) (fun hg => (x_nilCheck (gvr hg))) ?_
        refine RL.gval (wantedT rfl rfl rfl rfl) (fun hg => (x_fld (o' := 2) Try.underlying89 rfl ty87 rfl (gvr hg) rfl)) ?_
        refine RL.gval (wantedT rfl rfl rfl rfl) (fun hg => (x_ld (v := .slice (t.a) (t.left.length) (t.cap)) ty87 (gvr hg) rfl (hbt.cl.field (i := 2) rfl))) ?_
        refine RL.gval (wantedT rfl rfl rfl rfl) (fun hg => (x_lenSl Try.underlying87 (gvr hg))) ?_
        refine RL.gval (wantedT rfl rfl rfl rfl) (fun hg => (x_gtI (gvr hg) rfl)) ?_
        refine RL.val (x_and rfl rfl rfl) ?_
        refine RL.nil ?_
        refine Run.cond rfl (fun hc42 => ?_) (fun hc42 => ?_)
        · try simp only [br] at hc42
          refine Run.seq ?_
          refine Run.region ?_
          refine RL.val (x_assignI rfl) ?_
          refine RL.nil ?_
          refine Run.ret1 (v := .int .i64 (61)) Try.func11 rfl rfl ?_
          exact ⟨_, rfl, al, cl, ts, by rw [(beg_there (nl := newI (uniq (sortN keys))) (by omega) hc22 (show leftN (ts.map TrS.p) part to ≠ 0 by rw [(left_in hfs).1]; show t.left.length ≠ 0; omega)).1], ⟨hB, ho, hT, hos, htss, hto, hok⟩, by rw [(beg_there (nl := newI (uniq (sortN keys))) (by omega) hc22 (show leftN (ts.map TrS.p) part to ≠ 0 by rw [(left_in hfs).1]; show t.left.length ≠ 0; omega)).2], fun _ h _ => h, K0⟩
        · try simp only [br] at hc42
          refine Run.skip ?_
          refine Run.seq ?_
          refine Run.seq ?_
          refine Run.region ?_
          refine RL.val (x_moveI rfl) ?_
          refine RL.val (x_geI rfl rfl) ?_
          refine RL.nil ?_
          refine Run.cond rfl (fun hc44 => ?_) (fun hc44 => ?_)
          · try simp only [br] at hc44
            refine Run.region ?_
            refine RL.val (x_moveP rfl) ?_
            refine RL.val (x_moveP rfl) ?_
            refine RL.val (x_nilCheck rfl) ?_
            refine RL.val (x_fld (o' := 4) Try.underlying60 rfl ty58 rfl rfl rfl) ?_
            refine RL.val (x_ld (v := .slice (al) ((ts.map TrS.ptr).length) (cl)) ty58 rfl rfl (hB.cl.field (i := 4) rfl)) ?_
            refine RL.val (x_moveI rfl) ?_
            refine RL.val (x_moveI rfl) ?_
            refine RL.val (litI (c := ((k + 1 : Nat) : Int)) (x_add rfl rfl (by omega) (by omega)) rfl) ?_
            refine RL.st rfl <| St1.call (vals := [.slice (al) ((ts.map TrS.ptr).length) (cl), .int .i64 (((k : Nat) : Int)), .int .i64 (((k + 1 : Nat) : Int))]) en46 rfl (delete_tr _ _ _ k _ ho (by omega) (by omega)) ?_
            rintro _ w_14 ⟨rfl, ho_15, K_16⟩
            replace hB := hB.keep K_16 hos
            replace hT := hT.keepO K_16 hto
            replace hbt := hbt.keep K_16 (fun h_ => (fun q_ h1 h2 => hto q_ h2 h1) _ h_ (trs_subB hts))
            replace K0 := K0.trans K_16 (fun x hlt hx => (fun q_ h_ _ => Or.inr (Or.inl h_)) x hx hlt)
            replace ho := ho_15
            clear ho_15
            replace ho : OwnSl w_14 90 al cl (delI (ts.map TrS.ptr) k) := ho
            refine RL.val (x_nilCheck rfl) ?_
            refine RL.val (x_fld (o' := 4) Try.underlying60 rfl ty58 rfl rfl rfl) ?_
            refine RL.st rfl <| St1.store (v := .slice (al) ((delI (ts.map TrS.ptr) k).length) (cl)) ty58 rfl rfl rfl (by simp [Value.cells, Value.oneCell']) hB (by simp) ?_
            intro w_17 hB_ K_18
            have hB' : Blk w_17 s [.bool (true), .int .i64 (self), .int .i64 (now), .int .i64 (req), .slice (al) ((delI (ts.map TrS.ptr) k).length) (cl)] 60 := hB_
            clear hB_
            replace ho := ho.keepO K_18 (fun q_ hq_ eq_ => hos (by simp only [one] at eq_; rw [← eq_]; exact hq_))
            replace hT := hT.keepO K_18 (fun q_ hq_ eq_ => htss (by simp only [one] at eq_; rw [← eq_]; exact hq_))
            replace hbt := hbt.keep K_18 (by simp only [one]; omega)
            replace K0 := K0.trans K_18 (fun x _ hx => by simp only [one] at hx; subst hx; exact (Or.inl rfl))
            replace hB := hB'
            clear hB'
            refine RL.nil ?_
            refine Run.seq ?_
            refine Run.region ?_
            refine RL.val (x_moveI rfl) ?_
            refine RL.val (x_moveI rfl) ?_
            refine RL.val (x_build (cells := #[.int .i64 (part), .int .i64 (to), .slice (none) (0) (0)]) (by kernel_rfl)) ?_
            refine RL.st rfl <| St1.box (v := .agg #[.int .i64 (part), .int .i64 (to), .slice (none) (0) (0)]) rfl ?_
            intro b_19 w_20 hl_23 hb_22 K_21
            replace hb_22 : Blk w_20 b_19 [.int .i64 (part), .int .i64 (to), .slice (none) (0) (0)] 89 := hb_22
            have ne_24 : s < b_19 := Nat.lt_of_lt_of_le hB.lt hl_23
            have ne_25 : t.blk < b_19 := Nat.lt_of_lt_of_le hbt.lt hl_23
            have pr_26 : ¬ own al b_19 := fun h => absurd (ho.own_lt _ h) (by omega)
            have pr_27 : ¬ trsS ts b_19 := fun h => absurd (hT.own_lt _ h) (by omega)
            have : w.heap.size ≤ b_19 := Nat.le_trans K0.size hl_23
            clear hl_23
            replace hB := hB.ext K_21
            replace ho := ho.ext K_21
            replace hT := hT.ext K_21
            replace hbt := hbt.ext K_21
            replace K0 := K0.ext K_21
            refine RL.val (x_assignP rfl) ?_
            refine RL.nil ?_
            refine Run.seq ?_
            refine Run.seq ?_
            refine Run.region ?_
            refine RL.val (x_moveSl rfl) ?_
            refine RL.st rfl <| St1.call (vals := [.slice (ak) (keys.length) (ck)]) en48 rfl (valuesM _ _ _ _) ?_
            rintro _ _ ⟨rfl, rfl⟩
            have hks0 := (hka.keep K0 hdk)
            have K_28 : Ext w_20 (w_20.alloc (.cells #[.slice (ak) (keys.length) (ck)] 22)) := Ext.push _ _
            replace hB := hB.ext K_28
            replace ho := ho.ext K_28
            replace hT := hT.ext K_28
            replace hbt := hbt.ext K_28
            replace hb_22 := hb_22.ext K_28
            replace K0 := K0.ext K_28
            refine RL.st rfl <| St1.call (vals := [.func (.func 69) #[] #[.pointer (some ⟨w_20.heap.size, 0, none⟩)]]) en47 rfl (sortedM ck w_20 hks0 (by omega)) ?_
            rintro _ w_31 ⟨a_29, c_30, rfl, ho_32, hg_33, K_34⟩
            have pr_35 : ¬ own a_29 s := notNew hg_33 hB.lt
            have pr_36 : ∀ q_, own a_29 q_ → ¬ own al q_ := apartNew hg_33 ho.own_lt
            have pr_37 : ∀ q_, own a_29 q_ → ¬ trsS ts q_ := apartNew hg_33 hT.own_lt
            have pr_38 : ¬ own a_29 t.blk := notNew hg_33 hbt.lt
            have pr_39 : ¬ own a_29 b_19 := notNew hg_33 hb_22.lt
            have pg_40 : ∀ q_, own a_29 q_ → q_ < w.heap.size → (sndS s al ts) q_ := fun q_ h hlt => absurd (Nat.le_trans K0.size (hg_33 q_ h)) (by omega)
            have pw_41 : ∀ q_, own a_29 q_ → w.heap.size ≤ q_ := fun q_ h => Nat.le_trans K0.size (hg_33 q_ h)
            clear hg_33
            replace hB := hB.ext K_34
            replace ho := ho.ext K_34
            replace hT := hT.ext K_34
            replace hbt := hbt.ext K_34
            replace hb_22 := hb_22.ext K_34
            replace K0 := K0.ext K_34
            refine RL.st rfl <| St1.call (vals := [.slice (a_29) ((sortN keys).length) (c_30)]) en40 rfl (compact_ _ _ _ _ ho_32 (by omega)) ?_
            rintro _ w_42 ⟨rfl, ho_43, K_44⟩
            replace hB := hB.keep K_44 pr_35
            replace ho := ho.keepO K_44 (fun q_ h1 h2 => pr_36 q_ h2 h1)
            replace hT := hT.keepO K_44 (fun q_ h1 h2 => pr_37 q_ h2 h1)
            replace hbt := hbt.keep K_44 pr_38
            replace hb_22 := hb_22.keep K_44 pr_39
            replace K0 := K0.trans K_44 (fun x hlt hx => pg_40 x hx hlt)
            replace ho_32 := ho_43
            clear ho_43
            refine RL.val (x_lenSl Try.underlying22 rfl) ?_
            refine RL.val (x_moveI rfl) ?_
            refine RL.nil ?_
            refine Run.block ?_
            refine Run.loop (ι := Nat) (fun i ρ' w' => ∃ an : Option Addr, ∃ cn : Nat, Holds ρ' [(0, .pointer (some ⟨s, 0, none⟩)), (11, .pointer (some ⟨b_19, 0, none⟩)), (63, .slice (a_29) ((uniq (sortN keys)).length) (c_30)), (64, .int .i64 ((((uniq (sortN keys)).length : Nat) : Int))), (65, .int .i64 (((i : Nat) : Int)))] ∧ Keeps (sndS s al ts) w w' ∧ (Blk w' s [.bool (true), .int .i64 (self), .int .i64 (now), .int .i64 (req), .slice (al) ((delI (ts.map TrS.ptr) k).length) (cl)] 60) ∧ (Blk w' t.blk [.int .i64 (t.part), .int .i64 (t.to), .slice (t.a) (t.left.length) (t.cap)] 89) ∧ (Blk w' b_19 [.int .i64 (part), .int .i64 (to), .slice (an) ((newI ((uniq (sortN keys)).take i)).length) (cn)] 89) ∧ (OwnSl w' 90 (al) (cl) (delI (ts.map TrS.ptr) k)) ∧ (TrsAt 89 97 w' ts) ∧ (OwnSl w' 9 (a_29) (c_30) (uniq (sortN keys))) ∧ (OwnSl w' 97 an cn (newI ((uniq (sortN keys)).take i))) ∧ (¬ own an s) ∧ (¬ own an t.blk) ∧ (¬ own an b_19) ∧ (∀ q_, own an q_ → ¬ own al q_) ∧ (∀ q_, own an q_ → ¬ trsS ts q_) ∧ (∀ q_, own an q_ → ¬ own a_29 q_) ∧ (∀ q_, own an q_ → q_ < w.heap.size → (sndS s al ts) q_) ∧ (∀ q_, own an q_ → w.heap.size ≤ q_) ∧ (i ≤ (uniq (sortN keys)).length)) (fun i => (uniq (sortN keys)).length - i) 0 ?_ ?_
            · rw [show newI (List.take 0 (uniq (sortN keys))) = [] from rfl]
              have ho_56 := OwnSl.nil (α := Item) w_42 97
              refine ⟨_, _, ⟨rfl, rfl, rfl, rfl, rfl, trivial⟩, K0, hB, hbt, hb_22, ho, hT, ho_32, ho_56, (own_none s), (own_none t.blk), (own_none b_19), (fun q_ h1 _ => own_none q_ h1), (fun q_ h1 _ => own_none q_ h1), (fun q_ h1 _ => own_none q_ h1), (fun q_ h1 _ => absurd h1 (own_none q_)), (fun q_ h1 => absurd h1 (own_none q_)), ?_⟩
              · omega
            clear hB ho hT hbt hb_22 ho_32
            clear K0
            rintro i ρ_57 w_45 ⟨an, cn, hH_46, K0, hB, hbt, hb_22, ho, hT, ho_32, ho_47, pr_48, pr_49, pr_50, pr_51, pr_52, pr_53, pr_54, pr_55, hi⟩ ih1
            obtain ⟨ρ₀, rfl⟩ := hH_46.ex
            clear hH_46
            refine Run.seq ?_
            refine Run.region ?_
            refine RL.val (x_ltI rfl rfl) ?_
            refine RL.nil ?_
            refine Run.seq ?_
            refine Run.cond rfl (fun hc66 => ?_) (fun hc66 => ?_)
            · try simp only [br] at hc66
              refine Run.skip ?_
              refine Run.seq ?_
              refine Run.block ?_
              refine Run.seq ?_
              refine Run.region ?_
              obtain ⟨b_58, o_59, x, hx, ha_60, hc_61⟩ := ho_32.sl.el (i := i) (by first | omega | (simp only [List.length_set]; omega))
              refine RL.val (x_idxN Try.underlying22 ty9 rfl rfl ha_60 (by first | omega | (simp only [List.length_set]; omega))) ?_
              refine RL.val (x_ldV (v := .string (x)) (y := x) ty9 rfl hc_61 rfl) ?_
              refine RL.val (x_assignS rfl) ?_
              refine RL.nil ?_
              have hnl : (newI ((uniq (sortN keys)).take i)).length ≤ i := by rw [newI, List.length_map]; exact List.length_take_le _ _
              refine Run.region ?_
              refine RL.val (x_moveP rfl) ?_
              refine RL.val (x_moveP rfl) ?_
              refine RL.val (x_nilCheck rfl) ?_
              refine RL.val (x_fld (o' := 2) Try.underlying89 rfl ty87 rfl rfl rfl) ?_
              refine RL.val (x_ld (v := .slice (an) ((newI ((uniq (sortN keys)).take i)).length) (cn)) ty87 rfl rfl (hb_22.cl.field (i := 2) rfl)) ?_
              refine RL.val (x_moveS rfl) ?_
              refine RL.val (x_build (cells := #[.string (x), .int .i64 (0), .int .i64 (-1)]) (by kernel_rfl)) ?_
              refine RL.st rfl <| St1.buildSlice ([(⟨x, 0, -1⟩ : Item)] : List Item) Try.underlying87 ty97 rfl rfl (by first | decide | (simp [Enc.size])) ?_
              intro b_64 w_65 hl_68 ho_67 K_66
              have pr_69 : ¬ own (some ⟨b_64, 0, none⟩) s := notNew (ge_new hl_68) hB.lt
              have pr_70 : ¬ own (some ⟨b_64, 0, none⟩) t.blk := notNew (ge_new hl_68) hbt.lt
              have pr_71 : ¬ own (some ⟨b_64, 0, none⟩) b_19 := notNew (ge_new hl_68) hb_22.lt
              have pr_72 : ∀ q_, own (some ⟨b_64, 0, none⟩) q_ → ¬ own al q_ := apartNew (ge_new hl_68) ho.own_lt
              have pr_73 : ∀ q_, own (some ⟨b_64, 0, none⟩) q_ → ¬ trsS ts q_ := apartNew (ge_new hl_68) hT.own_lt
              have pr_74 : ∀ q_, own (some ⟨b_64, 0, none⟩) q_ → ¬ own a_29 q_ := apartNew (ge_new hl_68) ho_32.own_lt
              have pr_75 : ∀ q_, own (some ⟨b_64, 0, none⟩) q_ → ¬ own an q_ := apartNew (ge_new hl_68) ho_47.own_lt
              have pg_76 : ∀ q_, own (some ⟨b_64, 0, none⟩) q_ → q_ < w.heap.size → (sndS s al ts) q_ := fun q_ h hlt => absurd (Nat.le_trans K0.size ((ge_new hl_68) q_ h)) (by omega)
              have pw_77 : ∀ q_, own (some ⟨b_64, 0, none⟩) q_ → w.heap.size ≤ q_ := fun q_ h => Nat.le_trans K0.size ((ge_new hl_68) q_ h)
              clear hl_68
              replace hB := hB.ext K_66
              replace hbt := hbt.ext K_66
              replace hb_22 := hb_22.ext K_66
              replace ho := ho.ext K_66
              replace hT := hT.ext K_66
              replace ho_32 := ho_32.ext K_66
              replace ho_47 := ho_47.ext K_66
              replace K0 := K0.ext K_66
              refine RL.st rfl <| St1.append (xs := newI ((uniq (sortN keys)).take i)) (ys := ([(⟨x, 0, -1⟩ : Item)] : List Item)) Try.underlying87 ty97 rfl rfl rfl ho_47 ho_67.sl (by first | omega | (simp only [lr]; omega)) (by decide) ?_
              intro a_78 c_79 w_80 ho_81 K_82 hm_83 hrm_84
              have pr_85 : ¬ own a_78 s := hm_83.not pr_48 hB.lt
              have pr_86 : ¬ own a_78 t.blk := hm_83.not pr_49 hbt.lt
              have pr_87 : ¬ own a_78 b_19 := hm_83.not pr_50 hb_22.lt
              have pr_88 : ∀ q_, own a_78 q_ → ¬ own al q_ := hm_83.apart pr_51 ho.own_lt
              have pr_89 : ∀ q_, own a_78 q_ → ¬ trsS ts q_ := hm_83.apart pr_52 hT.own_lt
              have pr_90 : ∀ q_, own a_78 q_ → ¬ own a_29 q_ := hm_83.apart pr_53 ho_32.own_lt
              have pr_91 : ∀ q_, own a_78 q_ → ¬ own (some ⟨b_64, 0, none⟩) q_ := hm_83.apart (fun q_ h1 h2 => pr_75 q_ h2 h1) ho_67.own_lt
              have pg_92 : ∀ q_, own a_78 q_ → q_ < w.heap.size → (sndS s al ts) q_ := hm_83.inS pr_54 K0.size
              have pw_93 : ∀ q_, own a_78 q_ → w.heap.size ≤ q_ := hm_83.ge pr_55 K0.size
              replace hB := hB.keep K_82 pr_48
              replace hbt := hbt.keep K_82 pr_49
              replace hb_22 := hb_22.keep K_82 pr_50
              replace ho := ho.keepO K_82 (fun q_ h1 h2 => pr_51 q_ h2 h1)
              replace hT := hT.keepO K_82 (fun q_ h1 h2 => pr_52 q_ h2 h1)
              replace ho_32 := ho_32.keepO K_82 (fun q_ h1 h2 => pr_53 q_ h2 h1)
              replace ho_67 := ho_67.keepO K_82 pr_75
              replace K0 := K0.trans K_82 (fun x hlt hx => pr_54 x hx hlt)
              clear hm_83
              clear hrm_84
              refine RL.val (x_nilCheck rfl) ?_
              refine RL.val (x_fld (o' := 2) Try.underlying89 rfl ty87 rfl rfl rfl) ?_
              refine RL.st rfl <| St1.store (v := .slice (a_78) (((newI ((uniq (sortN keys)).take i)) ++ ([(⟨x, 0, -1⟩ : Item)] : List Item)).length) (c_79)) ty87 rfl rfl rfl (by simp [Value.cells, Value.oneCell']) hb_22 (by simp) ?_
              intro w_94 hb_22_ K_95
              have hb_22' : Blk w_94 b_19 [.int .i64 (part), .int .i64 (to), .slice (a_78) (((newI ((uniq (sortN keys)).take i)) ++ ([(⟨x, 0, -1⟩ : Item)] : List Item)).length) (c_79)] 89 := hb_22_
              clear hb_22_
              replace hB := hB.keep K_95 (by simp only [one]; omega)
              replace hbt := hbt.keep K_95 (by simp only [one]; omega)
              replace ho := ho.keepO K_95 (fun q_ hq_ eq_ => pr_26 (by simp only [one] at eq_; rw [← eq_]; exact hq_))
              replace hT := hT.keepO K_95 (fun q_ hq_ eq_ => pr_27 (by simp only [one] at eq_; rw [← eq_]; exact hq_))
              replace ho_32 := ho_32.keepO K_95 (fun q_ hq_ eq_ => pr_39 (by simp only [one] at eq_; rw [← eq_]; exact hq_))
              replace ho_67 := ho_67.keepO K_95 (fun q_ hq_ eq_ => pr_71 (by simp only [one] at eq_; rw [← eq_]; exact hq_))
              replace ho_81 := ho_81.keepO K_95 (fun q_ hq_ eq_ => pr_87 (by simp only [one] at eq_; rw [← eq_]; exact hq_))
              replace K0 := K0.trans K_95 (fun x hlt hx => absurd hlt (by simp only [one] at hx; omega))
              replace hb_22 := hb_22'
              clear hb_22'
              refine RL.nil ?_
              refine Run.inBlock ?_
              refine Run.region ?_
              refine RL.val (litI (c := ((i + 1 : Nat) : Int)) (x_add rfl rfl (by omega) (by omega)) rfl) ?_
              refine RL.val (x_moveI rfl) ?_
              refine RL.nil ?_
              have e : newI ((uniq (sortN keys)).take (i + 1)) = newI ((uniq (sortN keys)).take i) ++ [⟨x, 0, -1⟩] := by rw [take_snoc' hx, newI, List.map_append]; rfl
              refine ih1 (i + 1) _ _ ?_ (by omega)
              rw [e]
              refine ⟨_, _, ⟨rfl, rfl, rfl, rfl, rfl, trivial⟩, K0, hB, hbt, hb_22, ho, hT, ho_32, ho_81, pr_85, pr_86, pr_87, pr_88, pr_89, pr_90, pg_92, pw_93, ?_⟩
              · omega
            · try simp only [br] at hc66
              refine Run.exit rfl ?_
              refine Run.seq ?_
              have hdln := delI_len (ts.map TrS.ptr) k
              refine Run.region ?_
              refine RL.val (x_moveP rfl) ?_
              refine RL.val (x_moveP rfl) ?_
              refine RL.val (x_nilCheck rfl) ?_
              refine RL.val (x_fld (o' := 4) Try.underlying60 rfl ty58 rfl rfl rfl) ?_
              refine RL.val (x_ld (v := .slice (al) ((delI (ts.map TrS.ptr) k).length) (cl)) ty58 rfl rfl (hB.cl.field (i := 4) rfl)) ?_
              refine RL.val (x_moveP rfl) ?_
              refine RL.st rfl <| St1.buildSlice ([some (⟨b_19, 0, none⟩ : Addr)] : List (Option Addr)) Try.underlying58 ty90 rfl rfl (by first | decide | (simp [Enc.size])) ?_
              intro b_96 w_97 hl_100 ho_99 K_98
              have pr_101 : ¬ own (some ⟨b_96, 0, none⟩) s := notNew (ge_new hl_100) hB.lt
              have pr_102 : ¬ own (some ⟨b_96, 0, none⟩) t.blk := notNew (ge_new hl_100) hbt.lt
              have pr_103 : ¬ own (some ⟨b_96, 0, none⟩) b_19 := notNew (ge_new hl_100) hb_22.lt
              have pr_104 : ∀ q_, own (some ⟨b_96, 0, none⟩) q_ → ¬ own al q_ := apartNew (ge_new hl_100) ho.own_lt
              have pr_105 : ∀ q_, own (some ⟨b_96, 0, none⟩) q_ → ¬ trsS ts q_ := apartNew (ge_new hl_100) hT.own_lt
              have pr_106 : ∀ q_, own (some ⟨b_96, 0, none⟩) q_ → ¬ own a_29 q_ := apartNew (ge_new hl_100) ho_32.own_lt
              have pr_107 : ∀ q_, own (some ⟨b_96, 0, none⟩) q_ → ¬ own an q_ := apartNew (ge_new hl_100) ho_47.own_lt
              have pg_108 : ∀ q_, own (some ⟨b_96, 0, none⟩) q_ → q_ < w.heap.size → (sndS s al ts) q_ := fun q_ h hlt => absurd (Nat.le_trans K0.size ((ge_new hl_100) q_ h)) (by omega)
              have pw_109 : ∀ q_, own (some ⟨b_96, 0, none⟩) q_ → w.heap.size ≤ q_ := fun q_ h => Nat.le_trans K0.size ((ge_new hl_100) q_ h)
              clear hl_100
              replace hB := hB.ext K_98
              replace hbt := hbt.ext K_98
              replace hb_22 := hb_22.ext K_98
              replace ho := ho.ext K_98
              replace hT := hT.ext K_98
              replace ho_32 := ho_32.ext K_98
              replace ho_47 := ho_47.ext K_98
              replace K0 := K0.ext K_98
              refine RL.st rfl <| St1.append (xs := delI (ts.map TrS.ptr) k) (ys := ([some (⟨b_19, 0, none⟩ : Addr)] : List (Option Addr))) Try.underlying58 ty90 rfl rfl rfl ho ho_99.sl (by first | omega | (simp only [lr]; omega)) (by decide) ?_
              intro a_110 c_111 w_112 ho_113 K_114 hm_115 hrm_116
              have pr_117 : ¬ own a_110 s := hm_115.not hos hB.lt
              have pr_118 : ¬ own a_110 t.blk := hm_115.not (fun h_ => (fun q_ h1 h2 => hto q_ h2 h1) _ h_ (trs_subB hts)) hbt.lt
              have pr_119 : ¬ own a_110 b_19 := hm_115.not pr_26 hb_22.lt
              have pr_120 : ∀ q_, own a_110 q_ → ¬ trsS ts q_ := hm_115.apart (fun q_ h1 h2 => hto q_ h2 h1) hT.own_lt
              have pr_121 : ∀ q_, own a_110 q_ → ¬ own a_29 q_ := hm_115.apart (fun q_ h1 h2 => pr_36 q_ h2 h1) ho_32.own_lt
              have pr_122 : ∀ q_, own a_110 q_ → ¬ own an q_ := hm_115.apart (fun q_ h1 h2 => pr_51 q_ h2 h1) ho_47.own_lt
              have pr_123 : ∀ q_, own a_110 q_ → ¬ own (some ⟨b_96, 0, none⟩) q_ := hm_115.apart (fun q_ h1 h2 => pr_104 q_ h2 h1) ho_99.own_lt
              have pg_124 : ∀ q_, own a_110 q_ → q_ < w.heap.size → (sndS s al ts) q_ := hm_115.inS (fun q_ h_ _ => Or.inr (Or.inl h_)) K0.size
              replace hB := hB.keep K_114 hos
              replace hbt := hbt.keep K_114 (fun h_ => (fun q_ h1 h2 => hto q_ h2 h1) _ h_ (trs_subB hts))
              replace hb_22 := hb_22.keep K_114 pr_26
              replace hT := hT.keepO K_114 hto
              replace ho_32 := ho_32.keepO K_114 pr_36
              replace ho_47 := ho_47.keepO K_114 pr_51
              replace ho_99 := ho_99.keepO K_114 pr_104
              replace K0 := K0.trans K_114 (fun x hlt hx => (fun q_ h_ _ => Or.inr (Or.inl h_)) x hx hlt)
              clear hm_115
              clear hrm_116
              refine RL.val (x_nilCheck rfl) ?_
              refine RL.val (x_fld (o' := 4) Try.underlying60 rfl ty58 rfl rfl rfl) ?_
              refine RL.st rfl <| St1.store (v := .slice (a_110) (((delI (ts.map TrS.ptr) k) ++ ([some (⟨b_19, 0, none⟩ : Addr)] : List (Option Addr))).length) (c_111)) ty58 rfl rfl rfl (by simp [Value.cells, Value.oneCell']) hB (by simp) ?_
              intro w_125 hB_ K_126
              have hB' : Blk w_125 s [.bool (true), .int .i64 (self), .int .i64 (now), .int .i64 (req), .slice (a_110) (((delI (ts.map TrS.ptr) k) ++ ([some (⟨b_19, 0, none⟩ : Addr)] : List (Option Addr))).length) (c_111)] 60 := hB_
              clear hB_
              replace hbt := hbt.keep K_126 (by simp only [one]; omega)
              replace hb_22 := hb_22.keep K_126 (by simp only [one]; omega)
              replace hT := hT.keepO K_126 (fun q_ hq_ eq_ => htss (by simp only [one] at eq_; rw [← eq_]; exact hq_))
              replace ho_32 := ho_32.keepO K_126 (fun q_ hq_ eq_ => pr_35 (by simp only [one] at eq_; rw [← eq_]; exact hq_))
              replace ho_47 := ho_47.keepO K_126 (fun q_ hq_ eq_ => pr_48 (by simp only [one] at eq_; rw [← eq_]; exact hq_))
              replace ho_99 := ho_99.keepO K_126 (fun q_ hq_ eq_ => pr_101 (by simp only [one] at eq_; rw [← eq_]; exact hq_))
              replace ho_113 := ho_113.keepO K_126 (fun q_ hq_ eq_ => pr_117 (by simp only [one] at eq_; rw [← eq_]; exact hq_))
              replace K0 := K0.trans K_126 (fun x _ hx => by simp only [one] at hx; subst hx; exact (Or.inl rfl))
              replace hB := hB'
              clear hB'
              refine RL.nil ?_
              refine Run.seq ?_
              refine Run.region ?_
              refine RL.val (x_assignI rfl) ?_
              refine RL.nil ?_
              refine Run.ret1 (v := .int .i64 (0)) Try.func11 rfl rfl ?_
              have hR := (hT.openE hts).2.1
              have pr_127 : ¬ trsS (l1 ++ l2) s := fun h_ => htss ((trs_subR hts) _ h_)
              have pr_128 : ¬ trsS (l1 ++ l2) b_19 := fun h_ => pr_27 ((trs_subR hts) _ h_)
              have pr_129 : ∀ q_, trsS (l1 ++ l2) q_ → ¬ own a_29 q_ := fun q_ h_ => (fun q_ h1 h2 => pr_37 q_ h2 h1) q_ ((trs_subR hts) q_ h_)
              have pr_130 : ∀ q_, trsS (l1 ++ l2) q_ → ¬ own an q_ := fun q_ h_ => (fun q_ h1 h2 => pr_52 q_ h2 h1) q_ ((trs_subR hts) q_ h_)
              have pr_131 : ∀ q_, trsS (l1 ++ l2) q_ → ¬ own (some ⟨b_96, 0, none⟩) q_ := fun q_ h_ => (fun q_ h1 h2 => pr_105 q_ h2 h1) q_ ((trs_subR hts) q_ h_)
              have pr_132 : ∀ q_, trsS (l1 ++ l2) q_ → ¬ own a_110 q_ := fun q_ h_ => (fun q_ h1 h2 => pr_120 q_ h2 h1) q_ ((trs_subR hts) q_ h_)
              clear hT hbt
              rw [del_ptr hts hl1] at ho_113 hB
              have hil : i = (uniq (sortN keys)).length := by omega
              rw [hil, List.take_length] at ho_47 hb_22
              rw [snoc_ptr (l1 ++ l2) b_19 part to an cn (newI (uniq (sortN keys)))] at ho_113 hB
              have hT' : TrsAt 89 97 w_125 ((l1 ++ l2) ++ [(⟨b_19, part, to, an, cn, newI (uniq (sortN keys))⟩ : TrS Item)]) := TrsAt.snoc ⟨hb_22, ho_47, pr_50⟩ hR (fun q_ h1 h2 => h2.elim (fun e_ => pr_128 (show trsS (l1 ++ l2) b_19 from (show q_ = b_19 from e_) ▸ h1)) (fun y_ => pr_130 q_ h1 y_))
              have pr_133 : ¬ trsS ((l1 ++ l2) ++ [(⟨b_19, part, to, an, cn, newI (uniq (sortN keys))⟩ : TrS Item)]) s := fun x_ => (trs_end _ x_).elim (fun e_ => absurd e_ (by omega)) (fun y_ => y_.elim pr_48 (fun y_ => pr_127 y_))
              have pr_134 : ∀ q_, trsS ((l1 ++ l2) ++ [(⟨b_19, part, to, an, cn, newI (uniq (sortN keys))⟩ : TrS Item)]) q_ → ¬ own a_29 q_ := fun q_ x_ z_ => (trs_end _ x_).elim (fun e_ => pr_39 (show own a_29 b_19 from e_ ▸ z_)) (fun y_ => y_.elim (fun y_ => pr_53 q_ y_ z_) (fun y_ => (fun y_ => pr_129 q_ y_ z_) y_))
              have pr_135 : ∀ q_, trsS ((l1 ++ l2) ++ [(⟨b_19, part, to, an, cn, newI (uniq (sortN keys))⟩ : TrS Item)]) q_ → ¬ own (some ⟨b_96, 0, none⟩) q_ := fun q_ x_ z_ => (trs_end _ x_).elim (fun e_ => pr_103 (show own (some ⟨b_96, 0, none⟩) b_19 from e_ ▸ z_)) (fun y_ => y_.elim (fun y_ => (fun q_ h1 h2 => pr_107 q_ h2 h1) q_ y_ z_) (fun y_ => (fun y_ => pr_131 q_ y_ z_) y_))
              have pr_136 : ∀ q_, trsS ((l1 ++ l2) ++ [(⟨b_19, part, to, an, cn, newI (uniq (sortN keys))⟩ : TrS Item)]) q_ → ¬ own a_110 q_ := fun q_ x_ z_ => (trs_end _ x_).elim (fun e_ => pr_119 (show own a_110 b_19 from e_ ▸ z_)) (fun y_ => y_.elim (fun y_ => (fun q_ h1 h2 => pr_122 q_ h2 h1) q_ y_ z_) (fun y_ => (fun y_ => pr_132 q_ y_ z_) y_))
              have pg_137 : ∀ q_, trsS ((l1 ++ l2) ++ [(⟨b_19, part, to, an, cn, newI (uniq (sortN keys))⟩ : TrS Item)]) q_ → q_ < w.heap.size → (sndS s al ts) q_ := fun q_ x_ hl_ => (trs_end _ x_).elim (fun e_ => absurd hl_ (by omega)) (fun y_ => y_.elim (fun y_ => pr_54 q_ y_ hl_) (fun y_ => (fun y_ => (fun q_ h_ hl_ => (fun q_ h_ _ => Or.inr (Or.inr h_)) q_ ((trs_subR hts) q_ h_) hl_) q_ y_ hl_) y_))
              exact ⟨_, rfl, a_110, c_111, ((l1 ++ l2) ++ [(⟨b_19, part, to, an, cn, newI (uniq (sortN keys))⟩ : TrS Item)]), by rw [(beg_in (nl := newI (uniq (sortN keys))) (by omega) hc22 (by rw [(left_in hfs).1]; show t.left.length = 0; omega) hfx hts hl1).1], ⟨hB, ho_113, hT', pr_117, pr_133, pr_136, (hok.del hts).snoc (newI_ok hn0.1 (hcK hc22) hkyl)⟩, by rw [(beg_in (nl := newI (uniq (sortN keys))) (by omega) hc22 (by rw [(left_in hfs).1]; show t.left.length = 0; omega) hfx hts hl1).2, List.map_append]; rfl, snd_moved pg_124 pg_137, K0⟩
          · try simp only [br] at hc44
            exact absurd hc44 (by omega)
      · obtain ⟨hk, hfs, hfx⟩ := tr_no (ts := ts) (part := part) (to := to) (by omega)
        refine Run.region ?_
        refine RL.val (x_moveI rfl) ?_
        refine RL.val (litF (x_geI rfl rfl) (by simpa using hh)) ?_
        refine RL.val (x_moveB rfl) ?_
        refine RL.guardF (wantedT0 rfl rfl rfl rfl) ?_
        refine RL.guardF (wantedT0 rfl rfl rfl rfl) ?_
        refine RL.guardF (wantedT0 rfl rfl rfl rfl) ?_
        refine RL.guardF (wantedT0 rfl rfl rfl rfl) ?_
        refine RL.guardF (wantedT0 rfl rfl rfl rfl) ?_
        refine RL.guardF (wantedT0 rfl rfl rfl rfl) ?_
        refine RL.guardF (wantedT0 rfl rfl rfl rfl) ?_
        refine RL.guardF (wantedT0 rfl rfl rfl rfl) ?_
        refine RL.guardF (wantedT0 rfl rfl rfl rfl) ?_
        refine RL.guardF (wantedT0 rfl rfl rfl rfl) ?_
        refine RL.guardF (wantedT0 rfl rfl rfl rfl) ?_
        refine RL.guardF (wantedT0 rfl rfl rfl rfl) ?_
        refine RL.val (x_and (b := false) (e := false) rfl rfl rfl) ?_
        refine RL.nil ?_
        refine Run.condF rfl ?_
        refine Run.skip ?_
        refine Run.seq ?_
        refine Run.seq ?_
        refine Run.region ?_
        refine RL.val (x_moveI rfl) ?_
        refine RL.val (x_geI rfl rfl) ?_
        refine RL.nil ?_
        refine Run.cond rfl (fun hc44 => ?_) (fun hc44 => ?_)
        · try simp only [br] at hc44
          exact absurd hc44 (by omega)
        · try simp only [br] at hc44
          refine Run.skip ?_
          refine Run.seq ?_
          refine Run.region ?_
          refine RL.val (x_moveI rfl) ?_
          refine RL.val (x_moveI rfl) ?_
          refine RL.val (x_build (cells := #[.int .i64 (part), .int .i64 (to), .slice (none) (0) (0)]) (by kernel_rfl)) ?_
          refine RL.st rfl <| St1.box (v := .agg #[.int .i64 (part), .int .i64 (to), .slice (none) (0) (0)]) rfl ?_
          intro b_138 w_139 hl_142 hb_141 K_140
          replace hb_141 : Blk w_139 b_138 [.int .i64 (part), .int .i64 (to), .slice (none) (0) (0)] 89 := hb_141
          have ne_143 : s < b_138 := Nat.lt_of_lt_of_le hB.lt hl_142
          have pr_144 : ¬ own al b_138 := fun h => absurd (ho.own_lt _ h) (by omega)
          have pr_145 : ¬ trsS ts b_138 := fun h => absurd (hT.own_lt _ h) (by omega)
          have : w.heap.size ≤ b_138 := Nat.le_trans K0.size hl_142
          clear hl_142
          replace hB := hB.ext K_140
          replace ho := ho.ext K_140
          replace hT := hT.ext K_140
          replace K0 := K0.ext K_140
          refine RL.val (x_assignP rfl) ?_
          refine RL.nil ?_
          refine Run.seq ?_
          refine Run.seq ?_
          refine Run.region ?_
          refine RL.val (x_moveSl rfl) ?_
          refine RL.st rfl <| St1.call (vals := [.slice (ak) (keys.length) (ck)]) en48 rfl (valuesM _ _ _ _) ?_
          rintro _ _ ⟨rfl, rfl⟩
          have hks0 := (hka.keep K0 hdk)
          have K_146 : Ext w_139 (w_139.alloc (.cells #[.slice (ak) (keys.length) (ck)] 22)) := Ext.push _ _
          replace hB := hB.ext K_146
          replace ho := ho.ext K_146
          replace hT := hT.ext K_146
          replace hb_141 := hb_141.ext K_146
          replace K0 := K0.ext K_146
          refine RL.st rfl <| St1.call (vals := [.func (.func 69) #[] #[.pointer (some ⟨w_139.heap.size, 0, none⟩)]]) en47 rfl (sortedM ck w_139 hks0 (by omega)) ?_
          rintro _ w_149 ⟨a_147, c_148, rfl, ho_150, hg_151, K_152⟩
          have pr_153 : ¬ own a_147 s := notNew hg_151 hB.lt
          have pr_154 : ∀ q_, own a_147 q_ → ¬ own al q_ := apartNew hg_151 ho.own_lt
          have pr_155 : ∀ q_, own a_147 q_ → ¬ trsS ts q_ := apartNew hg_151 hT.own_lt
          have pr_156 : ¬ own a_147 b_138 := notNew hg_151 hb_141.lt
          have pg_157 : ∀ q_, own a_147 q_ → q_ < w.heap.size → (sndS s al ts) q_ := fun q_ h hlt => absurd (Nat.le_trans K0.size (hg_151 q_ h)) (by omega)
          have pw_158 : ∀ q_, own a_147 q_ → w.heap.size ≤ q_ := fun q_ h => Nat.le_trans K0.size (hg_151 q_ h)
          clear hg_151
          replace hB := hB.ext K_152
          replace ho := ho.ext K_152
          replace hT := hT.ext K_152
          replace hb_141 := hb_141.ext K_152
          replace K0 := K0.ext K_152
          refine RL.st rfl <| St1.call (vals := [.slice (a_147) ((sortN keys).length) (c_148)]) en40 rfl (compact_ _ _ _ _ ho_150 (by omega)) ?_
          rintro _ w_159 ⟨rfl, ho_160, K_161⟩
          replace hB := hB.keep K_161 pr_153
          replace ho := ho.keepO K_161 (fun q_ h1 h2 => pr_154 q_ h2 h1)
          replace hT := hT.keepO K_161 (fun q_ h1 h2 => pr_155 q_ h2 h1)
          replace hb_141 := hb_141.keep K_161 pr_156
          replace K0 := K0.trans K_161 (fun x hlt hx => pg_157 x hx hlt)
          replace ho_150 := ho_160
          clear ho_160
          refine RL.val (x_lenSl Try.underlying22 rfl) ?_
          refine RL.val (x_moveI rfl) ?_
          refine RL.nil ?_
          refine Run.block ?_
          refine Run.loop (ι := Nat) (fun i ρ' w' => ∃ an : Option Addr, ∃ cn : Nat, Holds ρ' [(0, .pointer (some ⟨s, 0, none⟩)), (11, .pointer (some ⟨b_138, 0, none⟩)), (63, .slice (a_147) ((uniq (sortN keys)).length) (c_148)), (64, .int .i64 ((((uniq (sortN keys)).length : Nat) : Int))), (65, .int .i64 (((i : Nat) : Int)))] ∧ Keeps (sndS s al ts) w w' ∧ (Blk w' s [.bool (true), .int .i64 (self), .int .i64 (now), .int .i64 (req), .slice (al) ((ts.map TrS.ptr).length) (cl)] 60) ∧ (Blk w' b_138 [.int .i64 (part), .int .i64 (to), .slice (an) ((newI ((uniq (sortN keys)).take i)).length) (cn)] 89) ∧ (OwnSl w' 90 (al) (cl) (ts.map TrS.ptr)) ∧ (TrsAt 89 97 w' ts) ∧ (OwnSl w' 9 (a_147) (c_148) (uniq (sortN keys))) ∧ (OwnSl w' 97 an cn (newI ((uniq (sortN keys)).take i))) ∧ (¬ own an s) ∧ (¬ own an b_138) ∧ (∀ q_, own an q_ → ¬ own al q_) ∧ (∀ q_, own an q_ → ¬ trsS ts q_) ∧ (∀ q_, own an q_ → ¬ own a_147 q_) ∧ (∀ q_, own an q_ → q_ < w.heap.size → (sndS s al ts) q_) ∧ (∀ q_, own an q_ → w.heap.size ≤ q_) ∧ (i ≤ (uniq (sortN keys)).length)) (fun i => (uniq (sortN keys)).length - i) 0 ?_ ?_
          · rw [show newI (List.take 0 (uniq (sortN keys))) = [] from rfl]
            have ho_172 := OwnSl.nil (α := Item) w_159 97
            refine ⟨_, _, ⟨rfl, rfl, rfl, rfl, rfl, trivial⟩, K0, hB, hb_141, ho, hT, ho_150, ho_172, (own_none s), (own_none b_138), (fun q_ h1 _ => own_none q_ h1), (fun q_ h1 _ => own_none q_ h1), (fun q_ h1 _ => own_none q_ h1), (fun q_ h1 _ => absurd h1 (own_none q_)), (fun q_ h1 => absurd h1 (own_none q_)), ?_⟩
            · omega
          clear hB ho hT hb_141 ho_150
          clear K0
          rintro i ρ_173 w_162 ⟨an, cn, hH_163, K0, hB, hb_141, ho, hT, ho_150, ho_164, pr_165, pr_166, pr_167, pr_168, pr_169, pr_170, pr_171, hi⟩ ih2
          obtain ⟨ρ₀, rfl⟩ := hH_163.ex
          clear hH_163
          refine Run.seq ?_
          refine Run.region ?_
          refine RL.val (x_ltI rfl rfl) ?_
          refine RL.nil ?_
          refine Run.seq ?_
          refine Run.cond rfl (fun hc66 => ?_) (fun hc66 => ?_)
          · try simp only [br] at hc66
            refine Run.skip ?_
            refine Run.seq ?_
            refine Run.block ?_
            refine Run.seq ?_
            refine Run.region ?_
            obtain ⟨b_174, o_175, x, hx, ha_176, hc_177⟩ := ho_150.sl.el (i := i) (by first | omega | (simp only [List.length_set]; omega))
            refine RL.val (x_idxN Try.underlying22 ty9 rfl rfl ha_176 (by first | omega | (simp only [List.length_set]; omega))) ?_
            refine RL.val (x_ldV (v := .string (x)) (y := x) ty9 rfl hc_177 rfl) ?_
            refine RL.val (x_assignS rfl) ?_
            refine RL.nil ?_
            have hnl : (newI ((uniq (sortN keys)).take i)).length ≤ i := by rw [newI, List.length_map]; exact List.length_take_le _ _
            refine Run.region ?_
            refine RL.val (x_moveP rfl) ?_
            refine RL.val (x_moveP rfl) ?_
            refine RL.val (x_nilCheck rfl) ?_
            refine RL.val (x_fld (o' := 2) Try.underlying89 rfl ty87 rfl rfl rfl) ?_
            refine RL.val (x_ld (v := .slice (an) ((newI ((uniq (sortN keys)).take i)).length) (cn)) ty87 rfl rfl (hb_141.cl.field (i := 2) rfl)) ?_
            refine RL.val (x_moveS rfl) ?_
            refine RL.val (x_build (cells := #[.string (x), .int .i64 (0), .int .i64 (-1)]) (by kernel_rfl)) ?_
            refine RL.st rfl <| St1.buildSlice ([(⟨x, 0, -1⟩ : Item)] : List Item) Try.underlying87 ty97 rfl rfl (by first | decide | (simp [Enc.size])) ?_
            intro b_180 w_181 hl_184 ho_183 K_182
            have pr_185 : ¬ own (some ⟨b_180, 0, none⟩) s := notNew (ge_new hl_184) hB.lt
            have pr_186 : ¬ own (some ⟨b_180, 0, none⟩) b_138 := notNew (ge_new hl_184) hb_141.lt
            have pr_187 : ∀ q_, own (some ⟨b_180, 0, none⟩) q_ → ¬ own al q_ := apartNew (ge_new hl_184) ho.own_lt
            have pr_188 : ∀ q_, own (some ⟨b_180, 0, none⟩) q_ → ¬ trsS ts q_ := apartNew (ge_new hl_184) hT.own_lt
            have pr_189 : ∀ q_, own (some ⟨b_180, 0, none⟩) q_ → ¬ own a_147 q_ := apartNew (ge_new hl_184) ho_150.own_lt
            have pr_190 : ∀ q_, own (some ⟨b_180, 0, none⟩) q_ → ¬ own an q_ := apartNew (ge_new hl_184) ho_164.own_lt
            have pg_191 : ∀ q_, own (some ⟨b_180, 0, none⟩) q_ → q_ < w.heap.size → (sndS s al ts) q_ := fun q_ h hlt => absurd (Nat.le_trans K0.size ((ge_new hl_184) q_ h)) (by omega)
            have pw_192 : ∀ q_, own (some ⟨b_180, 0, none⟩) q_ → w.heap.size ≤ q_ := fun q_ h => Nat.le_trans K0.size ((ge_new hl_184) q_ h)
            clear hl_184
            replace hB := hB.ext K_182
            replace hb_141 := hb_141.ext K_182
            replace ho := ho.ext K_182
            replace hT := hT.ext K_182
            replace ho_150 := ho_150.ext K_182
            replace ho_164 := ho_164.ext K_182
            replace K0 := K0.ext K_182
            refine RL.st rfl <| St1.append (xs := newI ((uniq (sortN keys)).take i)) (ys := ([(⟨x, 0, -1⟩ : Item)] : List Item)) Try.underlying87 ty97 rfl rfl rfl ho_164 ho_183.sl (by first | omega | (simp only [lr]; omega)) (by decide) ?_
            intro a_193 c_194 w_195 ho_196 K_197 hm_198 hrm_199
            have pr_200 : ¬ own a_193 s := hm_198.not pr_165 hB.lt
            have pr_201 : ¬ own a_193 b_138 := hm_198.not pr_166 hb_141.lt
            have pr_202 : ∀ q_, own a_193 q_ → ¬ own al q_ := hm_198.apart pr_167 ho.own_lt
            have pr_203 : ∀ q_, own a_193 q_ → ¬ trsS ts q_ := hm_198.apart pr_168 hT.own_lt
            have pr_204 : ∀ q_, own a_193 q_ → ¬ own a_147 q_ := hm_198.apart pr_169 ho_150.own_lt
            have pr_205 : ∀ q_, own a_193 q_ → ¬ own (some ⟨b_180, 0, none⟩) q_ := hm_198.apart (fun q_ h1 h2 => pr_190 q_ h2 h1) ho_183.own_lt
            have pg_206 : ∀ q_, own a_193 q_ → q_ < w.heap.size → (sndS s al ts) q_ := hm_198.inS pr_170 K0.size
            have pw_207 : ∀ q_, own a_193 q_ → w.heap.size ≤ q_ := hm_198.ge pr_171 K0.size
            replace hB := hB.keep K_197 pr_165
            replace hb_141 := hb_141.keep K_197 pr_166
            replace ho := ho.keepO K_197 (fun q_ h1 h2 => pr_167 q_ h2 h1)
            replace hT := hT.keepO K_197 (fun q_ h1 h2 => pr_168 q_ h2 h1)
            replace ho_150 := ho_150.keepO K_197 (fun q_ h1 h2 => pr_169 q_ h2 h1)
            replace ho_183 := ho_183.keepO K_197 pr_190
            replace K0 := K0.trans K_197 (fun x hlt hx => pr_170 x hx hlt)
            clear hm_198
            clear hrm_199
            refine RL.val (x_nilCheck rfl) ?_
            refine RL.val (x_fld (o' := 2) Try.underlying89 rfl ty87 rfl rfl rfl) ?_
            refine RL.st rfl <| St1.store (v := .slice (a_193) (((newI ((uniq (sortN keys)).take i)) ++ ([(⟨x, 0, -1⟩ : Item)] : List Item)).length) (c_194)) ty87 rfl rfl rfl (by simp [Value.cells, Value.oneCell']) hb_141 (by simp) ?_
            intro w_208 hb_141_ K_209
            have hb_141' : Blk w_208 b_138 [.int .i64 (part), .int .i64 (to), .slice (a_193) (((newI ((uniq (sortN keys)).take i)) ++ ([(⟨x, 0, -1⟩ : Item)] : List Item)).length) (c_194)] 89 := hb_141_
            clear hb_141_
            replace hB := hB.keep K_209 (by simp only [one]; omega)
            replace ho := ho.keepO K_209 (fun q_ hq_ eq_ => pr_144 (by simp only [one] at eq_; rw [← eq_]; exact hq_))
            replace hT := hT.keepO K_209 (fun q_ hq_ eq_ => pr_145 (by simp only [one] at eq_; rw [← eq_]; exact hq_))
            replace ho_150 := ho_150.keepO K_209 (fun q_ hq_ eq_ => pr_156 (by simp only [one] at eq_; rw [← eq_]; exact hq_))
            replace ho_183 := ho_183.keepO K_209 (fun q_ hq_ eq_ => pr_186 (by simp only [one] at eq_; rw [← eq_]; exact hq_))
            replace ho_196 := ho_196.keepO K_209 (fun q_ hq_ eq_ => pr_201 (by simp only [one] at eq_; rw [← eq_]; exact hq_))
            replace K0 := K0.trans K_209 (fun x hlt hx => absurd hlt (by simp only [one] at hx; omega))
            replace hb_141 := hb_141'
            clear hb_141'
            refine RL.nil ?_
            refine Run.inBlock ?_
            refine Run.region ?_
            refine RL.val (litI (c := ((i + 1 : Nat) : Int)) (x_add rfl rfl (by omega) (by omega)) rfl) ?_
            refine RL.val (x_moveI rfl) ?_
            refine RL.nil ?_
            have e : newI ((uniq (sortN keys)).take (i + 1)) = newI ((uniq (sortN keys)).take i) ++ [⟨x, 0, -1⟩] := by rw [take_snoc' hx, newI, List.map_append]; rfl
            refine ih2 (i + 1) _ _ ?_ (by omega)
            rw [e]
            refine ⟨_, _, ⟨rfl, rfl, rfl, rfl, rfl, trivial⟩, K0, hB, hb_141, ho, hT, ho_150, ho_196, pr_200, pr_201, pr_202, pr_203, pr_204, pg_206, pw_207, ?_⟩
            · omega
          · try simp only [br] at hc66
            refine Run.exit rfl ?_
            refine Run.seq ?_
            refine Run.region ?_
            refine RL.val (x_moveP rfl) ?_
            refine RL.val (x_moveP rfl) ?_
            refine RL.val (x_nilCheck rfl) ?_
            refine RL.val (x_fld (o' := 4) Try.underlying60 rfl ty58 rfl rfl rfl) ?_
            refine RL.val (x_ld (v := .slice (al) ((ts.map TrS.ptr).length) (cl)) ty58 rfl rfl (hB.cl.field (i := 4) rfl)) ?_
            refine RL.val (x_moveP rfl) ?_
            refine RL.st rfl <| St1.buildSlice ([some (⟨b_138, 0, none⟩ : Addr)] : List (Option Addr)) Try.underlying58 ty90 rfl rfl (by first | decide | (simp [Enc.size])) ?_
            intro b_210 w_211 hl_214 ho_213 K_212
            have pr_215 : ¬ own (some ⟨b_210, 0, none⟩) s := notNew (ge_new hl_214) hB.lt
            have pr_216 : ¬ own (some ⟨b_210, 0, none⟩) b_138 := notNew (ge_new hl_214) hb_141.lt
            have pr_217 : ∀ q_, own (some ⟨b_210, 0, none⟩) q_ → ¬ own al q_ := apartNew (ge_new hl_214) ho.own_lt
            have pr_218 : ∀ q_, own (some ⟨b_210, 0, none⟩) q_ → ¬ trsS ts q_ := apartNew (ge_new hl_214) hT.own_lt
            have pr_219 : ∀ q_, own (some ⟨b_210, 0, none⟩) q_ → ¬ own a_147 q_ := apartNew (ge_new hl_214) ho_150.own_lt
            have pr_220 : ∀ q_, own (some ⟨b_210, 0, none⟩) q_ → ¬ own an q_ := apartNew (ge_new hl_214) ho_164.own_lt
            have pg_221 : ∀ q_, own (some ⟨b_210, 0, none⟩) q_ → q_ < w.heap.size → (sndS s al ts) q_ := fun q_ h hlt => absurd (Nat.le_trans K0.size ((ge_new hl_214) q_ h)) (by omega)
            have pw_222 : ∀ q_, own (some ⟨b_210, 0, none⟩) q_ → w.heap.size ≤ q_ := fun q_ h => Nat.le_trans K0.size ((ge_new hl_214) q_ h)
            clear hl_214
            replace hB := hB.ext K_212
            replace hb_141 := hb_141.ext K_212
            replace ho := ho.ext K_212
            replace hT := hT.ext K_212
            replace ho_150 := ho_150.ext K_212
            replace ho_164 := ho_164.ext K_212
            replace K0 := K0.ext K_212
            refine RL.st rfl <| St1.append (xs := ts.map TrS.ptr) (ys := ([some (⟨b_138, 0, none⟩ : Addr)] : List (Option Addr))) Try.underlying58 ty90 rfl rfl rfl ho ho_213.sl (by first | omega | (simp only [lr]; omega)) (by decide) ?_
            intro a_223 c_224 w_225 ho_226 K_227 hm_228 hrm_229
            have pr_230 : ¬ own a_223 s := hm_228.not hos hB.lt
            have pr_231 : ¬ own a_223 b_138 := hm_228.not pr_144 hb_141.lt
            have pr_232 : ∀ q_, own a_223 q_ → ¬ trsS ts q_ := hm_228.apart (fun q_ h1 h2 => hto q_ h2 h1) hT.own_lt
            have pr_233 : ∀ q_, own a_223 q_ → ¬ own a_147 q_ := hm_228.apart (fun q_ h1 h2 => pr_154 q_ h2 h1) ho_150.own_lt
            have pr_234 : ∀ q_, own a_223 q_ → ¬ own an q_ := hm_228.apart (fun q_ h1 h2 => pr_167 q_ h2 h1) ho_164.own_lt
            have pr_235 : ∀ q_, own a_223 q_ → ¬ own (some ⟨b_210, 0, none⟩) q_ := hm_228.apart (fun q_ h1 h2 => pr_217 q_ h2 h1) ho_213.own_lt
            have pg_236 : ∀ q_, own a_223 q_ → q_ < w.heap.size → (sndS s al ts) q_ := hm_228.inS (fun q_ h_ _ => Or.inr (Or.inl h_)) K0.size
            replace hB := hB.keep K_227 hos
            replace hb_141 := hb_141.keep K_227 pr_144
            replace hT := hT.keepO K_227 hto
            replace ho_150 := ho_150.keepO K_227 pr_154
            replace ho_164 := ho_164.keepO K_227 pr_167
            replace ho_213 := ho_213.keepO K_227 pr_217
            replace K0 := K0.trans K_227 (fun x hlt hx => (fun q_ h_ _ => Or.inr (Or.inl h_)) x hx hlt)
            clear hm_228
            clear hrm_229
            refine RL.val (x_nilCheck rfl) ?_
            refine RL.val (x_fld (o' := 4) Try.underlying60 rfl ty58 rfl rfl rfl) ?_
            refine RL.st rfl <| St1.store (v := .slice (a_223) (((ts.map TrS.ptr) ++ ([some (⟨b_138, 0, none⟩ : Addr)] : List (Option Addr))).length) (c_224)) ty58 rfl rfl rfl (by simp [Value.cells, Value.oneCell']) hB (by simp) ?_
            intro w_237 hB_ K_238
            have hB' : Blk w_237 s [.bool (true), .int .i64 (self), .int .i64 (now), .int .i64 (req), .slice (a_223) (((ts.map TrS.ptr) ++ ([some (⟨b_138, 0, none⟩ : Addr)] : List (Option Addr))).length) (c_224)] 60 := hB_
            clear hB_
            replace hb_141 := hb_141.keep K_238 (by simp only [one]; omega)
            replace hT := hT.keepO K_238 (fun q_ hq_ eq_ => htss (by simp only [one] at eq_; rw [← eq_]; exact hq_))
            replace ho_150 := ho_150.keepO K_238 (fun q_ hq_ eq_ => pr_153 (by simp only [one] at eq_; rw [← eq_]; exact hq_))
            replace ho_164 := ho_164.keepO K_238 (fun q_ hq_ eq_ => pr_165 (by simp only [one] at eq_; rw [← eq_]; exact hq_))
            replace ho_213 := ho_213.keepO K_238 (fun q_ hq_ eq_ => pr_215 (by simp only [one] at eq_; rw [← eq_]; exact hq_))
            replace ho_226 := ho_226.keepO K_238 (fun q_ hq_ eq_ => pr_230 (by simp only [one] at eq_; rw [← eq_]; exact hq_))
            replace K0 := K0.trans K_238 (fun x _ hx => by simp only [one] at hx; subst hx; exact (Or.inl rfl))
            replace hB := hB'
            clear hB'
            refine RL.nil ?_
            refine Run.seq ?_
            refine Run.region ?_
            refine RL.val (x_assignI rfl) ?_
            refine RL.nil ?_
            refine Run.ret1 (v := .int .i64 (0)) Try.func11 rfl rfl ?_
            have hil : i = (uniq (sortN keys)).length := by omega
            rw [hil, List.take_length] at ho_164 hb_141
            rw [snoc_ptr ts b_138 part to an cn (newI (uniq (sortN keys)))] at ho_226 hB
            have hT' : TrsAt 89 97 w_237 (ts ++ [(⟨b_138, part, to, an, cn, newI (uniq (sortN keys))⟩ : TrS Item)]) := TrsAt.snoc ⟨hb_141, ho_164, pr_166⟩ hT (fun q_ h1 h2 => h2.elim (fun e_ => pr_145 (show trsS ts b_138 from (show q_ = b_138 from e_) ▸ h1)) (fun y_ => (fun q_ h1 h2 => pr_168 q_ h2 h1) q_ h1 y_))
            have pr_239 : ¬ trsS (ts ++ [(⟨b_138, part, to, an, cn, newI (uniq (sortN keys))⟩ : TrS Item)]) s := fun x_ => (trs_end _ x_).elim (fun e_ => absurd e_ (by omega)) (fun y_ => y_.elim pr_165 (fun y_ => htss y_))
            have pr_240 : ∀ q_, trsS (ts ++ [(⟨b_138, part, to, an, cn, newI (uniq (sortN keys))⟩ : TrS Item)]) q_ → ¬ own a_147 q_ := fun q_ x_ z_ => (trs_end _ x_).elim (fun e_ => pr_156 (show own a_147 b_138 from e_ ▸ z_)) (fun y_ => y_.elim (fun y_ => pr_169 q_ y_ z_) (fun y_ => (fun y_ => (fun q_ h1 h2 => pr_155 q_ h2 h1) q_ y_ z_) y_))
            have pr_241 : ∀ q_, trsS (ts ++ [(⟨b_138, part, to, an, cn, newI (uniq (sortN keys))⟩ : TrS Item)]) q_ → ¬ own (some ⟨b_210, 0, none⟩) q_ := fun q_ x_ z_ => (trs_end _ x_).elim (fun e_ => pr_216 (show own (some ⟨b_210, 0, none⟩) b_138 from e_ ▸ z_)) (fun y_ => y_.elim (fun y_ => (fun q_ h1 h2 => pr_220 q_ h2 h1) q_ y_ z_) (fun y_ => (fun y_ => (fun q_ h1 h2 => pr_218 q_ h2 h1) q_ y_ z_) y_))
            have pr_242 : ∀ q_, trsS (ts ++ [(⟨b_138, part, to, an, cn, newI (uniq (sortN keys))⟩ : TrS Item)]) q_ → ¬ own a_223 q_ := fun q_ x_ z_ => (trs_end _ x_).elim (fun e_ => pr_231 (show own a_223 b_138 from e_ ▸ z_)) (fun y_ => y_.elim (fun y_ => (fun q_ h1 h2 => pr_234 q_ h2 h1) q_ y_ z_) (fun y_ => (fun y_ => (fun q_ h1 h2 => pr_232 q_ h2 h1) q_ y_ z_) y_))
            have pg_243 : ∀ q_, trsS (ts ++ [(⟨b_138, part, to, an, cn, newI (uniq (sortN keys))⟩ : TrS Item)]) q_ → q_ < w.heap.size → (sndS s al ts) q_ := fun q_ x_ hl_ => (trs_end _ x_).elim (fun e_ => absurd hl_ (by omega)) (fun y_ => y_.elim (fun y_ => pr_170 q_ y_ hl_) (fun y_ => (fun y_ => (fun q_ h_ _ => Or.inr (Or.inr h_)) q_ y_ hl_) y_))
            exact ⟨_, rfl, a_223, c_224, (ts ++ [(⟨b_138, part, to, an, cn, newI (uniq (sortN keys))⟩ : TrS Item)]), by rw [(beg_new (nl := newI (uniq (sortN keys))) (by omega) hc22 (left_no hfs).1 hfx).1], ⟨hB, ho_226, hT', pr_230, pr_239, pr_242, hok.snoc (newI_ok hn0.1 (hcK hc22) hkyl)⟩, by rw [(beg_new (nl := newI (uniq (sortN keys))) (by omega) hc22 (left_no hfs).1 hfx).2, List.map_append]; rfl, snd_moved pg_236 pg_243, K0⟩

set_option maxRecDepth 100000 in
set_option maxHeartbeats 4000000 in
theorem cancelNil  (part to : Int) (w : World) :
    Calls Try.prog 19 #[.pointer none, .int .i64 (part), .int .i64 (to)] w (Ret (fun v w' => v = .int .i64 8 ∧ Ext w w')) := by
  refine calls_run (n := 47) Try.func19 rfl rfl rfl ?_
  refine Run.seq ?_
  refine Run.region ?_
  refine RL.val (x_assignI rfl) ?_
  refine RL.nil ?_
  refine Run.seq ?_
  refine Run.seq ?_
  refine Run.region ?_
  refine RL.val (x_moveP rfl) ?_
  refine RL.val (x_moveI rfl) ?_
  refine RL.val (x_moveI rfl) ?_
  refine RL.st rfl <| St1.call (vals := [.pointer none, .int .i64 (part), .int .i64 (to)]) en41 rfl (mayNil _ _ _) ?_
  rintro _ w_1 ⟨rfl, K_2⟩
  have K0 := (K_2 : Ext w _)
  refine RL.val (x_assignI rfl) ?_
  refine RL.nil ?_
  refine Run.seq ?_
  refine Run.region ?_
  refine RL.val (x_moveI rfl) ?_
  refine RL.val (litT (x_neI rfl rfl) (by decide)) ?_
  refine RL.nil ?_
  refine Run.condT rfl ?_
  refine Run.seq ?_
  refine Run.region ?_
  refine RL.val (x_moveI rfl) ?_
  refine RL.val (x_assignI rfl) ?_
  refine RL.nil ?_
  refine Run.ret1 (v := .int .i64 (8)) Try.func19 rfl rfl ?_
  exact ⟨_, rfl, rfl, K0⟩

set_option maxRecDepth 100000 in
set_option maxHeartbeats 4000000 in
theorem cancelZero (s : Nat) (part to : Int) (w : World) (hB : Blk w s [.bool false, .int .i64 0, .int .i64 0, .int .i64 0, .slice none 0 0] 60) :
    Calls Try.prog 19 #[.pointer (some ⟨s, 0, none⟩), .int .i64 (part), .int .i64 (to)] w (Ret (fun v w' => v = .int .i64 8 ∧ Ext w w')) := by
  refine calls_run (n := 47) Try.func19 rfl rfl rfl ?_
  refine Run.seq ?_
  refine Run.region ?_
  refine RL.val (x_assignI rfl) ?_
  refine RL.nil ?_
  refine Run.seq ?_
  refine Run.seq ?_
  refine Run.region ?_
  refine RL.val (x_moveP rfl) ?_
  refine RL.val (x_moveI rfl) ?_
  refine RL.val (x_moveI rfl) ?_
  refine RL.st rfl <| St1.call (vals := [.pointer (some ⟨s, 0, none⟩), .int .i64 (part), .int .i64 (to)]) en41 rfl (mayZero _ _ _ _ hB) ?_
  rintro _ w_1 ⟨rfl, K_2⟩
  replace hB := hB.ext K_2
  have K0 := (K_2 : Ext w _)
  refine RL.val (x_assignI rfl) ?_
  refine RL.nil ?_
  refine Run.seq ?_
  refine Run.region ?_
  refine RL.val (x_moveI rfl) ?_
  refine RL.val (litT (x_neI rfl rfl) (by decide)) ?_
  refine RL.nil ?_
  refine Run.condT rfl ?_
  refine Run.seq ?_
  refine Run.region ?_
  refine RL.val (x_moveI rfl) ?_
  refine RL.val (x_assignI rfl) ?_
  refine RL.nil ?_
  refine Run.ret1 (v := .int .i64 (8)) Try.func19 rfl rfl ?_
  exact ⟨_, rfl, rfl, K0⟩

set_option maxRecDepth 100000 in
set_option maxHeartbeats 4000000 in
theorem cancel_ (s : Nat) (al : Option Addr) (cl : Nat) (self now req : Int) (ts : List (TrS Item)) (part to : Int) (w : World) (hD : SndO w s al cl self now req ts) (hL : ts.length ≤ 1000) :
    Calls Try.prog 19 #[.pointer (some ⟨s, 0, none⟩), .int .i64 (part), .int .i64 (to)] w (Ret (fun v w' => ∃ al' cl' ts', v = .int .i64 (canE self (ts.map TrS.p) part to) ∧ SndO w' s al' cl' self now req ts' ∧ ts'.map TrS.p = canL self (ts.map TrS.p) part to ∧ (∀ q, sndS s al' ts' q → q < w.heap.size → sndS s al ts q) ∧ Keeps (sndS s al ts) w w')) := by
  obtain ⟨hB, ho, hT, hos, htss, hto, hok⟩ := hD
  have hlp := ptr_len ts
  have hs0 := hok.self0
  have hn0 := hok.now0
  refine calls_run (n := 47) Try.func19 rfl rfl rfl ?_
  refine Run.seq ?_
  refine Run.region ?_
  refine RL.val (x_assignI rfl) ?_
  refine RL.nil ?_
  refine Run.seq ?_
  refine Run.seq ?_
  refine Run.region ?_
  refine RL.val (x_moveP rfl) ?_
  refine RL.val (x_moveI rfl) ?_
  refine RL.val (x_moveI rfl) ?_
  refine RL.st rfl <| St1.call (vals := [.pointer (some ⟨s, 0, none⟩), .int .i64 (part), .int .i64 (to)]) en41 rfl (may_ s al cl self now req ts part to _ (⟨hB, ho, hT, hos, htss, hto, hok⟩ : SndO _ s al cl self now req ts) hL) ?_
  rintro _ w_1 ⟨rfl, K_2⟩
  replace hB := hB.ext K_2
  replace ho := ho.ext K_2
  replace hT := hT.ext K_2
  have K0 := (K_2 : Ext w _).to (S := (sndS s al ts))
  refine RL.val (x_assignI rfl) ?_
  refine RL.nil ?_
  refine Run.seq ?_
  refine Run.region ?_
  refine RL.val (x_moveI rfl) ?_
  refine RL.val (x_neI rfl rfl) ?_
  refine RL.nil ?_
  refine Run.cond rfl (fun hc14 => ?_) (fun hc14 => ?_)
  · try simp only [br] at hc14
    refine Run.seq ?_
    refine Run.region ?_
    refine RL.val (x_moveI rfl) ?_
    refine RL.val (x_assignI rfl) ?_
    refine RL.nil ?_
    refine Run.ret1 (v := .int .i64 (mayE self part to)) Try.func19 rfl rfl ?_
    exact ⟨_, rfl, al, cl, ts, by rw [(can_may hc14).1], ⟨hB, ho, hT, hos, htss, hto, hok⟩, by rw [(can_may hc14).2], fun _ h _ => h, K0⟩
  · try simp only [br] at hc14
    refine Run.skip ?_
    refine Run.seq ?_
    refine Run.region ?_
    refine RL.val (x_moveP rfl) ?_
    refine RL.val (x_moveI rfl) ?_
    refine RL.val (x_moveI rfl) ?_
    refine RL.st rfl <| St1.call (vals := [.pointer (some ⟨s, 0, none⟩), .int .i64 (part), .int .i64 (to)]) en45 rfl (find_ s al cl self now req ts part to _ (⟨hB, ho, hT, hos, htss, hto, hok⟩ : SndO _ s al cl self now req ts) hL) ?_
    rintro _ w_3 ⟨rfl, K_4⟩
    replace hB := hB.ext K_4
    replace ho := ho.ext K_4
    replace hT := hT.ext K_4
    replace K0 := K0.ext K_4
    refine RL.val (x_assignI rfl) ?_
    refine RL.nil ?_
    refine Run.seq ?_
    refine Run.seq ?_
    by_cases hh : 0 ≤ findI (sameT part to) (ts.map TrS.p)
    · obtain ⟨k, t, l1, l2, hk, hkl, hts, hl1, hti, hpt, hst, hfs, hfx⟩ := tr_yes (ts := ts) (part := part) (to := to) (by omega)
      rw [hk]
      have hbt := (hT.all t (mem_tr hts)).blk
      have hLt := hok.at (mem_tr hts)
      have ne_5 : t.blk ≠ s := fun e_ => htss (e_ ▸ trs_subB hts)
      refine Run.region ?_
      refine RL.val (x_moveI rfl) ?_
      refine RL.val (x_ltI rfl rfl) ?_
      refine RL.val (x_moveB rfl) ?_
      refine RL.gval (wantedF rfl rfl rfl rfl) (fun hg => (x_moveP rfl)) ?_
      refine RL.gval (wantedF rfl rfl rfl rfl) (fun hg => (x_nilCheck (gvr hg))) ?_
      refine RL.gval (wantedF rfl rfl rfl rfl) (fun hg => (x_fld (o' := 4) Try.underlying60 rfl ty58 rfl (gvr hg) rfl)) ?_
      refine RL.gval (wantedF rfl rfl rfl rfl) (fun hg => (x_ld (v := .slice (al) ((ts.map TrS.ptr).length) (cl)) ty58 (gvr hg) rfl (hB.cl.field (i := 4) rfl))) ?_
      refine RL.gval (wantedF rfl rfl rfl rfl) (fun hg => (x_moveI rfl)) ?_
      obtain ⟨b_6, o_7, x_10, hx_11, ha_8, hc_9⟩ := ho.sl.el (i := k) (by first | omega | (simp only [List.length_set]; omega))
      obtain rfl : (some (⟨t.blk, 0, none⟩ : Addr)) = x_10 := Option.some.inj (hpt.symm.trans hx_11)
      refine RL.gval (wantedF rfl rfl rfl rfl) (fun hg => (x_idxN Try.underlying58 ty90 (gvr hg) (gvr hg) ha_8 (by first | omega | (simp only [List.length_set]; omega)))) ?_
      refine RL.gval (wantedF rfl rfl rfl rfl) (fun hg => (x_ldV (v := .pointer (some ⟨t.blk, 0, none⟩)) (y := (some (⟨t.blk, 0, none⟩ : Addr))) ty90 (gvr hg) hc_9 rfl)) ?_
      refine RL.gval (wantedF rfl rfl rfl rfl) (fun hg => (x_nilCheck (gvr hg))) ?_
      refine RL.gval (wantedF rfl rfl rfl rfl) (fun hg => (x_fld (o' := 2) Try.underlying89 rfl ty87 rfl (gvr hg) rfl)) ?_
      refine RL.gval (wantedF rfl rfl rfl rfl) (fun hg => (x_ld (v := .slice (t.a) (t.left.length) (t.cap)) ty87 (gvr hg) rfl (hbt.cl.field (i := 2) rfl))) ?_
      refine RL.gval (wantedF rfl rfl rfl rfl) (fun hg => (x_lenSl Try.underlying87 (gvr hg))) ?_
      refine RL.gval (wantedF rfl rfl rfl rfl) (fun hg => (x_eqI (gvr hg) rfl)) ?_
      refine RL.val (x_or rfl rfl rfl) ?_
      refine RL.nil ?_
      refine Run.cond rfl (fun hc35 => ?_) (fun hc35 => ?_)
      · try simp only [br] at hc35
        refine Run.seq ?_
        refine Run.region ?_
        refine RL.val (x_assignI rfl) ?_
        refine RL.nil ?_
        refine Run.ret1 (v := .int .i64 (180)) Try.func19 rfl rfl ?_
        exact ⟨_, rfl, al, cl, ts, by rw [(can_none (by omega) (show leftN (ts.map TrS.p) part to = 0 by rw [(left_in hfs).1]; show t.left.length = 0; omega)).1], ⟨hB, ho, hT, hos, htss, hto, hok⟩, by rw [(can_none (by omega) (show leftN (ts.map TrS.p) part to = 0 by rw [(left_in hfs).1]; show t.left.length = 0; omega)).2], fun _ h _ => h, K0⟩
      · try simp only [br] at hc35
        refine Run.skip ?_
        refine Run.seq ?_
        refine Run.region ?_
        refine RL.val (x_moveP rfl) ?_
        refine RL.val (x_moveP rfl) ?_
        refine RL.val (x_nilCheck rfl) ?_
        refine RL.val (x_fld (o' := 4) Try.underlying60 rfl ty58 rfl rfl rfl) ?_
        refine RL.val (x_ld (v := .slice (al) ((ts.map TrS.ptr).length) (cl)) ty58 rfl rfl (hB.cl.field (i := 4) rfl)) ?_
        refine RL.val (x_moveI rfl) ?_
        refine RL.val (x_moveI rfl) ?_
        refine RL.val (litI (c := ((k + 1 : Nat) : Int)) (x_add rfl rfl (by omega) (by omega)) rfl) ?_
        refine RL.st rfl <| St1.call (vals := [.slice (al) ((ts.map TrS.ptr).length) (cl), .int .i64 (((k : Nat) : Int)), .int .i64 (((k + 1 : Nat) : Int))]) en46 rfl (delete_tr _ _ _ k _ ho (by omega) (by omega)) ?_
        rintro _ w_12 ⟨rfl, ho_13, K_14⟩
        replace hB := hB.keep K_14 hos
        replace hT := hT.keepO K_14 hto
        replace hbt := hbt.keep K_14 (fun h_ => (fun q_ h1 h2 => hto q_ h2 h1) _ h_ (trs_subB hts))
        replace K0 := K0.trans K_14 (fun x hlt hx => (fun q_ h_ _ => Or.inr (Or.inl h_)) x hx hlt)
        replace ho := ho_13
        clear ho_13
        replace ho : OwnSl w_12 90 al cl (delI (ts.map TrS.ptr) k) := ho
        refine RL.val (x_nilCheck rfl) ?_
        refine RL.val (x_fld (o' := 4) Try.underlying60 rfl ty58 rfl rfl rfl) ?_
        refine RL.st rfl <| St1.store (v := .slice (al) ((delI (ts.map TrS.ptr) k).length) (cl)) ty58 rfl rfl rfl (by simp [Value.cells, Value.oneCell']) hB (by simp) ?_
        intro w_15 hB_ K_16
        have hB' : Blk w_15 s [.bool (true), .int .i64 (self), .int .i64 (now), .int .i64 (req), .slice (al) ((delI (ts.map TrS.ptr) k).length) (cl)] 60 := hB_
        clear hB_
        replace ho := ho.keepO K_16 (fun q_ hq_ eq_ => hos (by simp only [one] at eq_; rw [← eq_]; exact hq_))
        replace hT := hT.keepO K_16 (fun q_ hq_ eq_ => htss (by simp only [one] at eq_; rw [← eq_]; exact hq_))
        replace hbt := hbt.keep K_16 (by simp only [one]; omega)
        replace K0 := K0.trans K_16 (fun x _ hx => by simp only [one] at hx; subst hx; exact (Or.inl rfl))
        replace hB := hB'
        clear hB'
        refine RL.nil ?_
        refine Run.seq ?_
        refine Run.region ?_
        refine RL.val (x_assignI rfl) ?_
        refine RL.nil ?_
        refine Run.ret1 (v := .int .i64 (0)) Try.func19 rfl rfl ?_
        have hR := (hT.openE hts).2.1
        have pr_17 : ¬ trsS (l1 ++ l2) s := fun h_ => htss ((trs_subR hts) _ h_)
        have pr_18 : ∀ q_, trsS (l1 ++ l2) q_ → ¬ own al q_ := fun q_ h_ => hto q_ ((trs_subR hts) q_ h_)
        clear hT hbt
        rw [del_ptr hts hl1] at ho hB
        exact ⟨_, rfl, al, cl, l1 ++ l2, by rw [(can_in (by omega) (show leftN (ts.map TrS.p) part to ≠ 0 by rw [(left_in hfs).1]; show t.left.length ≠ 0; omega) hfx hts hl1).1], ⟨hB, ho, hR, hos, pr_17, pr_18, hok.del hts⟩, by rw [(can_in (by omega) (show leftN (ts.map TrS.p) part to ≠ 0 by rw [(left_in hfs).1]; show t.left.length ≠ 0; omega) hfx hts hl1).2], snd_moved (fun q_ h_ _ => Or.inr (Or.inl h_)) (fun q_ h_ hl_ => (fun q_ h_ _ => Or.inr (Or.inr h_)) q_ ((trs_subR hts) q_ h_) hl_), K0⟩
    · obtain ⟨hk, hfs, hfx⟩ := tr_no (ts := ts) (part := part) (to := to) (by omega)
      refine Run.region ?_
      refine RL.val (x_moveI rfl) ?_
      refine RL.val (litT (x_ltI rfl rfl) (by simpa using hh)) ?_
      refine RL.val (x_moveB rfl) ?_
      refine RL.guardF (wantedF0 rfl rfl rfl rfl) ?_
      refine RL.guardF (wantedF0 rfl rfl rfl rfl) ?_
      refine RL.guardF (wantedF0 rfl rfl rfl rfl) ?_
      refine RL.guardF (wantedF0 rfl rfl rfl rfl) ?_
      refine RL.guardF (wantedF0 rfl rfl rfl rfl) ?_
      refine RL.guardF (wantedF0 rfl rfl rfl rfl) ?_
      refine RL.guardF (wantedF0 rfl rfl rfl rfl) ?_
      refine RL.guardF (wantedF0 rfl rfl rfl rfl) ?_
      refine RL.guardF (wantedF0 rfl rfl rfl rfl) ?_
      refine RL.guardF (wantedF0 rfl rfl rfl rfl) ?_
      refine RL.guardF (wantedF0 rfl rfl rfl rfl) ?_
      refine RL.guardF (wantedF0 rfl rfl rfl rfl) ?_
      refine RL.val (x_or (b := true) (e := false) rfl rfl rfl) ?_
      refine RL.nil ?_
      refine Run.condT rfl ?_
      refine Run.seq ?_
      refine Run.region ?_
      refine RL.val (x_assignI rfl) ?_
      refine RL.nil ?_
      refine Run.ret1 (v := .int .i64 (180)) Try.func19 rfl rfl ?_
      exact ⟨_, rfl, al, cl, ts, by rw [(can_none (by omega) (left_no hfs).1).1], ⟨hB, ho, hT, hos, htss, hto, hok⟩, by rw [(can_none (by omega) (left_no hfs).1).2], fun _ h _ => h, K0⟩

set_option maxRecDepth 100000 in
set_option maxHeartbeats 4000000 in
theorem beginNil  (part to : Int) (ak : Option Addr) (nk ck : Nat) (w : World) :
    Calls Try.prog 11 #[.pointer none, .int .i64 (part), .int .i64 (to), .slice (ak) (nk) (ck)] w (Ret (fun v w' => v = .int .i64 8 ∧ Ext w w')) := by
  refine calls_run (n := 91) Try.func11 rfl rfl rfl ?_
  refine Run.seq ?_
  refine Run.region ?_
  refine RL.val (x_assignI rfl) ?_
  refine RL.nil ?_
  refine Run.seq ?_
  refine Run.seq ?_
  refine Run.region ?_
  refine RL.val (x_moveP rfl) ?_
  refine RL.val (x_moveI rfl) ?_
  refine RL.val (x_moveI rfl) ?_
  refine RL.st rfl <| St1.call (vals := [.pointer none, .int .i64 (part), .int .i64 (to)]) en41 rfl (mayNil _ _ _) ?_
  rintro _ w_1 ⟨rfl, K_2⟩
  have K0 := (K_2 : Ext w _)
  refine RL.val (x_assignI rfl) ?_
  refine RL.nil ?_
  refine Run.seq ?_
  refine Run.region ?_
  refine RL.val (x_moveI rfl) ?_
  refine RL.val (litT (x_neI rfl rfl) (by decide)) ?_
  refine RL.nil ?_
  refine Run.condT rfl ?_
  refine Run.seq ?_
  refine Run.region ?_
  refine RL.val (x_moveI rfl) ?_
  refine RL.val (x_assignI rfl) ?_
  refine RL.nil ?_
  refine Run.ret1 (v := .int .i64 (8)) Try.func11 rfl rfl ?_
  exact ⟨_, rfl, rfl, K0⟩

set_option maxRecDepth 100000 in
set_option maxHeartbeats 4000000 in
theorem beginZero (s : Nat) (part to : Int) (ak : Option Addr) (nk ck : Nat) (w : World) (hB : Blk w s [.bool false, .int .i64 0, .int .i64 0, .int .i64 0, .slice none 0 0] 60) :
    Calls Try.prog 11 #[.pointer (some ⟨s, 0, none⟩), .int .i64 (part), .int .i64 (to), .slice (ak) (nk) (ck)] w (Ret (fun v w' => v = .int .i64 8 ∧ Ext w w')) := by
  refine calls_run (n := 91) Try.func11 rfl rfl rfl ?_
  refine Run.seq ?_
  refine Run.region ?_
  refine RL.val (x_assignI rfl) ?_
  refine RL.nil ?_
  refine Run.seq ?_
  refine Run.seq ?_
  refine Run.region ?_
  refine RL.val (x_moveP rfl) ?_
  refine RL.val (x_moveI rfl) ?_
  refine RL.val (x_moveI rfl) ?_
  refine RL.st rfl <| St1.call (vals := [.pointer (some ⟨s, 0, none⟩), .int .i64 (part), .int .i64 (to)]) en41 rfl (mayZero _ _ _ _ hB) ?_
  rintro _ w_1 ⟨rfl, K_2⟩
  replace hB := hB.ext K_2
  have K0 := (K_2 : Ext w _)
  refine RL.val (x_assignI rfl) ?_
  refine RL.nil ?_
  refine Run.seq ?_
  refine Run.region ?_
  refine RL.val (x_moveI rfl) ?_
  refine RL.val (litT (x_neI rfl rfl) (by decide)) ?_
  refine RL.nil ?_
  refine Run.condT rfl ?_
  refine Run.seq ?_
  refine Run.region ?_
  refine RL.val (x_moveI rfl) ?_
  refine RL.val (x_assignI rfl) ?_
  refine RL.nil ?_
  refine Run.ret1 (v := .int .i64 (8)) Try.func11 rfl rfl ?_
  exact ⟨_, rfl, rfl, K0⟩

end Go.Proofs.Ythhhkjmlnjbnjaa
