/-
  Layer 12's walks: next, begin, Tick.
-/
import Derived.Test.YtagfdmdajmkddaaRows
import Derived.Test.YtagfdmdajmkddaaLd
namespace Go.Proofs.Ytagfdmdajmkddaa
attribute [local irreducible] St1 RL RA RT RT1 Run

/-- those of the first j that stay -/
def keepF {α : Type} (q : α → Bool) (xs : List α) (j : Nat) : List α := (xs.take j).filter (fun x => !q x)
theorem keepF_len {α : Type} (q : α → Bool) (xs : List α) (j : Nat) : (keepF q xs j).length ≤ j := by
  unfold keepF
  have := List.length_filter_le (fun x => !q x) (xs.take j)
  have := List.length_take_le j xs
  omega
theorem keepF_succ {α : Type} {q : α → Bool} {xs : List α} {j : Nat} {x : α} (h : xs[j]? = some x) : keepF q xs (j + 1) = if q x = true then keepF q xs j else keepF q xs j ++ [x] := by
  obtain ⟨hj, rfl⟩ := List.getElem?_eq_some_iff.1 h
  unfold keepF
  rw [List.take_succ_eq_append_getElem hj, List.filter_append]
  split
  · rename_i hq; simp [hq]
  · rename_i hq; simp [hq]
theorem keepF_first {α : Type} {q : α → Bool} {xs : List α} {k : Nat} (hk : k < xs.length) (hq : ∀ x, xs[k]? = some x → q x = true) (hn : NoB q xs k) : keepF q xs (k + 1) = xs.take k := by
  rw [keepF_succ (x := xs[k]) (by simp), if_pos (hq _ (by simp))]
  unfold keepF
  rw [List.filter_eq_self]
  intro x hx
  obtain ⟨i, hi, rfl⟩ := List.getElem_of_mem hx
  simp only [List.length_take] at hi
  rw [List.getElem_take]
  rw [hn i _ (by omega) (List.getElem?_eq_getElem (by omega))]
  rfl
theorem keepF_none {α : Type} {q : α → Bool} {xs : List α} (hn : NoB q xs xs.length) : xs.filter (fun x => !q x) = xs := by
  rw [List.filter_eq_self]
  intro x hx
  obtain ⟨i, hi, rfl⟩ := List.getElem_of_mem hx
  rw [hn i _ hi (by simp)]
  rfl
theorem keepF_all {α : Type} (q : α → Bool) (xs : List α) : keepF q xs xs.length = xs.filter (fun x => !q x) := by rw [keepF, List.take_length]
theorem drop_get {α : Type} {xs ys : List α} {j : Nat} (h : ys.drop j = xs.drop j) : ys[j]? = xs[j]? := by
  have := congrArg (fun l => l[0]?) h
  simpa [List.getElem?_drop] using this
theorem drop_succ_eq {α : Type} {xs ys : List α} {j : Nat} (h : ys.drop j = xs.drop j) : ys.drop (j + 1) = xs.drop (j + 1) := by
  rw [← List.drop_drop, h, List.drop_drop]
theorem set_take_succ {α : Type} {ys : List α} {i : Nat} {x : α} (hi : i < ys.length) : (ys.set i x).take (i + 1) = ys.take i ++ [x] := by
  rw [List.take_succ_eq_append_getElem (by simpa using hi), List.getElem_set_self, List.take_set_of_le (Nat.le_refl _)]
theorem set_drop_gt {α : Type} {ys : List α} {i j : Nat} {x : α} (h : i < j) : (ys.set i x).drop j = ys.drop j := by
  rw [List.drop_set, if_pos h]

open Sa
theorem findI_lo {α : Type} (p : α → Bool) (xs : List α) : -1 ≤ findI p xs := by
  unfold findI
  split <;> omega

theorem nxt1_skip {T : Tab} {s : Int × Int} {n : Nat} {k : KnownM} (hk : T.l[n]? = some k) (h : ((n : Int) = T.self ∨ k.peer.status = 0) ∨ T.pings.any (fun p => p.target == (n : Int)) = true) : nxt1 T s n = s := by
  rw [nxt1, hk]; simp only [if_pos h]
theorem nxt1_yes {T : Tab} {s : Int × Int} {n : Nat} {k : KnownM} (hk : T.l[n]? = some k) (h : ¬ (((n : Int) = T.self ∨ k.peer.status = 0) ∨ T.pings.any (fun p => p.target == (n : Int)) = true)) :
    nxt1 T s n = (if s.1 < 0 then (n : Int) else s.1, if s.2 < 0 ∧ T.target < (n : Int) then (n : Int) else s.2) := by
  rw [nxt1, hk]; simp only [if_neg h]
theorem next_rng (T : Tab) : ∀ i, (-1 ≤ (rf (nxt1 T) (-1, -1) i).1 ∧ (rf (nxt1 T) (-1, -1) i).1 < i) ∧ (-1 ≤ (rf (nxt1 T) (-1, -1) i).2 ∧ (rf (nxt1 T) (-1, -1) i).2 < i) := by
  refine rf_ind (fun i (s : Int × Int) => (-1 ≤ s.1 ∧ s.1 < i) ∧ (-1 ≤ s.2 ∧ s.2 < i)) (by simp) ?_
  rintro i ⟨a, b⟩ ⟨h1, h2⟩
  simp only at h1 h2
  unfold nxt1
  split
  · simp only; omega
  · split
    · simp only; omega
    · refine ⟨?_, ?_⟩
      · simp only; split <;> omega
      · simp only; split <;> omega
theorem next_range (T : Tab) : -1 ≤ nextT T ∧ nextT T < 8 := by
  have := next_rng T 8
  unfold nextT
  simp only
  split <;> omega
theorem nxt1_go {T : Tab} {s : Int × Int} {n : Nat} {k : KnownM} (hk : T.l[n]? = some k) (h : (¬ (n : Int) = T.self ∧ ¬ k.peer.status = 0) ∧ T.pings.any (fun p => p.target == (n : Int)) = false) :
    nxt1 T s n = (if s.1 < 0 then (n : Int) else s.1, if s.2 < 0 ∧ T.target < (n : Int) then (n : Int) else s.2) := by
  refine nxt1_yes hk ?_
  rintro ((h1 | h1) | h1)
  · exact h.1.1 h1
  · exact h.1.2 h1
  · rw [h.2] at h1; cases h1
theorem begin_go {T : Tab} (h : T.begun = false ∨ 100 ≤ T.now - T.last) : ¬ (T.begun = true ∧ T.now - T.last < 100) := by
  rintro ⟨h1, h2⟩
  rcases h with h | h
  · rw [h] at h1; cases h1
  · omega
theorem begin_wait {T : Tab} (h : T.begun = true ∧ T.now - T.last < 100) : beginT T = (T, []) := by rw [beginT, if_pos h]
theorem begin_none {T : Tab} (h : ¬ (T.begun = true ∧ T.now - T.last < 100)) (h2 : nextT T < 0 ∨ 1099511627776 ≤ T.req) : beginT T = (T, []) := by rw [beginT, if_neg h, if_pos h2]
theorem begin_yes {T : Tab} (h : ¬ (T.begun = true ∧ T.now - T.last < 100)) (h2 : ¬ (nextT T < 0 ∨ 1099511627776 ≤ T.req)) : beginT T = ({ T with req := T.req + 1, begun := true, last := T.now, target := nextT T, pings := T.pings ++ [⟨nextT T, T.req + 1, T.now, false⟩] }, [mkMsg 6 T.self (nextT T) (T.req + 1) (-1) (-1)]) := by
  rw [beginT, if_neg h, if_neg h2]
theorem begin_ok {T : Tab} (h : TabOk T) : TabOk (beginT T).1 ∧ (beginT T).2.length ≤ 1 ∧ (beginT T).1.pings.length ≤ T.pings.length + 1 := by
  unfold beginT
  split
  · exact ⟨h, by simp, by simp⟩
  · split
    · exact ⟨h, by simp, by simp⟩
    · rename_i h2
      have hn := next_range T
      have hr := h.req0
      have hw := h.now0
      refine ⟨⟨h.len, h.self0, h.now0, h.known, ?_, by simp only; omega, by simp only; omega⟩, by simp, by simp⟩
      intro p hp
      simp only at hp ⊢
      rcases List.mem_append.1 hp with hq | hq
      · exact h.pings p hq
      · simp only [List.mem_singleton] at hq; subst hq; simp only; omega
theorem pinged_len (T : Tab) (m : MsgC) : (pingedT T m).length ≤ 1 := by
  unfold pingedT
  split
  · simp
  · split <;> simp
theorem ponged_ok {T : Tab} {m : MsgC} (h : TabOk T) : TabOk (pongedT T m).1 ∧ (pongedT T m).2.length ≤ 1 ∧ (pongedT T m).1.pings.length ≤ T.pings.length := by
  unfold pongedT
  split
  · exact ⟨⟨h.len, h.self0, h.now0, h.known, fun p hp => h.pings p (List.mem_filter.1 hp).1, h.req0, h.last0⟩, by simp, List.length_filter_le _ _⟩
  · split
    · exact ⟨h, by simp, by simp⟩
    · exact ⟨h, by simp, by simp⟩

theorem en64 : Enters Try.prog 64 := enters_of Try.func64 rfl (by kernel_rfl)
theorem en67 : Enters Try.prog 67 := enters_of Try.func67 rfl (by kernel_rfl)
theorem en68 : Enters Try.prog 68 := enters_of Try.func68 rfl (by kernel_rfl)
theorem en69 : Enters Try.prog 69 := enters_of Try.func69 rfl (by kernel_rfl)

set_option maxRecDepth 100000 in
set_option maxHeartbeats 4000000 in
theorem indexFunc_ping (a : Option Addr) (xs : List Ping) (c : Nat) (gf : FuncId) (caps : List Value) (q : Ping → Bool) (hen : Enters Try.prog gf) (w : World) (hs : SlOf w a xs) (hl : xs.length ≤ 4294967295) (hq : ∀ x ∈ xs, ∀ w', Ext w w' → Calls Try.prog gf (Enc.val x :: caps).toArray w' (Ret fun v w'' => v = .bool (q x) ∧ Ext w' w'')) :
    Calls Try.prog 69 #[.slice (a) (xs.length) (c), .func (.func gf) #[] caps.toArray] w (Ret (fun v w' => v = .int .i64 (findI q xs) ∧ Ext w w')) := by
  refine calls_run (n := 19) Try.func69 rfl rfl rfl ?_
  refine Run.seq ?_
  refine Run.region ?_
  refine RL.val (x_assignI rfl) ?_
  refine RL.nil ?_
  refine Run.seq ?_
  refine Run.seq ?_
  refine Run.region ?_
  refine RL.val (x_moveSl rfl) ?_
  refine RL.val (x_lenSl Try.underlying69 rfl) ?_
  refine RL.val (x_moveI rfl) ?_
  refine RL.nil ?_
  refine Run.block ?_
  refine Run.loop (ι := Nat) (fun i ρ' w' => Holds ρ' [(0, .slice (a) (xs.length) (c)), (1, .func (.func gf) #[] caps.toArray), (7, .int .i64 (((xs.length : Nat) : Int))), (8, .int .i64 (((i : Nat) : Int)))] ∧ Ext w w' ∧ (i ≤ xs.length) ∧ (NoB q xs i)) (fun i => xs.length - i) 0 ?_ ?_
  · refine ⟨⟨rfl, rfl, rfl, rfl, trivial⟩, (Keeps.refl _ w), ?_, ?_⟩
    · omega
    · exact NoB.zero _ _
  rintro i ρ_3 w_1 ⟨hH_2, K0, hi, hno⟩ ih1
  obtain ⟨ρ₀, rfl⟩ := hH_2.ex
  clear hH_2
  refine Run.seq ?_
  refine Run.region ?_
  refine RL.val (x_ltI rfl rfl) ?_
  refine RL.nil ?_
  refine Run.seq ?_
  refine Run.cond rfl (fun hc9 => ?_) (fun hc9 => ?_)
  · try simp only [br] at hc9
    refine Run.skip ?_
    refine Run.seq ?_
    refine Run.block ?_
    refine Run.seq ?_
    refine Run.region ?_
    refine RL.val (x_moveI rfl) ?_
    refine RL.val (x_assignI rfl) ?_
    refine RL.nil ?_
    refine Run.seq ?_
    refine Run.region ?_
    refine RL.val (x_moveF rfl) ?_
    refine RL.val (x_moveSl rfl) ?_
    refine RL.val (x_moveI rfl) ?_
    obtain ⟨b_4, o_5, e, hx, ha_6, hc_7⟩ := hs.el (i := i) (by first | omega | (simp only [List.length_set]; omega))
    have hc_7_lt := hc_7.lt
    replace hc_7 := hc_7.ext K0
    refine RL.val (x_idxN Try.underlying69 ty107 rfl rfl ha_6 (by first | omega | (simp only [List.length_set]; omega))) ?_
    refine RL.val (x_ldV (v := .agg #[.int .i64 ((e).target), .int .i64 ((e).req), .int .i64 ((e).since), .bool ((e).others)]) (y := e) ty107 rfl hc_7 rfl) ?_
    refine RL.st rfl <| St1.callV (first := []) (vals := .agg #[.int .i64 ((e).target), .int .i64 ((e).req), .int .i64 ((e).since), .bool ((e).others)] :: caps) hen rfl rfl (hq e (mem_of_at hx) _ K0) ?_
    rintro _ w_10 ⟨rfl, K_11⟩
    replace hc_7 := hc_7.ext K_11
    replace K0 := K0.ext K_11
    refine RL.nil ?_
    refine Run.cond rfl (fun hc16 => ?_) (fun hc16 => ?_)
    · skip
      refine Run.seq ?_
      refine Run.region ?_
      refine RL.val (x_moveI rfl) ?_
      refine RL.val (x_assignI rfl) ?_
      refine RL.nil ?_
      refine Run.ret1 (v := .int .i64 (((i : Nat) : Int))) Try.func69 rfl rfl ?_
      exact ⟨_, rfl, by rw [findI_at hx hc16 hno], K0⟩
    · skip
      refine Run.skip ?_
      refine Run.inBlock ?_
      refine Run.region ?_
      refine RL.val (litI (c := ((i + 1 : Nat) : Int)) (x_add rfl rfl (by omega) (by omega)) rfl) ?_
      refine RL.val (x_moveI rfl) ?_
      refine RL.nil ?_
      refine ih1 (i + 1) _ _ ?_ (by omega)
      refine ⟨⟨rfl, rfl, rfl, rfl, trivial⟩, K0, ?_, ?_⟩
      · omega
      · exact hno.step hx hc16
  · try simp only [br] at hc9
    refine Run.exit rfl ?_
    refine Run.seq ?_
    refine Run.region ?_
    refine RL.val (x_assignI rfl) ?_
    refine RL.nil ?_
    refine Run.ret1 (v := .int .i64 (-1)) Try.func69 rfl rfl ?_
    exact ⟨_, rfl, by rw [findI_no hno (by omega)], K0⟩

set_option maxRecDepth 100000 in
set_option maxHeartbeats 4000000 in
theorem containsFunc_ping (a : Option Addr) (xs : List Ping) (c : Nat) (gf : FuncId) (caps : List Value) (q : Ping → Bool) (hen : Enters Try.prog gf) (w : World) (hs : SlOf w a xs) (hl : xs.length ≤ 4294967295) (hq : ∀ x ∈ xs, ∀ w', Ext w w' → Calls Try.prog gf (Enc.val x :: caps).toArray w' (Ret fun v w'' => v = .bool (q x) ∧ Ext w' w'')) :
    Calls Try.prog 67 #[.slice (a) (xs.length) (c), .func (.func gf) #[] caps.toArray] w (Ret (fun v w' => v = .bool (xs.any q) ∧ Ext w w')) := by
  refine calls_run (n := 9) Try.func67 rfl rfl rfl ?_
  refine Run.seq ?_
  refine Run.region ?_
  refine RL.val (x_assignB rfl) ?_
  refine RL.nil ?_
  refine Run.seq ?_
  refine Run.region ?_
  refine RL.val (x_moveSl rfl) ?_
  refine RL.val (x_moveF rfl) ?_
  refine RL.st rfl <| St1.call (vals := [.slice (a) (xs.length) (c), .func (.func gf) #[] caps.toArray]) en69 rfl (indexFunc_ping _ _ _ _ _ q hen _ hs (by omega) hq) ?_
  rintro _ w_1 ⟨rfl, K_2⟩
  have K0 := (K_2 : Ext w _)
  refine RL.val (x_geI rfl rfl) ?_
  refine RL.val (x_assignB rfl) ?_
  refine RL.nil ?_
  refine Run.ret1 (v := .bool (decide (0 ≤ (findI q xs)))) Try.func67 rfl rfl ?_
  exact ⟨_, rfl, by rw [findI_ge], K0⟩

set_option maxRecDepth 100000 in
set_option maxHeartbeats 4000000 in
theorem deleteFunc_ping (a : Option Addr) (xs : List Ping) (c : Nat) (gf : FuncId) (caps : List Value) (q : Ping → Bool) (hen : Enters Try.prog gf) (w : World) (ho : OwnSl w 107 a c xs) (hl : xs.length ≤ 4294967295) (hq : ∀ x ∈ xs, ∀ w', Keeps (own a) w w' → Calls Try.prog gf (Enc.val x :: caps).toArray w' (Ret fun v w'' => v = .bool (q x) ∧ Ext w' w'')) :
    Calls Try.prog 65 #[.slice (a) (xs.length) (c), .func (.func gf) #[] caps.toArray] w (Ret (fun v w' => v = .slice a (xs.filter (fun x => !q x)).length c ∧ OwnSl w' 107 a c (xs.filter (fun x => !q x)) ∧ Keeps (own a) w w')) := by
  have hcap := ho.le_cap
  refine calls_run (n := 42) Try.func65 rfl rfl rfl ?_
  refine Run.seq ?_
  refine Run.region ?_
  refine RL.val (x_assignSl rfl) ?_
  refine RL.nil ?_
  refine Run.seq ?_
  refine Run.region ?_
  refine RL.val (x_moveSl rfl) ?_
  refine RL.val (x_moveF rfl) ?_
  refine RL.st rfl <| St1.call (vals := [.slice (a) (xs.length) (c), .func (.func gf) #[] caps.toArray]) en69 rfl (indexFunc_ping _ _ _ _ _ q hen _ ho.sl (by omega) (fun x hx w' K' => hq x hx w' (K'.to))) ?_
  rintro _ w_1 ⟨rfl, K_2⟩
  replace ho := ho.ext K_2
  have K0 := (K_2 : Ext w _).to (S := (own a))
  refine RL.val (x_assignI rfl) ?_
  refine RL.nil ?_
  refine Run.seq ?_
  refine Run.seq ?_
  refine Run.region ?_
  refine RL.val (x_moveI rfl) ?_
  refine RL.val (x_eqI rfl rfl) ?_
  refine RL.nil ?_
  refine Run.cond rfl (fun hc12 => ?_) (fun hc12 => ?_)
  · try simp only [br] at hc12
    refine Run.seq ?_
    refine Run.region ?_
    refine RL.val (x_moveSl rfl) ?_
    refine RL.val (x_assignSl rfl) ?_
    refine RL.nil ?_
    refine Run.ret1 (v := .slice (a) (xs.length) (c)) Try.func65 rfl rfl ?_
    have hno := findI_none (p := q) (xs := xs) rfl (by omega)
    rw [keepF_none hno]
    exact ⟨_, rfl, rfl, ho, K0⟩
  · try simp only [br] at hc12
    obtain ⟨k, hk, hkl, hkp, hkn⟩ := findI_some (p := q) (xs := xs) rfl (by have := findI_lo q xs; omega)
    rw [hk]
    refine Run.skip ?_
    refine Run.seq ?_
    refine Run.seq ?_
    refine Run.region ?_
    refine RL.val (x_moveI rfl) ?_
    refine RL.val (litI (c := ((k + 1 : Nat) : Int)) (x_add rfl rfl (by omega) (by omega)) rfl) ?_
    refine RL.val (x_assignI rfl) ?_
    refine RL.nil ?_
    refine Run.block ?_
    refine Run.loop (ι := Nat) (fun j ρ' w' => ∃ ys : List Ping, Holds ρ' [(0, .slice (a) (xs.length) (c)), (1, .func (.func gf) #[] caps.toArray), (5, .int .i64 ((((keepF q xs j).length : Nat) : Int))), (6, .int .i64 (((j : Nat) : Int)))] ∧ Keeps (own a) w w' ∧ (OwnSl w' 107 a c (ys)) ∧ (∀ q_, own a q_ → q_ < w.heap.size → (own a) q_) ∧ (j ≤ xs.length) ∧ (ys.take (keepF q xs j).length = (keepF q xs j)) ∧ (ys.drop j = xs.drop j) ∧ (ys.length = xs.length) ∧ ((keepF q xs j).length < j)) (fun j => xs.length - j) (k + 1) ?_ ?_
    · rw [keepF_first hkl hkp hkn, List.length_take, Nat.min_eq_left (Nat.le_of_lt hkl)]
      refine ⟨_, ⟨rfl, rfl, rfl, rfl, trivial⟩, K0, ho, (fun x h _ => h), ?_, ?_, ?_, ?_, ?_⟩
      · omega
      · rfl
      · rfl
      · rfl
      · omega
    clear ho
    clear K0
    rintro j ρ_7 w_3 ⟨ys, hH_4, K0, ho_5, pr_6, hj, h1, h2, h3, h4⟩ ih1
    obtain ⟨ρ₀, rfl⟩ := hH_4.ex
    clear hH_4
    refine Run.seq ?_
    refine Run.seq ?_
    have hkl2 := keepF_len q xs j
    have hcap2 : ys.length ≤ c := by omega
    refine Run.region ?_
    refine RL.val (x_moveI rfl) ?_
    refine RL.val (x_moveSl rfl) ?_
    refine RL.val (x_lenSl Try.underlying69 rfl) ?_
    refine RL.val (x_ltI rfl rfl) ?_
    refine RL.nil ?_
    refine Run.cond rfl (fun hc19 => ?_) (fun hc19 => ?_)
    · try simp only [br] at hc19
      refine Run.skip ?_
      refine Run.seq ?_
      refine Run.block ?_
      refine Run.seq ?_
      refine Run.region ?_
      refine RL.val (x_moveSl rfl) ?_
      refine RL.val (x_moveI rfl) ?_
      obtain ⟨b_8, o_9, x, hx, ha_10, hc_11⟩ := ho_5.sl.el (i := j) (by first | omega | (simp only [List.length_set]; omega))
      refine RL.val (x_idxN Try.underlying69 ty107 rfl rfl ha_10 (by first | omega | (simp only [List.length_set]; omega))) ?_
      refine RL.val (x_ldV (v := .agg #[.int .i64 ((x).target), .int .i64 ((x).req), .int .i64 ((x).since), .bool ((x).others)]) (y := x) ty107 rfl hc_11 rfl) ?_
      refine RL.st rfl <| St1.alloc ty107 ?_
      intro b_14 w_15 hl_18 hb_17 K_16
      replace hb_17 : Blk w_15 b_14 [.int .i64 (0), .int .i64 (0), .int .i64 (0), .bool (false)] 107 := hb_17
      have ne_19 : b_8 < b_14 := Nat.lt_of_lt_of_le hc_11.lt hl_18
      have pr_20 : ¬ own a b_14 := fun h => absurd (ho_5.own_lt _ h) (by omega)
      have : w.heap.size ≤ b_14 := Nat.le_trans K0.size hl_18
      clear hl_18
      replace ho_5 := ho_5.ext K_16
      replace hc_11 := hc_11.ext K_16
      replace K0 := K0.ext K_16
      refine RL.st rfl <| St1.store (v := .agg #[.int .i64 ((x).target), .int .i64 ((x).req), .int .i64 ((x).since), .bool ((x).others)]) ty107 rfl rfl rfl (by simp [Value.cells, Value.oneCell']) hb_17 (by simp) ?_
      intro w_21 hb_17_ K_22
      have hb_17' : Blk w_21 b_14 [.int .i64 ((x).target), .int .i64 ((x).req), .int .i64 ((x).since), .bool ((x).others)] 107 := hb_17_
      clear hb_17_
      replace ho_5 := ho_5.keepO K_22 (fun q_ hq_ eq_ => pr_20 (by simp only [one] at eq_; rw [← eq_]; exact hq_))
      replace hc_11 := hc_11.keep K_22 (fun e => pr_20 (by simp only [one] at e; rw [← e]; exact (own_sub _) _ ha_10))
      replace K0 := K0.trans K_22 (fun x hlt hx => absurd hlt (by simp only [one] at hx; omega))
      replace hb_17 := hb_17'
      clear hb_17'
      refine RL.nil ?_
      have hxx : xs[j]? = some x := by rw [← drop_get h2]; exact hx
      refine Run.seq ?_
      refine Run.region ?_
      refine RL.val (x_moveF rfl) ?_
      refine RL.val (x_lds (cs := #[.int .i64 ((x).target), .int .i64 ((x).req), .int .i64 ((x).since), .bool ((x).others)]) ty107 rfl rfl (hb_17.cl.drop 0 4)) ?_
      refine RL.st rfl <| St1.callV (first := []) (vals := .agg #[.int .i64 ((x).target), .int .i64 ((x).req), .int .i64 ((x).since), .bool ((x).others)] :: caps) hen rfl rfl (hq x (mem_of_at hxx) _ K0) ?_
      rintro _ w_23 ⟨rfl, K_24⟩
      replace ho_5 := ho_5.ext K_24
      replace hb_17 := hb_17.ext K_24
      replace K0 := K0.ext K_24
      refine RL.val (x_not rfl) ?_
      refine RL.nil ?_
      refine Run.cond rfl (fun hc29 => ?_) (fun hc29 => ?_)
      · try simp only [br] at hc29
        refine Run.seq ?_
        refine Run.region ?_
        refine RL.val (x_moveSl rfl) ?_
        refine RL.val (x_moveI rfl) ?_
        refine RL.val (x_lds (cs := #[.int .i64 ((x).target), .int .i64 ((x).req), .int .i64 ((x).since), .bool ((x).others)]) ty107 rfl rfl (hb_17.cl.drop 0 4)) ?_
        obtain ⟨b_25, o_26, x_29, hx_30, ha_27, hc_28⟩ := ho_5.sl.el (i := (keepF q xs j).length) (by omega)
        refine RL.val (x_idxN Try.underlying69 ty107 rfl rfl ha_27 (by omega)) ?_
        refine RL.st rfl <| St1.storeEl (v := .agg #[.int .i64 ((x).target), .int .i64 ((x).req), .int .i64 ((x).since), .bool ((x).others)]) (off := 0) (i := (keepF q xs j).length) x ty107 rfl rfl rfl (by simp [Value.cells, Value.oneCell']) ho_5 ha_27 hx_30 rfl (by decide) rfl ?_
        intro w_31 ho_33 K_32
        clear hc_28
        replace hb_17 := hb_17.keep K_32 pr_20
        replace K0 := K0.trans K_32 (fun x hlt hx => pr_6 x hx hlt)
        replace ho_5 := ho_33
        clear ho_33
        refine RL.nil ?_
        refine Run.region ?_
        refine RL.val (x_moveI rfl) ?_
        refine RL.val (litI (c := ((((keepF q xs j).length) + 1 : Nat) : Int)) (x_add rfl rfl (by omega) (by omega)) rfl) ?_
        refine RL.val (x_assignI rfl) ?_
        refine RL.nil ?_
        refine Run.inBlock ?_
        refine Run.region ?_
        refine RL.val (x_moveI rfl) ?_
        refine RL.val (litI (c := ((j + 1 : Nat) : Int)) (x_add rfl rfl (by omega) (by omega)) rfl) ?_
        refine RL.val (x_assignI rfl) ?_
        refine RL.nil ?_
        have e := keepF_succ (q := q) hxx
        rw [if_neg (by simp [hc29])] at e
        have e2 : (keepF q xs (j + 1)).length = (keepF q xs j).length + 1 := by rw [e]; simp
        refine ih1 (j + 1) _ _ ?_ (by omega)
        rw [e2, e]
        refine ⟨_, ⟨rfl, rfl, rfl, rfl, trivial⟩, K0, ho_5, pr_6, ?_, ?_, ?_, ?_, ?_⟩
        · omega
        · rw [set_take_succ (by omega), h1]
        · rw [set_drop_gt (by omega)]; exact drop_succ_eq h2
        · rw [List.length_set]; exact h3
        · omega
      · try simp only [br] at hc29
        refine Run.skip ?_
        refine Run.inBlock ?_
        refine Run.region ?_
        refine RL.val (x_moveI rfl) ?_
        refine RL.val (litI (c := ((j + 1 : Nat) : Int)) (x_add rfl rfl (by omega) (by omega)) rfl) ?_
        refine RL.val (x_assignI rfl) ?_
        refine RL.nil ?_
        have e := keepF_succ (q := q) hxx
        rw [if_pos hc29] at e
        refine ih1 (j + 1) _ _ ?_ (by omega)
        rw [e]
        refine ⟨_, ⟨rfl, rfl, rfl, rfl, trivial⟩, K0, ho_5, pr_6, ?_, ?_, ?_, ?_, ?_⟩
        · omega
        · exact h1
        · exact drop_succ_eq h2
        · exact h3
        · omega
    · try simp only [br] at hc19
      refine Run.exit rfl ?_
      refine Run.seq ?_
      refine Run.region ?_
      refine RL.val (x_moveSl rfl) ?_
      refine RL.val (x_moveI rfl) ?_
      refine RL.val (x_sliceFrom (xs := ys) Try.underlying69 ty107 (slLen rfl h3) rfl (by omega)) ?_
      have ht_37 := ho_5.take ((keepF q xs j).length)
      have ht_37_l : (ys.take ((keepF q xs j).length)).length = (keepF q xs j).length := by rw [List.length_take]; omega
      refine RL.st rfl <| St1.clearTail (xs := ys.take ((keepF q xs j).length)) Try.underlying69 ty107 rfl (by simp [Value.cells, Value.oneCell']) (by rw [ht_37_l]; exact rfl) ht_37 (by rw [ht_37_l]; simp only [List.length_drop]; omega) ?_
      intro w_34 ho_36 K_35
      replace K0 := K0.trans K_35 (fun x hlt hx => pr_6 x hx hlt)
      replace ho_5 := ho_36
      clear ho_36 ht_37
      refine RL.nil ?_
      refine Run.seq ?_
      refine Run.region ?_
      refine RL.val (x_moveSl rfl) ?_
      refine RL.val (x_moveI rfl) ?_
      refine RL.val (litSl (m' := (ys.take ((keepF q xs j).length)).length) (x_sliceTo Try.underlying69 ty107 rfl rfl (by omega)) (by rw [List.length_take]; omega)) ?_
      refine RL.val (x_assignSl rfl) ?_
      refine RL.nil ?_
      refine Run.ret1 (v := .slice (a) ((ys.take ((keepF q xs j).length)).length) (c)) Try.func65 rfl rfl ?_
      have hjl : j = xs.length := by omega
      subst hjl
      rw [h1, keepF_all] at ho_5 ⊢
      exact ⟨_, rfl, rfl, ho_5, K0⟩

set_option maxRecDepth 100000 in
set_option maxHeartbeats 4000000 in
theorem next1 (p : Ping) (bn : Nat) (n : Int) (w : World) (hbn : Blk w bn [.int .i64 n] 3) :
    Calls Try.prog 68 #[.agg #[.int .i64 ((p).target), .int .i64 ((p).req), .int .i64 ((p).since), .bool ((p).others)], .pointer (some ⟨bn, 0, none⟩)] w (Ret (fun v w' => v = .bool (p.target == n) ∧ Ext w w')) := by
  refine calls_run (n := 8) Try.func68 rfl rfl rfl ?_
  refine Run.seq ?_
  refine Run.region ?_
  refine RL.st rfl <| St1.box (v := .agg #[.int .i64 ((p).target), .int .i64 ((p).req), .int .i64 ((p).since), .bool ((p).others)]) rfl ?_
  intro b_1 w_2 hl_5 hb_4 K_3
  replace hb_4 : Blk w_2 b_1 [.int .i64 ((p).target), .int .i64 ((p).req), .int .i64 ((p).since), .bool ((p).others)] 107 := hb_4
  have ne_6 : bn < b_1 := Nat.lt_of_lt_of_le hbn.lt hl_5
  have : w.heap.size ≤ b_1 := hl_5
  clear hl_5
  replace hbn := hbn.ext K_3
  have K0 := (K_3 : Ext w _)
  refine RL.val (x_assignB rfl) ?_
  refine RL.nil ?_
  refine Run.seq ?_
  refine Run.region ?_
  refine RL.val (x_fld (o' := 0) Try.underlying107 rfl ty3 rfl rfl rfl) ?_
  refine RL.val (x_ld (v := .int .i64 ((p).target)) ty3 rfl rfl (hb_4.cl.field (i := 0) rfl)) ?_
  refine RL.val (x_ld (v := .int .i64 (n)) ty3 rfl rfl (hbn.cl.field (i := 0) rfl)) ?_
  refine RL.val (x_eqI rfl rfl) ?_
  refine RL.val (x_assignB rfl) ?_
  refine RL.nil ?_
  refine Run.ret1 (v := .bool (((p).target) == n)) Try.func68 rfl rfl ?_
  exact ⟨_, rfl, rfl, K0⟩

set_option maxRecDepth 100000 in
set_option maxHeartbeats 4000000 in
theorem next_ (b : Nat) (al : Option Addr) (cl : Nat) (T : Tab)  (w : World) (hb : Blk w b (tabCells T al cl) 71) (hl8 : T.l.length = 8) (hs : SlOf w al T.pings) (hpl : T.pings.length ≤ 4294967295) :
    Calls Try.prog 64 #[.pointer (some ⟨b, 0, none⟩)] w (Ret (fun v w' => v = .int .i64 (nextT T) ∧ Ext w w')) := by
  replace hb : Blk w b (([.bool (true), .int .i64 (T.self), .int .i64 (T.now)] : List Value) ++ flat T.l ++ ([.slice (al) (T.pings.length) (cl), .int .i64 (T.req), .bool (T.begun), .int .i64 (T.last), .int .i64 (T.target)] : List Value)) 71 := hb
  refine calls_run (n := 56) Try.func64 rfl rfl rfl ?_
  refine Run.seq ?_
  refine Run.region ?_
  refine RL.val (x_assignI rfl) ?_
  refine RL.nil ?_
  refine Run.seq ?_
  refine Run.region ?_
  refine RL.val (x_assignI rfl) ?_
  refine RL.val (x_assignI rfl) ?_
  refine RL.nil ?_
  refine Run.seq ?_
  refine Run.seq ?_
  refine Run.region ?_
  refine RL.val (x_moveP rfl) ?_
  refine RL.val (x_nilCheck rfl) ?_
  refine RL.val (x_fld (o' := 3) Try.underlying71 rfl ty68 rfl rfl rfl) ?_
  refine RL.val (x_lds (cs := (flat T.l).toArray) ty68 rfl (arr_size hl8 rfl) (seg_arr hb)) ?_
  refine RL.val (x_moveI rfl) ?_
  refine RL.nil ?_
  refine Run.block ?_
  refine Run.loop (ι := Nat) (fun i ρ' w' => Holds ρ' [(0, .pointer (some ⟨b, 0, none⟩)), (3, .int .i64 ((rf (nxt1 T) (-1, -1) i).1)), (4, .int .i64 ((rf (nxt1 T) (-1, -1) i).2)), (11, .agg (flat T.l).toArray), (12, .int .i64 (((i : Nat) : Int)))] ∧ Ext w w' ∧ (Blk w' b (([.bool (true), .int .i64 (T.self), .int .i64 (T.now)] : List Value) ++ flat T.l ++ ([.slice (al) (T.pings.length) (cl), .int .i64 (T.req), .bool (T.begun), .int .i64 (T.last), .int .i64 (T.target)] : List Value)) 71) ∧ (i ≤ 8)) (fun i => 8 - i) 0 ?_ ?_
  · rw [rf_zero]
    refine ⟨⟨rfl, rfl, rfl, rfl, rfl, trivial⟩, (Keeps.refl _ w), hb, ?_⟩
    · omega
  clear hb
  rintro i ρ_3 w_1 ⟨hH_2, K0, hb, hi⟩ ih1
  obtain ⟨ρ₀, rfl⟩ := hH_2.ex
  clear hH_2
  refine Run.seq ?_
  refine Run.region ?_
  refine RL.val (x_ltI rfl rfl) ?_
  refine RL.nil ?_
  refine Run.seq ?_
  refine Run.cond rfl (fun hc13 => ?_) (fun hc13 => ?_)
  · try simp only [br] at hc13
    refine Run.skip ?_
    refine Run.seq ?_
    refine Run.block ?_
    refine Run.seq ?_
    refine Run.region ?_
    refine RL.val (x_moveI rfl) ?_
    obtain ⟨k, hk⟩ : ∃ x_, (T.l)[i]? = some x_ := ⟨_, List.getElem?_eq_getElem (by rw [hl8]; omega)⟩
    refine RL.val (x_idxV (v := .agg #[.int .i64 (((k).peer).node), .int .i64 (((k).peer).inc), .int .i64 (((k).peer).status), .int .i64 ((k).since)]) (y := k) Try.underlying68 ty67 rfl rfl (by omega) hk rfl rfl) ?_
    refine RL.st rfl <| St1.alloc ty3 ?_
    intro b_4 w_5 hl_8 hb_7 K_6
    replace hb_7 : Blk w_5 b_4 [.int .i64 (0)] 3 := hb_7
    have ne_9 : b < b_4 := Nat.lt_of_lt_of_le hb.lt hl_8
    have : w.heap.size ≤ b_4 := Nat.le_trans K0.size hl_8
    clear hl_8
    replace hb := hb.ext K_6
    replace K0 := K0.ext K_6
    refine RL.st rfl <| St1.alloc ty67 ?_
    intro b_10 w_11 hl_14 hb_13 K_12
    replace hb_13 : Blk w_11 b_10 [.int .i64 (0), .int .i64 (0), .int .i64 (0), .int .i64 (0)] 67 := hb_13
    have ne_15 : b < b_10 := Nat.lt_of_lt_of_le hb.lt hl_14
    have ne_16 : b_4 < b_10 := Nat.lt_of_lt_of_le hb_7.lt hl_14
    have : w.heap.size ≤ b_10 := Nat.le_trans K0.size hl_14
    clear hl_14
    replace hb := hb.ext K_12
    replace hb_7 := hb_7.ext K_12
    replace K0 := K0.ext K_12
    refine RL.st rfl <| St1.store (v := .int .i64 (((i : Nat) : Int))) ty3 rfl rfl rfl (by simp [Value.cells, Value.oneCell']) hb_7 (by simp) ?_
    intro w_17 hb_7_ K_18
    have hb_7' : Blk w_17 b_4 [.int .i64 (((i : Nat) : Int))] 3 := hb_7_
    clear hb_7_
    replace hb := hb.keep K_18 (by simp only [one]; omega)
    replace hb_13 := hb_13.keep K_18 (by simp only [one]; omega)
    replace K0 := K0.new K_18 (fun x hx => by simp only [one] at hx; omega)
    replace hb_7 := hb_7'
    clear hb_7'
    refine RL.st rfl <| St1.store (v := .agg #[.int .i64 (((k).peer).node), .int .i64 (((k).peer).inc), .int .i64 (((k).peer).status), .int .i64 ((k).since)]) ty67 rfl rfl rfl (by simp [Value.cells, Value.oneCell']) hb_13 (by simp) ?_
    intro w_19 hb_13_ K_20
    have hb_13' : Blk w_19 b_10 [.int .i64 (((k).peer).node), .int .i64 (((k).peer).inc), .int .i64 (((k).peer).status), .int .i64 ((k).since)] 67 := hb_13_
    clear hb_13_
    replace hb := hb.keep K_20 (by simp only [one]; omega)
    replace hb_7 := hb_7.keep K_20 (by simp only [one]; omega)
    replace K0 := K0.new K_20 (fun x hx => by simp only [one] at hx; omega)
    replace hb_13 := hb_13'
    clear hb_13'
    refine RL.nil ?_
    refine Run.seq ?_
    refine Run.region ?_
    refine RL.val (x_moveP rfl) ?_
    refine RL.val (x_nilCheck rfl) ?_
    refine RL.val (x_fld (o' := 35) Try.underlying71 rfl ty69 rfl rfl rfl) ?_
    refine RL.val (x_ld (v := .slice (al) (T.pings.length) (cl)) ty69 rfl rfl (hb.cl.field (i := 35) (seg_tail (j := 0) hl8 rfl rfl))) ?_
    refine RL.val (x_mkFunc (a := []) (c := [.pointer (some ⟨b_4, 0, none⟩)]) rfl rfl) ?_
    refine RL.st rfl <| St1.call (vals := [.slice (al) (T.pings.length) (cl), .func (.func 68) #[] #[.pointer (some ⟨b_4, 0, none⟩)]]) en67 rfl (containsFunc_ping _ _ _ 68 _ (fun p => p.target == ((i : Nat) : Int)) en68 _ (hs.ext K0) (by omega) (fun x _ w' K' => next1 x b_4 ((i : Nat) : Int) w' (hb_7.ext K'))) ?_
    rintro _ w_21 ⟨rfl, K_22⟩
    replace hb := hb.ext K_22
    replace hb_7 := hb_7.ext K_22
    replace hb_13 := hb_13.ext K_22
    replace K0 := K0.ext K_22
    refine RL.val (x_assignB rfl) ?_
    refine RL.nil ?_
    refine Run.seq ?_
    refine Run.seq ?_
    refine Run.draw' (m := 15) (by kernel_rfl) rfl ?_
    intro w_23 K_24
    replace hb := hb.ext K_24
    replace hb_7 := hb_7.ext K_24
    replace hb_13 := hb_13.ext K_24
    replace K0 := K0.ext K_24
    refine RA.take (v := .int .i64 (((i : Nat) : Int))) 0 rfl (by kernel_rfl) rfl (by rintro _ rfl; exact (x_ld (v := .int .i64 (((i : Nat) : Int))) ty3 rfl rfl (hb_7.cl.field (i := 0) rfl))) ?_
    refine RA.take (v := .pointer (some ⟨b, 0, none⟩)) 1 rfl (by kernel_rfl) rfl (by rintro _ rfl; exact (x_moveP rfl)) ?_
    refine RA.take (v := .pointer (some ⟨b, 0, none⟩)) 2 rfl (by kernel_rfl) rfl (by rintro _ rfl; exact (x_nilCheck rfl)) ?_
    refine RA.take (v := .pointer (some ⟨b, 1, none⟩)) 3 rfl (by kernel_rfl) rfl (by rintro _ rfl; exact (x_fld (o' := 1) Try.underlying71 rfl ty3 rfl rfl rfl)) ?_
    refine RA.take (v := .int .i64 (T.self)) 4 rfl (by kernel_rfl) rfl (by rintro _ rfl; exact (x_ld (v := .int .i64 (T.self)) ty3 rfl rfl (hb.cl.field (i := 1) (seg_head rfl)))) ?_
    refine RA.take (v := .bool (((i : Nat) : Int) == T.self)) 5 rfl (by kernel_rfl) rfl (by rintro _ rfl; exact (x_eqI rfl rfl)) ?_
    refine RA.take (v := .bool (((i : Nat) : Int) == T.self)) 6 rfl (by kernel_rfl) rfl (by rintro _ rfl; exact (x_moveB rfl)) ?_
    refine RA.gtake (v := .pointer (some ⟨b_10, 0, none⟩)) 7 rfl (by kernel_rfl) rfl (wantedF rfl rfl rfl rfl) (fun hg => by rintro _ rfl; exact (x_fld (o' := 0) Try.underlying67 rfl ty23 rfl rfl rfl)) ?_
    refine RA.gtake (v := .pointer (some ⟨b_10, 2, none⟩)) 8 rfl (by kernel_rfl) rfl (wantedF rfl rfl rfl rfl) (fun hg => by rintro _ rfl; exact (x_fld (o' := 2) Try.underlying23 rfl ty3 rfl (gvr hg) rfl)) ?_
    refine RA.gtake (v := .int .i64 (((k).peer).status)) 9 rfl (by kernel_rfl) rfl (wantedF rfl rfl rfl rfl) (fun hg => by rintro _ rfl; exact (x_ld (v := .int .i64 (((k).peer).status)) ty3 (gvr hg) rfl (hb_13.cl.field (i := 2) rfl))) ?_
    refine RA.gtake (v := .bool ((((k).peer).status) == 0)) 10 rfl (by kernel_rfl) rfl (wantedF rfl rfl rfl rfl) (fun hg => by rintro _ rfl; exact (x_eqI (gvr hg) rfl)) ?_
    refine RA.take (v := .bool ((((i : Nat) : Int) == T.self) || ((((k).peer).status) == 0))) 11 rfl (by kernel_rfl) rfl (by rintro _ rfl; exact (x_or rfl rfl rfl)) ?_
    refine RA.take (v := .bool ((((i : Nat) : Int) == T.self) || ((((k).peer).status) == 0))) 12 rfl (by kernel_rfl) rfl (by rintro _ rfl; exact (x_moveB rfl)) ?_
    refine RA.gtake (v := .bool (T.pings.any (fun p => p.target == ((i : Nat) : Int)))) 13 rfl (by kernel_rfl) rfl (wantedF rfl rfl rfl rfl) (fun hg => by rintro _ rfl; exact (x_moveB rfl)) ?_
    refine RA.take (v := .bool (((((i : Nat) : Int) == T.self) || ((((k).peer).status) == 0)) || (T.pings.any (fun p => p.target == ((i : Nat) : Int))))) 14 rfl (by kernel_rfl) rfl (by rintro _ rfl; exact (x_or rfl rfl rfl)) ?_
    refine RA.done (by kernel_rfl) ?_
    refine Run.cond rfl (fun hc36 => ?_) (fun hc36 => ?_)
    · try simp only [br] at hc36
      refine Run.exit rfl ?_
      refine Run.region ?_
      refine RL.val (litI (c := ((i + 1 : Nat) : Int)) (x_add rfl rfl (by omega) (by omega)) rfl) ?_
      refine RL.val (x_moveI rfl) ?_
      refine RL.nil ?_
      have e := (rf_succ (nxt1 T) (-1, -1) i).trans (nxt1_skip hk hc36)
      refine ih1 (i + 1) _ _ ?_ (by omega)
      rw [e]
      refine ⟨⟨rfl, rfl, rfl, rfl, rfl, trivial⟩, K0, hb, ?_⟩
      · omega
    · try simp only [br] at hc36
      refine Run.skip ?_
      refine Run.seq ?_
      refine Run.seq ?_
      refine Run.region ?_
      refine RL.val (x_moveI rfl) ?_
      refine RL.val (x_ltI rfl rfl) ?_
      refine RL.nil ?_
      refine Run.cond rfl (fun hc38 => ?_) (fun hc38 => ?_)
      · try simp only [br] at hc38
        refine Run.region ?_
        refine RL.val (x_ld (v := .int .i64 (((i : Nat) : Int))) ty3 rfl rfl (hb_7.cl.field (i := 0) rfl)) ?_
        refine RL.val (x_assignI rfl) ?_
        refine RL.nil ?_
        refine Run.seq ?_
        refine Run.draw' (m := 10) (by kernel_rfl) rfl ?_
        intro w_25 K_26
        replace hb := hb.ext K_26
        replace hb_7 := hb_7.ext K_26
        replace hb_13 := hb_13.ext K_26
        replace K0 := K0.ext K_26
        refine RA.take (v := .int .i64 ((rf (nxt1 T) (-1, -1) i).2)) 0 rfl (by kernel_rfl) rfl (by rintro _ rfl; exact (x_moveI rfl)) ?_
        refine RA.take (v := .bool (decide (((rf (nxt1 T) (-1, -1) i).2) < 0))) 1 rfl (by kernel_rfl) rfl (by rintro _ rfl; exact (x_ltI rfl rfl)) ?_
        refine RA.take (v := .bool (decide (((rf (nxt1 T) (-1, -1) i).2) < 0))) 2 rfl (by kernel_rfl) rfl (by rintro _ rfl; exact (x_moveB rfl)) ?_
        refine RA.gtake (v := .int .i64 (((i : Nat) : Int))) 3 rfl (by kernel_rfl) rfl (wantedT rfl rfl rfl rfl) (fun hg => by rintro _ rfl; exact (x_ld (v := .int .i64 (((i : Nat) : Int))) ty3 rfl rfl (hb_7.cl.field (i := 0) rfl))) ?_
        refine RA.gtake (v := .pointer (some ⟨b, 0, none⟩)) 4 rfl (by kernel_rfl) rfl (wantedT rfl rfl rfl rfl) (fun hg => by rintro _ rfl; exact (x_moveP rfl)) ?_
        refine RA.gtake (v := .pointer (some ⟨b, 0, none⟩)) 5 rfl (by kernel_rfl) rfl (wantedT rfl rfl rfl rfl) (fun hg => by rintro _ rfl; exact (x_nilCheck (gvr hg))) ?_
        refine RA.gtake (v := .pointer (some ⟨b, 39, none⟩)) 6 rfl (by kernel_rfl) rfl (wantedT rfl rfl rfl rfl) (fun hg => by rintro _ rfl; exact (x_fld (o' := 39) Try.underlying71 rfl ty3 rfl (gvr hg) rfl)) ?_
        refine RA.gtake (v := .int .i64 (T.target)) 7 rfl (by kernel_rfl) rfl (wantedT rfl rfl rfl rfl) (fun hg => by rintro _ rfl; exact (x_ld (v := .int .i64 (T.target)) ty3 (gvr hg) rfl (hb.cl.field (i := 39) (seg_tail (j := 4) hl8 rfl rfl)))) ?_
        refine RA.gtake (v := .bool (decide (T.target < ((i : Nat) : Int)))) 8 rfl (by kernel_rfl) rfl (wantedT rfl rfl rfl rfl) (fun hg => by rintro _ rfl; exact (x_gtI (gvr hg) (gvr hg))) ?_
        refine RA.take (v := .bool ((decide (((rf (nxt1 T) (-1, -1) i).2) < 0)) && (decide (T.target < ((i : Nat) : Int))))) 9 rfl (by kernel_rfl) rfl (by rintro _ rfl; exact (x_and rfl rfl rfl)) ?_
        refine RA.done (by kernel_rfl) ?_
        refine Run.cond rfl (fun hc49 => ?_) (fun hc49 => ?_)
        · try simp only [br] at hc49
          refine Run.region ?_
          refine RL.val (x_ld (v := .int .i64 (((i : Nat) : Int))) ty3 rfl rfl (hb_7.cl.field (i := 0) rfl)) ?_
          refine RL.val (x_assignI rfl) ?_
          refine RL.nil ?_
          refine Run.inBlock ?_
          refine Run.region ?_
          refine RL.val (litI (c := ((i + 1 : Nat) : Int)) (x_add rfl rfl (by omega) (by omega)) rfl) ?_
          refine RL.val (x_moveI rfl) ?_
          refine RL.nil ?_
          have e := (rf_succ (nxt1 T) (-1, -1) i).trans (nxt1_go hk hc36)
          rw [if_pos hc38, if_pos hc49] at e
          refine ih1 (i + 1) _ _ ?_ (by omega)
          rw [e]
          refine ⟨⟨rfl, rfl, rfl, rfl, rfl, trivial⟩, K0, hb, ?_⟩
          · omega
        · try simp only [br] at hc49
          refine Run.skip ?_
          refine Run.inBlock ?_
          refine Run.region ?_
          refine RL.val (litI (c := ((i + 1 : Nat) : Int)) (x_add rfl rfl (by omega) (by omega)) rfl) ?_
          refine RL.val (x_moveI rfl) ?_
          refine RL.nil ?_
          have e := (rf_succ (nxt1 T) (-1, -1) i).trans (nxt1_go hk hc36)
          rw [if_pos hc38, if_neg (by omega)] at e
          refine ih1 (i + 1) _ _ ?_ (by omega)
          rw [e]
          refine ⟨⟨rfl, rfl, rfl, rfl, rfl, trivial⟩, K0, hb, ?_⟩
          · omega
      · try simp only [br] at hc38
        refine Run.skip ?_
        refine Run.seq ?_
        refine Run.draw' (m := 10) (by kernel_rfl) rfl ?_
        intro w_27 K_28
        replace hb := hb.ext K_28
        replace hb_7 := hb_7.ext K_28
        replace hb_13 := hb_13.ext K_28
        replace K0 := K0.ext K_28
        refine RA.take (v := .int .i64 ((rf (nxt1 T) (-1, -1) i).2)) 0 rfl (by kernel_rfl) rfl (by rintro _ rfl; exact (x_moveI rfl)) ?_
        refine RA.take (v := .bool (decide (((rf (nxt1 T) (-1, -1) i).2) < 0))) 1 rfl (by kernel_rfl) rfl (by rintro _ rfl; exact (x_ltI rfl rfl)) ?_
        refine RA.take (v := .bool (decide (((rf (nxt1 T) (-1, -1) i).2) < 0))) 2 rfl (by kernel_rfl) rfl (by rintro _ rfl; exact (x_moveB rfl)) ?_
        refine RA.gtake (v := .int .i64 (((i : Nat) : Int))) 3 rfl (by kernel_rfl) rfl (wantedT rfl rfl rfl rfl) (fun hg => by rintro _ rfl; exact (x_ld (v := .int .i64 (((i : Nat) : Int))) ty3 rfl rfl (hb_7.cl.field (i := 0) rfl))) ?_
        refine RA.gtake (v := .pointer (some ⟨b, 0, none⟩)) 4 rfl (by kernel_rfl) rfl (wantedT rfl rfl rfl rfl) (fun hg => by rintro _ rfl; exact (x_moveP rfl)) ?_
        refine RA.gtake (v := .pointer (some ⟨b, 0, none⟩)) 5 rfl (by kernel_rfl) rfl (wantedT rfl rfl rfl rfl) (fun hg => by rintro _ rfl; exact (x_nilCheck (gvr hg))) ?_
        refine RA.gtake (v := .pointer (some ⟨b, 39, none⟩)) 6 rfl (by kernel_rfl) rfl (wantedT rfl rfl rfl rfl) (fun hg => by rintro _ rfl; exact (x_fld (o' := 39) Try.underlying71 rfl ty3 rfl (gvr hg) rfl)) ?_
        refine RA.gtake (v := .int .i64 (T.target)) 7 rfl (by kernel_rfl) rfl (wantedT rfl rfl rfl rfl) (fun hg => by rintro _ rfl; exact (x_ld (v := .int .i64 (T.target)) ty3 (gvr hg) rfl (hb.cl.field (i := 39) (seg_tail (j := 4) hl8 rfl rfl)))) ?_
        refine RA.gtake (v := .bool (decide (T.target < ((i : Nat) : Int)))) 8 rfl (by kernel_rfl) rfl (wantedT rfl rfl rfl rfl) (fun hg => by rintro _ rfl; exact (x_gtI (gvr hg) (gvr hg))) ?_
        refine RA.take (v := .bool ((decide (((rf (nxt1 T) (-1, -1) i).2) < 0)) && (decide (T.target < ((i : Nat) : Int))))) 9 rfl (by kernel_rfl) rfl (by rintro _ rfl; exact (x_and rfl rfl rfl)) ?_
        refine RA.done (by kernel_rfl) ?_
        refine Run.cond rfl (fun hc49 => ?_) (fun hc49 => ?_)
        · try simp only [br] at hc49
          refine Run.region ?_
          refine RL.val (x_ld (v := .int .i64 (((i : Nat) : Int))) ty3 rfl rfl (hb_7.cl.field (i := 0) rfl)) ?_
          refine RL.val (x_assignI rfl) ?_
          refine RL.nil ?_
          refine Run.inBlock ?_
          refine Run.region ?_
          refine RL.val (litI (c := ((i + 1 : Nat) : Int)) (x_add rfl rfl (by omega) (by omega)) rfl) ?_
          refine RL.val (x_moveI rfl) ?_
          refine RL.nil ?_
          have e := (rf_succ (nxt1 T) (-1, -1) i).trans (nxt1_go hk hc36)
          rw [if_neg (by omega), if_pos hc49] at e
          refine ih1 (i + 1) _ _ ?_ (by omega)
          rw [e]
          refine ⟨⟨rfl, rfl, rfl, rfl, rfl, trivial⟩, K0, hb, ?_⟩
          · omega
        · try simp only [br] at hc49
          refine Run.skip ?_
          refine Run.inBlock ?_
          refine Run.region ?_
          refine RL.val (litI (c := ((i + 1 : Nat) : Int)) (x_add rfl rfl (by omega) (by omega)) rfl) ?_
          refine RL.val (x_moveI rfl) ?_
          refine RL.nil ?_
          have e := (rf_succ (nxt1 T) (-1, -1) i).trans (nxt1_go hk hc36)
          rw [if_neg (by omega), if_neg (by omega)] at e
          refine ih1 (i + 1) _ _ ?_ (by omega)
          rw [e]
          refine ⟨⟨rfl, rfl, rfl, rfl, rfl, trivial⟩, K0, hb, ?_⟩
          · omega
  · try simp only [br] at hc13
    refine Run.exit rfl ?_
    refine Run.seq ?_
    refine Run.seq ?_
    refine Run.region ?_
    refine RL.val (x_moveI rfl) ?_
    refine RL.val (x_geI rfl rfl) ?_
    refine RL.nil ?_
    refine Run.cond rfl (fun hc53 => ?_) (fun hc53 => ?_)
    · try simp only [br] at hc53
      refine Run.seq ?_
      refine Run.region ?_
      refine RL.val (x_moveI rfl) ?_
      refine RL.val (x_assignI rfl) ?_
      refine RL.nil ?_
      refine Run.ret1 (v := .int .i64 ((rf (nxt1 T) (-1, -1) i).2)) Try.func64 rfl rfl ?_
      obtain rfl : i = 8 := by omega
      exact ⟨_, rfl, by unfold nextT; rw [if_pos hc53], K0⟩
    · try simp only [br] at hc53
      refine Run.skip ?_
      refine Run.seq ?_
      refine Run.region ?_
      refine RL.val (x_moveI rfl) ?_
      refine RL.val (x_assignI rfl) ?_
      refine RL.nil ?_
      refine Run.ret1 (v := .int .i64 ((rf (nxt1 T) (-1, -1) i).1)) Try.func64 rfl rfl ?_
      obtain rfl : i = 8 := by omega
      exact ⟨_, rfl, by unfold nextT; rw [if_neg (by omega)], K0⟩

set_option maxRecDepth 100000 in
set_option maxHeartbeats 4000000 in
theorem begin_ (b : Nat) (al : Option Addr) (cl : Nat) (T : Tab)  (w : World) (hT : TabAt w b al cl T) (hpl : T.pings.length ≤ 1048576) :
    Calls Try.prog 45 #[.pointer (some ⟨b, 0, none⟩)] w (Ret (fun v w' => ∃ al' cl' a' c', v = .slice a' (beginT T).2.length c' ∧ TabAt w' b al' cl' (beginT T).1 ∧ OwnSl w' 61 a' c' (beginT T).2 ∧ (∀ x, own a' x → w.heap.size ≤ x) ∧ (∀ x, own a' x → ¬ tabS b al' x) ∧ MovedS w (tabS b al) (tabS b al') ∧ Keeps (tabS b al) w w')) := by
  obtain ⟨hb, ho, hap, ok⟩ := hT
  have hl8 := ok.len
  replace hb : Blk w b (([.bool (true), .int .i64 (T.self), .int .i64 (T.now)] : List Value) ++ flat T.l ++ ([.slice (al) (T.pings.length) (cl), .int .i64 (T.req), .bool (T.begun), .int .i64 (T.last), .int .i64 (T.target)] : List Value)) 71 := hb
  have hn0 := ok.now0
  have hla := ok.last0
  have hrq := ok.req0
  refine calls_run (n := 79) Try.func45 rfl rfl rfl ?_
  refine Run.seq ?_
  refine Run.region ?_
  refine RL.val (x_assignSl rfl) ?_
  refine RL.nil ?_
  refine Run.seq ?_
  refine Run.seq ?_
  refine Run.draw' (m := 16) (by kernel_rfl) rfl ?_
  intro w_1 K_2
  replace hb := hb.ext K_2
  replace ho := ho.ext K_2
  have K0 := (K_2 : Ext w _).to (S := (tabS b al))
  refine RA.take (v := .pointer (some ⟨b, 0, none⟩)) 0 rfl (by kernel_rfl) rfl (by rintro _ rfl; exact (x_moveP rfl)) ?_
  refine RA.take (v := .pointer (some ⟨b, 0, none⟩)) 1 rfl (by kernel_rfl) rfl (by rintro _ rfl; exact (x_nilCheck rfl)) ?_
  refine RA.take (v := .pointer (some ⟨b, 37, none⟩)) 2 rfl (by kernel_rfl) rfl (by rintro _ rfl; exact (x_fld (o' := 37) Try.underlying71 rfl ty4 rfl rfl rfl)) ?_
  refine RA.take (v := .bool (T.begun)) 3 rfl (by kernel_rfl) rfl (by rintro _ rfl; exact (x_ld (v := .bool (T.begun)) ty4 rfl rfl (hb.cl.field (i := 37) (seg_tail (j := 2) hl8 rfl rfl)))) ?_
  refine RA.take (v := .bool (T.begun)) 4 rfl (by kernel_rfl) rfl (by rintro _ rfl; exact (x_moveB rfl)) ?_
  refine RA.gtake (v := .pointer (some ⟨b, 0, none⟩)) 5 rfl (by kernel_rfl) rfl (wantedT rfl rfl rfl rfl) (fun hg => by rintro _ rfl; exact (x_moveP rfl)) ?_
  refine RA.gtake (v := .pointer (some ⟨b, 0, none⟩)) 6 rfl (by kernel_rfl) rfl (wantedT rfl rfl rfl rfl) (fun hg => by rintro _ rfl; exact (x_nilCheck (gvr hg))) ?_
  refine RA.gtake (v := .pointer (some ⟨b, 2, none⟩)) 7 rfl (by kernel_rfl) rfl (wantedT rfl rfl rfl rfl) (fun hg => by rintro _ rfl; exact (x_fld (o' := 2) Try.underlying71 rfl ty3 rfl (gvr hg) rfl)) ?_
  refine RA.gtake (v := .int .i64 (T.now)) 8 rfl (by kernel_rfl) rfl (wantedT rfl rfl rfl rfl) (fun hg => by rintro _ rfl; exact (x_ld (v := .int .i64 (T.now)) ty3 (gvr hg) rfl (hb.cl.field (i := 2) (seg_head rfl)))) ?_
  refine RA.gtake (v := .pointer (some ⟨b, 0, none⟩)) 9 rfl (by kernel_rfl) rfl (wantedT rfl rfl rfl rfl) (fun hg => by rintro _ rfl; exact (x_moveP rfl)) ?_
  refine RA.gtake (v := .pointer (some ⟨b, 0, none⟩)) 10 rfl (by kernel_rfl) rfl (wantedT rfl rfl rfl rfl) (fun hg => by rintro _ rfl; exact (x_nilCheck (gvr hg))) ?_
  refine RA.gtake (v := .pointer (some ⟨b, 38, none⟩)) 11 rfl (by kernel_rfl) rfl (wantedT rfl rfl rfl rfl) (fun hg => by rintro _ rfl; exact (x_fld (o' := 38) Try.underlying71 rfl ty3 rfl (gvr hg) rfl)) ?_
  refine RA.gtake (v := .int .i64 (T.last)) 12 rfl (by kernel_rfl) rfl (wantedT rfl rfl rfl rfl) (fun hg => by rintro _ rfl; exact (x_ld (v := .int .i64 (T.last)) ty3 (gvr hg) rfl (hb.cl.field (i := 38) (seg_tail (j := 3) hl8 rfl rfl)))) ?_
  refine RA.gtake (v := .int .i64 (T.now - T.last)) 13 rfl (by kernel_rfl) rfl (wantedT rfl rfl rfl rfl) (fun hg => by rintro _ rfl; exact (x_sub (gvr hg) (gvr hg) (by omega) (by omega))) ?_
  refine RA.gtake (v := .bool (decide ((T.now - T.last) < 100))) 14 rfl (by kernel_rfl) rfl (wantedT rfl rfl rfl rfl) (fun hg => by rintro _ rfl; exact (x_ltI (gvr hg) rfl)) ?_
  refine RA.take (v := .bool (T.begun && (decide ((T.now - T.last) < 100)))) 15 rfl (by kernel_rfl) rfl (by rintro _ rfl; exact (x_and rfl rfl rfl)) ?_
  refine RA.done (by kernel_rfl) ?_
  refine Run.cond rfl (fun hc19 => ?_) (fun hc19 => ?_)
  · try simp only [br] at hc19
    refine Run.seq ?_
    refine Run.region ?_
    refine RL.val (x_assignSl rfl) ?_
    refine RL.nil ?_
    refine Run.ret1 (v := .slice (none) (0) (0)) Try.func45 rfl rfl ?_
    have ho_3 := OwnSl.nil (α := MsgC) w_1 61
    have e := begin_wait hc19
    have e1 : (beginT T).1 = T := by rw [e]
    have e2 : (beginT T).2 = ([] : List MsgC) := by rw [e]
    have hfo := (fun x (hx : own none x) => absurd hx (own_none x) : ∀ x, own none x → w.heap.size ≤ x)
    have hT_4 : TabAt w_1 b al cl T := ⟨hb, ho, hap, (by rw [← e1]; exact (begin_ok ok).1)⟩
    have pt_5 : ∀ q_, tabS b al q_ → ¬ own none q_ := (fun q_ h1 h2 => h1.elim (fun e => (own_none b) (e ▸ h2)) (fun h => (fun q_ h1 h2 => (fun q_ h1 _ => own_none q_ h1) q_ h2 h1) q_ h h2))
    have pt_6 : ∀ q_, tabS b al q_ → q_ < w.heap.size → (tabS b al) q_ := (fun q_ h1 hlt => h1.elim (fun e => e ▸ (Or.inl rfl)) (fun h => (fun x h _ => Or.inr h) q_ h hlt))
    clear hb ho
    rw [e1, e2]
    exact ⟨_, rfl, al, cl, none, 0, rfl, hT_4, ho_3, hfo, (fun q_ h1 h2 => pt_5 q_ h2 h1), tabMoved' (fun x hx hlt => pt_6 x (.inr hx) hlt), K0⟩
  · try simp only [br] at hc19
    have hwt := begin_go hc19
    refine Run.skip ?_
    refine Run.seq ?_
    refine Run.region ?_
    refine RL.val (x_moveP rfl) ?_
    refine RL.st rfl <| St1.call (vals := [.pointer (some ⟨b, 0, none⟩)]) en64 rfl (next_ _ _ _ T _ hb hl8 ho.sl (by omega)) ?_
    rintro _ w_7 ⟨rfl, K_8⟩
    replace hb := hb.ext K_8
    replace ho := ho.ext K_8
    replace K0 := K0.ext K_8
    refine RL.val (x_assignI rfl) ?_
    refine RL.nil ?_
    refine Run.seq ?_
    refine Run.seq ?_
    refine Run.region ?_
    refine RL.val (x_moveI rfl) ?_
    refine RL.val (x_ltI rfl rfl) ?_
    refine RL.val (x_moveB rfl) ?_
    refine RL.gval (wantedF rfl rfl rfl rfl) (fun hg => (x_moveP rfl)) ?_
    refine RL.gval (wantedF rfl rfl rfl rfl) (fun hg => (x_nilCheck (gvr hg))) ?_
    refine RL.gval (wantedF rfl rfl rfl rfl) (fun hg => (x_fld (o' := 36) Try.underlying71 rfl ty3 rfl (gvr hg) rfl)) ?_
    refine RL.gval (wantedF rfl rfl rfl rfl) (fun hg => (x_ld (v := .int .i64 (T.req)) ty3 (gvr hg) rfl (hb.cl.field (i := 36) (seg_tail (j := 1) hl8 rfl rfl)))) ?_
    refine RL.gval (wantedF rfl rfl rfl rfl) (fun hg => (x_geI (gvr hg) rfl)) ?_
    refine RL.val (x_or rfl rfl rfl) ?_
    refine RL.nil ?_
    refine Run.cond rfl (fun hc30 => ?_) (fun hc30 => ?_)
    · try simp only [br] at hc30
      refine Run.seq ?_
      refine Run.region ?_
      refine RL.val (x_assignSl rfl) ?_
      refine RL.nil ?_
      refine Run.ret1 (v := .slice (none) (0) (0)) Try.func45 rfl rfl ?_
      have ho_9 := OwnSl.nil (α := MsgC) w_7 61
      have e := begin_none hwt hc30
      have e1 : (beginT T).1 = T := by rw [e]
      have e2 : (beginT T).2 = ([] : List MsgC) := by rw [e]
      have hfo := (fun x (hx : own none x) => absurd hx (own_none x) : ∀ x, own none x → w.heap.size ≤ x)
      have hT_10 : TabAt w_7 b al cl T := ⟨hb, ho, hap, (by rw [← e1]; exact (begin_ok ok).1)⟩
      have pt_11 : ∀ q_, tabS b al q_ → ¬ own none q_ := (fun q_ h1 h2 => h1.elim (fun e => (own_none b) (e ▸ h2)) (fun h => (fun q_ h1 h2 => (fun q_ h1 _ => own_none q_ h1) q_ h2 h1) q_ h h2))
      have pt_12 : ∀ q_, tabS b al q_ → q_ < w.heap.size → (tabS b al) q_ := (fun q_ h1 hlt => h1.elim (fun e => e ▸ (Or.inl rfl)) (fun h => (fun x h _ => Or.inr h) q_ h hlt))
      clear hb ho
      rw [e1, e2]
      exact ⟨_, rfl, al, cl, none, 0, rfl, hT_10, ho_9, hfo, (fun q_ h1 h2 => pt_11 q_ h2 h1), tabMoved' (fun x hx hlt => pt_12 x (.inr hx) hlt), K0⟩
    · try simp only [br] at hc30
      refine Run.skip ?_
      refine Run.seq ?_
      refine Run.region ?_
      refine RL.val (x_moveP rfl) ?_
      refine RL.val (x_nilCheck rfl) ?_
      refine RL.val (x_fld (o' := 36) Try.underlying71 rfl ty3 rfl rfl rfl) ?_
      refine RL.val (x_ld (v := .int .i64 (T.req)) ty3 rfl rfl (hb.cl.field (i := 36) (seg_tail (j := 1) hl8 rfl rfl))) ?_
      refine RL.val (x_add rfl rfl (by omega) (by omega)) ?_
      refine RL.val (x_nilCheck rfl) ?_
      refine RL.val (x_fld (o' := 36) Try.underlying71 rfl ty3 rfl rfl rfl) ?_
      refine RL.st rfl <| St1.store (v := .int .i64 (T.req + 1)) ty3 rfl rfl rfl (by simp [Value.cells, Value.oneCell']) hb (by rw [seg_len, hl8]; show _ ≤ 3 + 8 * 4 + 5; omega) ?_
      intro w_13 hb_ K_14
      have hb' : Blk w_13 b (([.bool (true), .int .i64 (T.self), .int .i64 (T.now)] : List Value) ++ flat T.l ++ ([.slice (al) (T.pings.length) (cl), .int .i64 (T.req + 1), .bool (T.begun), .int .i64 (T.last), .int .i64 (T.target)] : List Value)) 71 := (by have h_ := blk_st_tail (j := 1) hb_ hl8 rfl; exact h_)
      clear hb_
      replace ho := ho.keepO K_14 (fun q_ hq_ eq_ => hap (by simp only [one] at eq_; rw [← eq_]; exact hq_))
      replace K0 := K0.trans K_14 (fun x _ hx => by simp only [one] at hx; subst hx; exact (Or.inl rfl))
      replace hb := hb'
      clear hb'
      refine RL.nil ?_
      refine Run.seq ?_
      refine Run.region ?_
      refine RL.val (x_moveP rfl) ?_
      refine RL.val (x_moveP rfl) ?_
      refine RL.val (x_moveP rfl) ?_
      refine RL.val (x_moveP rfl) ?_
      refine RL.val (x_nilCheck rfl) ?_
      refine RL.val (x_fld (o' := 2) Try.underlying71 rfl ty3 rfl rfl rfl) ?_
      refine RL.val (x_ld (v := .int .i64 (T.now)) ty3 rfl rfl (hb.cl.field (i := 2) (seg_head rfl))) ?_
      refine RL.val (x_moveI rfl) ?_
      refine RL.val (x_nilCheck rfl) ?_
      refine RL.val (x_fld (o' := 37) Try.underlying71 rfl ty4 rfl rfl rfl) ?_
      refine RL.st rfl <| St1.store (v := .bool (true)) ty4 rfl rfl rfl (by simp [Value.cells, Value.oneCell']) hb (by rw [seg_len, hl8]; show _ ≤ 3 + 8 * 4 + 5; omega) ?_
      intro w_15 hb_ K_16
      have hb' : Blk w_15 b (([.bool (true), .int .i64 (T.self), .int .i64 (T.now)] : List Value) ++ flat T.l ++ ([.slice (al) (T.pings.length) (cl), .int .i64 (T.req + 1), .bool (true), .int .i64 (T.last), .int .i64 (T.target)] : List Value)) 71 := (by have h_ := blk_st_tail (j := 2) hb_ hl8 rfl; exact h_)
      clear hb_
      replace ho := ho.keepO K_16 (fun q_ hq_ eq_ => hap (by simp only [one] at eq_; rw [← eq_]; exact hq_))
      replace K0 := K0.trans K_16 (fun x _ hx => by simp only [one] at hx; subst hx; exact (Or.inl rfl))
      replace hb := hb'
      clear hb'
      refine RL.val (x_nilCheck rfl) ?_
      refine RL.val (x_fld (o' := 38) Try.underlying71 rfl ty3 rfl rfl rfl) ?_
      refine RL.st rfl <| St1.store (v := .int .i64 (T.now)) ty3 rfl rfl rfl (by simp [Value.cells, Value.oneCell']) hb (by rw [seg_len, hl8]; show _ ≤ 3 + 8 * 4 + 5; omega) ?_
      intro w_17 hb_ K_18
      have hb' : Blk w_17 b (([.bool (true), .int .i64 (T.self), .int .i64 (T.now)] : List Value) ++ flat T.l ++ ([.slice (al) (T.pings.length) (cl), .int .i64 (T.req + 1), .bool (true), .int .i64 (T.now), .int .i64 (T.target)] : List Value)) 71 := (by have h_ := blk_st_tail (j := 3) hb_ hl8 rfl; exact h_)
      clear hb_
      replace ho := ho.keepO K_18 (fun q_ hq_ eq_ => hap (by simp only [one] at eq_; rw [← eq_]; exact hq_))
      replace K0 := K0.trans K_18 (fun x _ hx => by simp only [one] at hx; subst hx; exact (Or.inl rfl))
      replace hb := hb'
      clear hb'
      refine RL.val (x_nilCheck rfl) ?_
      refine RL.val (x_fld (o' := 39) Try.underlying71 rfl ty3 rfl rfl rfl) ?_
      refine RL.st rfl <| St1.store (v := .int .i64 (nextT T)) ty3 rfl rfl rfl (by simp [Value.cells, Value.oneCell']) hb (by rw [seg_len, hl8]; show _ ≤ 3 + 8 * 4 + 5; omega) ?_
      intro w_19 hb_ K_20
      have hb' : Blk w_19 b (([.bool (true), .int .i64 (T.self), .int .i64 (T.now)] : List Value) ++ flat T.l ++ ([.slice (al) (T.pings.length) (cl), .int .i64 (T.req + 1), .bool (true), .int .i64 (T.now), .int .i64 (nextT T)] : List Value)) 71 := (by have h_ := blk_st_tail (j := 4) hb_ hl8 rfl; exact h_)
      clear hb_
      replace ho := ho.keepO K_20 (fun q_ hq_ eq_ => hap (by simp only [one] at eq_; rw [← eq_]; exact hq_))
      replace K0 := K0.trans K_20 (fun x _ hx => by simp only [one] at hx; subst hx; exact (Or.inl rfl))
      replace hb := hb'
      clear hb'
      refine RL.nil ?_
      refine Run.seq ?_
      refine Run.drawT [19] (m := 20) (by kernel_rfl) rfl ?_
      intro w_21 K_22
      replace hb := hb.ext K_22
      replace ho := ho.ext K_22
      replace K0 := K0.ext K_22
      refine ⟨fun w' => Blk w' b (([.bool (true), .int .i64 (T.self), .int .i64 (T.now)] : List Value) ++ flat T.l ++ ([.slice (al) (T.pings.length) (cl), .int .i64 (T.req + 1), .bool (true), .int .i64 (T.now), .int .i64 (nextT T)] : List Value)) 71 ∧ True, ?_⟩
      refine RT.takeP (v := .pointer (some ⟨b, 0, none⟩)) 0 rfl (by kernel_rfl) (.inr ⟨hb, trivial⟩) (fun _ => (x_moveP rfl)) ?_
      refine RT.takeP (v := .pointer (some ⟨b, 0, none⟩)) 1 rfl (by kernel_rfl) (.inr ⟨hb, trivial⟩) (fun _ => (x_moveP rfl)) ?_
      refine RT.takeP (v := .pointer (some ⟨b, 0, none⟩)) 2 rfl (by kernel_rfl) (.inr ⟨hb, trivial⟩) (fun _ => (x_nilCheck rfl)) ?_
      refine RT.takeP (v := .pointer (some ⟨b, 35, none⟩)) 3 rfl (by kernel_rfl) (.inr ⟨hb, trivial⟩) (fun _ => (x_fld (o' := 35) Try.underlying71 rfl ty69 rfl rfl rfl)) ?_
      refine RT.take (v := .slice (al) (T.pings.length) (cl)) 4 rfl (by kernel_rfl) ⟨hb, trivial⟩ (by rintro _ ⟨hb, -⟩; exact (x_ld (v := .slice (al) (T.pings.length) (cl)) ty69 rfl rfl (hb.cl.field (i := 35) (seg_tail (j := 0) hl8 rfl rfl)))) ?_
      refine RT.takeP (v := .int .i64 (nextT T)) 5 rfl (by kernel_rfl) (.inr ⟨hb, trivial⟩) (fun _ => (x_moveI rfl)) ?_
      refine RT.takeP (v := .pointer (some ⟨b, 0, none⟩)) 6 rfl (by kernel_rfl) (.inr ⟨hb, trivial⟩) (fun _ => (x_moveP rfl)) ?_
      refine RT.takeP (v := .pointer (some ⟨b, 0, none⟩)) 7 rfl (by kernel_rfl) (.inr ⟨hb, trivial⟩) (fun _ => (x_nilCheck rfl)) ?_
      refine RT.takeP (v := .pointer (some ⟨b, 36, none⟩)) 8 rfl (by kernel_rfl) (.inr ⟨hb, trivial⟩) (fun _ => (x_fld (o' := 36) Try.underlying71 rfl ty3 rfl rfl rfl)) ?_
      refine RT.take (v := .int .i64 (T.req + 1)) 9 rfl (by kernel_rfl) ⟨hb, trivial⟩ (by rintro _ ⟨hb, -⟩; exact (x_ld (v := .int .i64 (T.req + 1)) ty3 rfl rfl (hb.cl.field (i := 36) (seg_tail (j := 1) hl8 rfl rfl)))) ?_
      refine RT.takeP (v := .pointer (some ⟨b, 0, none⟩)) 10 rfl (by kernel_rfl) (.inr ⟨hb, trivial⟩) (fun _ => (x_moveP rfl)) ?_
      refine RT.takeP (v := .pointer (some ⟨b, 0, none⟩)) 11 rfl (by kernel_rfl) (.inr ⟨hb, trivial⟩) (fun _ => (x_nilCheck rfl)) ?_
      refine RT.takeP (v := .pointer (some ⟨b, 2, none⟩)) 12 rfl (by kernel_rfl) (.inr ⟨hb, trivial⟩) (fun _ => (x_fld (o' := 2) Try.underlying71 rfl ty3 rfl rfl rfl)) ?_
      refine RT.take (v := .int .i64 (T.now)) 13 rfl (by kernel_rfl) ⟨hb, trivial⟩ (by rintro _ ⟨hb, -⟩; exact (x_ld (v := .int .i64 (T.now)) ty3 rfl rfl (hb.cl.field (i := 2) (seg_head rfl)))) ?_
      refine RT.takeP (v := .agg #[.int .i64 (nextT T), .int .i64 (T.req + 1), .int .i64 (T.now), .bool (false)]) 14 rfl (by kernel_rfl) (.inr ⟨hb, trivial⟩) (fun _ => (x_build (cells := #[.int .i64 (nextT T), .int .i64 (T.req + 1), .int .i64 (T.now), .bool (false)]) (by kernel_rfl))) ?_
      refine RT.st 15 rfl (by kernel_rfl) rfl <| St1.buildSlice ([(⟨nextT T, T.req + 1, T.now, false⟩ : Ping)] : List Ping) Try.underlying69 ty107 rfl rfl (by first | decide | (simp [Enc.size])) ?_
      intro b_23 w_24 hl_27 ho_26 K_25
      have pr_28 : ¬ own (some ⟨b_23, 0, none⟩) b := notNew (ge_new hl_27) hb.lt
      have pr_29 : ∀ q_, own (some ⟨b_23, 0, none⟩) q_ → ¬ own al q_ := apartNew (ge_new hl_27) ho.own_lt
      have pg_30 : ∀ q_, own (some ⟨b_23, 0, none⟩) q_ → q_ < w.heap.size → (tabS b al) q_ := fun q_ h hlt => absurd (Nat.le_trans K0.size ((ge_new hl_27) q_ h)) (by omega)
      have pw_31 : ∀ q_, own (some ⟨b_23, 0, none⟩) q_ → w.heap.size ≤ q_ := fun q_ h => Nat.le_trans K0.size ((ge_new hl_27) q_ h)
      clear hl_27
      replace hb := hb.ext K_25
      replace ho := ho.ext K_25
      replace K0 := K0.ext K_25
      refine ⟨.inr ⟨hb, trivial⟩, ?_⟩
      refine RT.st 16 rfl (by kernel_rfl) rfl <| St1.append (xs := T.pings) (ys := ([(⟨nextT T, T.req + 1, T.now, false⟩ : Ping)] : List Ping)) Try.underlying69 ty107 rfl rfl rfl ho ho_26.sl (by first | omega | (simp only [lr]; omega)) (by decide) ?_
      intro a_32 c_33 w_34 ho_35 K_36 hm_37 hrm_38
      have pr_39 : ¬ own a_32 b := hm_37.not hap hb.lt
      have pr_40 : ∀ q_, own a_32 q_ → ¬ own (some ⟨b_23, 0, none⟩) q_ := hm_37.apart (fun q_ h1 h2 => pr_29 q_ h2 h1) ho_26.own_lt
      have pg_41 : ∀ q_, own a_32 q_ → q_ < w.heap.size → (tabS b al) q_ := hm_37.inS (fun x h _ => Or.inr h) K0.size
      replace hb := hb.keep K_36 hap
      replace ho_26 := ho_26.keepO K_36 pr_29
      replace K0 := K0.trans K_36 (fun x hlt hx => (fun x h _ => Or.inr h) x hx hlt)
      clear hm_37
      clear hrm_38
      refine ⟨.inr ⟨hb, trivial⟩, ?_⟩
      refine RT.takeP (v := .pointer (some ⟨b, 0, none⟩)) 17 rfl (by kernel_rfl) (.inr ⟨hb, trivial⟩) (fun _ => (x_nilCheck rfl)) ?_
      refine RT.takeP (v := .pointer (some ⟨b, 35, none⟩)) 18 rfl (by kernel_rfl) (.inr ⟨hb, trivial⟩) (fun _ => (x_fld (o' := 35) Try.underlying71 rfl ty69 rfl rfl rfl)) ?_
      refine RT.st 19 rfl (by kernel_rfl) rfl <| St1.store (v := .slice (a_32) ((T.pings ++ ([(⟨nextT T, T.req + 1, T.now, false⟩ : Ping)] : List Ping)).length) (c_33)) ty69 rfl rfl rfl (by simp [Value.cells, Value.oneCell']) hb (by rw [seg_len, hl8]; show _ ≤ 3 + 8 * 4 + 5; omega) ?_
      intro w_42 hb_ K_43
      have hb' : Blk w_42 b (([.bool (true), .int .i64 (T.self), .int .i64 (T.now)] : List Value) ++ flat T.l ++ ([.slice (a_32) ((T.pings ++ ([(⟨nextT T, T.req + 1, T.now, false⟩ : Ping)] : List Ping)).length) (c_33), .int .i64 (T.req + 1), .bool (true), .int .i64 (T.now), .int .i64 (nextT T)] : List Value)) 71 := (by have h_ := blk_st_tail (j := 0) hb_ hl8 rfl; exact h_)
      clear hb_
      replace ho_26 := ho_26.keepO K_43 (fun q_ hq_ eq_ => pr_28 (by simp only [one] at eq_; rw [← eq_]; exact hq_))
      replace ho_35 := ho_35.keepO K_43 (fun q_ hq_ eq_ => pr_39 (by simp only [one] at eq_; rw [← eq_]; exact hq_))
      replace K0 := K0.trans K_43 (fun x _ hx => by simp only [one] at hx; subst hx; exact (Or.inl rfl))
      replace hb := hb'
      clear hb'
      refine ⟨.inl (by kernel_rfl), ?_⟩
      refine RT.done (by kernel_rfl) ?_
      refine Run.seq ?_
      refine Run.region ?_
      refine RL.val (x_moveP rfl) ?_
      refine RL.val (x_moveI rfl) ?_
      refine RL.val (x_moveP rfl) ?_
      refine RL.val (x_nilCheck rfl) ?_
      refine RL.val (x_fld (o' := 36) Try.underlying71 rfl ty3 rfl rfl rfl) ?_
      refine RL.val (x_ld (v := .int .i64 (T.req + 1)) ty3 rfl rfl (hb.cl.field (i := 36) (seg_tail (j := 1) hl8 rfl rfl))) ?_
      refine RL.st rfl <| St1.call (vals := [.pointer (some ⟨b, 0, none⟩), .int .i64 (6), .int .i64 (nextT T), .int .i64 (T.req + 1), .int .i64 (-1), .int .i64 (-1)]) en63 rfl (send_ _ _ _ ({ T with pings := T.pings ++ ([(⟨nextT T, T.req + 1, T.now, false⟩ : Ping)] : List Ping), req := T.req + 1, begun := true, last := T.now, target := nextT T }) 6 (nextT T) (T.req + 1) (-1) (-1) _ hb hl8) ?_
      rintro _ w_44 ⟨rfl, K_45⟩
      replace hb := hb.ext K_45
      replace ho_26 := ho_26.ext K_45
      replace ho_35 := ho_35.ext K_45
      replace K0 := K0.ext K_45
      refine RL.st rfl <| St1.buildSlice ([mkMsg 6 ({ T with pings := T.pings ++ ([(⟨nextT T, T.req + 1, T.now, false⟩ : Ping)] : List Ping), req := T.req + 1, begun := true, last := T.now, target := nextT T }).self (nextT T) (T.req + 1) (-1) (-1)] : List MsgC) Try.underlying34 ty61 rfl rfl (by first | decide | (simp [Enc.size])) ?_
      intro b_46 w_47 hl_50 ho_49 K_48
      have pr_51 : ¬ own (some ⟨b_46, 0, none⟩) b := notNew (ge_new hl_50) hb.lt
      have pr_52 : ∀ q_, own (some ⟨b_46, 0, none⟩) q_ → ¬ own (some ⟨b_23, 0, none⟩) q_ := apartNew (ge_new hl_50) ho_26.own_lt
      have pr_53 : ∀ q_, own (some ⟨b_46, 0, none⟩) q_ → ¬ own a_32 q_ := apartNew (ge_new hl_50) ho_35.own_lt
      have pg_54 : ∀ q_, own (some ⟨b_46, 0, none⟩) q_ → q_ < w.heap.size → (tabS b al) q_ := fun q_ h hlt => absurd (Nat.le_trans K0.size ((ge_new hl_50) q_ h)) (by omega)
      have pw_55 : ∀ q_, own (some ⟨b_46, 0, none⟩) q_ → w.heap.size ≤ q_ := fun q_ h => Nat.le_trans K0.size ((ge_new hl_50) q_ h)
      clear hl_50
      replace hb := hb.ext K_48
      replace ho_26 := ho_26.ext K_48
      replace ho_35 := ho_35.ext K_48
      replace K0 := K0.ext K_48
      refine RL.val (x_assignSl rfl) ?_
      refine RL.nil ?_
      refine Run.ret1 (v := .slice (some ⟨b_46, 0, none⟩) (([mkMsg 6 ({ T with pings := T.pings ++ ([(⟨nextT T, T.req + 1, T.now, false⟩ : Ping)] : List Ping), req := T.req + 1, begun := true, last := T.now, target := nextT T }).self (nextT T) (T.req + 1) (-1) (-1)] : List MsgC).length) (([mkMsg 6 ({ T with pings := T.pings ++ ([(⟨nextT T, T.req + 1, T.now, false⟩ : Ping)] : List Ping), req := T.req + 1, begun := true, last := T.now, target := nextT T }).self (nextT T) (T.req + 1) (-1) (-1)] : List MsgC).length)) Try.func45 rfl rfl ?_
      have e := begin_yes hwt (by omega)
      have e1 : (beginT T).1 = { T with pings := T.pings ++ ([(⟨nextT T, T.req + 1, T.now, false⟩ : Ping)] : List Ping), req := T.req + 1, begun := true, last := T.now, target := nextT T } := by rw [e]
      have e2 : (beginT T).2 = ([mkMsg 6 ({ T with pings := T.pings ++ ([(⟨nextT T, T.req + 1, T.now, false⟩ : Ping)] : List Ping), req := T.req + 1, begun := true, last := T.now, target := nextT T }).self (nextT T) (T.req + 1) (-1) (-1)] : List MsgC) := by rw [e]
      have hfo := pw_55
      have hT_56 : TabAt w_47 b a_32 c_33 ({ T with pings := T.pings ++ ([(⟨nextT T, T.req + 1, T.now, false⟩ : Ping)] : List Ping), req := T.req + 1, begun := true, last := T.now, target := nextT T }) := ⟨hb, ho_35, pr_39, (by rw [← e1]; exact (begin_ok ok).1)⟩
      have pt_57 : ∀ q_, tabS b a_32 q_ → ¬ own (some ⟨b_23, 0, none⟩) q_ := (fun q_ h1 h2 => h1.elim (fun e => pr_28 (e ▸ h2)) (fun h => pr_40 q_ h h2))
      have pt_58 : ∀ q_, tabS b a_32 q_ → ¬ own (some ⟨b_46, 0, none⟩) q_ := (fun q_ h1 h2 => h1.elim (fun e => pr_51 (e ▸ h2)) (fun h => (fun q_ h1 h2 => pr_53 q_ h2 h1) q_ h h2))
      have pt_59 : ∀ q_, tabS b a_32 q_ → q_ < w.heap.size → (tabS b al) q_ := (fun q_ h1 hlt => h1.elim (fun e => e ▸ (Or.inl rfl)) (fun h => pg_41 q_ h hlt))
      clear hb ho_35
      rw [e1, e2]
      exact ⟨_, rfl, a_32, c_33, some ⟨b_46, 0, none⟩, ([mkMsg 6 ({ T with pings := T.pings ++ ([(⟨nextT T, T.req + 1, T.now, false⟩ : Ping)] : List Ping), req := T.req + 1, begun := true, last := T.now, target := nextT T }).self (nextT T) (T.req + 1) (-1) (-1)] : List MsgC).length, rfl, hT_56, ho_49, hfo, (fun q_ h1 h2 => pt_58 q_ h2 h1), tabMoved' (fun x hx hlt => pt_59 x (.inr hx) hlt), K0⟩

end Go.Proofs.Ytagfdmdajmkddaa
