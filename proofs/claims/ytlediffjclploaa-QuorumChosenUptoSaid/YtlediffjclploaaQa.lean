/-
  The library's functions on slices, and layer 17's choice: what each call comes to.
-/
import Derived.Test.YtlediffjclploaaRows
import Derived.Test.YtlediffjclploaaDraw
import Derived.Test.YtlediffjclploaaPlain
import Derived.Test.YtlediffjclploaaTypes
namespace Go.Proofs.Ytlediffjclploaa
attribute [local irreducible] St1 RL RA RT Run

theorem ty3 : Ty Try.prog 3 1 8 (.int .i64 (0)) false := ty_of (by kernel_rfl) (by kernel_rfl)
theorem ty22 : Ty Try.prog 22 1 24 (.slice (none) (0) (0)) false := ty_of (by kernel_rfl) (by kernel_rfl)
theorem ty24 : Ty Try.prog 24 1 24 (.slice (none) (0) (0)) false := ty_of (by kernel_rfl) (by kernel_rfl)
theorem ty28 : Ty Try.prog 28 2 16 (.agg #[.int .i64 (0), .int .i64 (0)]) true := ty_of (by kernel_rfl) (by kernel_rfl)
theorem ty68 : Ty Try.prog 68 1 8 (.nilFunc) false := ty_of (by kernel_rfl) (by kernel_rfl)
theorem en10 : Enters Try.prog 10 := enters_of Try.func10 rfl (by kernel_rfl)
theorem en11 : Enters Try.prog 11 := enters_of Try.func11 rfl (by kernel_rfl)
theorem en12 : Enters Try.prog 12 := enters_of Try.func12 rfl (by kernel_rfl)
theorem en13 : Enters Try.prog 13 := enters_of Try.func13 rfl (by kernel_rfl)
theorem en14 : Enters Try.prog 14 := enters_of Try.func14 rfl (by kernel_rfl)
theorem en15 : Enters Try.prog 15 := enters_of Try.func15 rfl (by kernel_rfl)
theorem en32 : Enters Try.prog 32 := enters_of Try.func32 rfl (by kernel_rfl)
theorem en33 : Enters Try.prog 33 := enters_of Try.func33 rfl (by kernel_rfl)
theorem en34 : Enters Try.prog 34 := enters_of Try.func34 rfl (by kernel_rfl)
theorem en35 : Enters Try.prog 35 := enters_of Try.func35 rfl (by kernel_rfl)
theorem en36 : Enters Try.prog 36 := enters_of Try.func36 rfl (by kernel_rfl)
theorem en37 : Enters Try.prog 37 := enters_of Try.func37 rfl (by kernel_rfl)
theorem en38 : Enters Try.prog 38 := enters_of Try.func38 rfl (by kernel_rfl)
theorem en39 : Enters Try.prog 39 := enters_of Try.func39 rfl (by kernel_rfl)
theorem en50 : Enters Try.prog 50 := enters_of Try.func50 rfl (by kernel_rfl)

set_option maxHeartbeats 4000000 in
theorem index_int (a : Option Addr) (xs : List Int) (c : Nat) (x : Int) (w : World) (hs : SlOf w a xs) (hl : xs.length ≤ 4294967295) :
    Calls Try.prog 39 #[.slice (a) (xs.length) (c), .int .i64 (x)] w (Ret (fun v w' => v = .int .i64 (findI (x == ·) xs) ∧ Ext w w')) := by
  refine calls_run (n := 19) Try.func39 rfl rfl rfl ?_
  refine Run.seq ?_
  refine Run.region ?_
  refine RL.val (x_assignI rfl) ?_
  refine RL.nil ?_
  refine Run.seq ?_
  refine Run.seq ?_
  refine Run.region ?_
  refine RL.val (x_moveSl rfl) ?_
  refine RL.val (x_lenSl Try.underlying22 rfl) ?_
  refine RL.val (x_moveI rfl) ?_
  refine RL.nil ?_
  refine Run.block ?_
  refine Run.loop (ι := Nat) (fun i ρ' w' => Holds ρ' [(0, .slice (a) (xs.length) (c)), (1, .int .i64 (x)), (7, .int .i64 (((xs.length : Nat) : Int))), (8, .int .i64 (((i : Nat) : Int)))] ∧ Ext w w' ∧ (i ≤ xs.length) ∧ (NoB (x == ·) xs i)) (fun i => xs.length - i) 0 ?_ ?_
  · refine ⟨⟨rfl, rfl, rfl, rfl, trivial⟩, (Keeps.refl _ w), ?_, ?_⟩
    · omega
    · exact NoB.zero _ _
  rintro i ρ_3 w_1 ⟨hH_2, K0, hi, hno⟩ ih1
  obtain ⟨ρ₀, rfl⟩ := hH_2.ex
  clear hH_2
  refine Run.seq ?_
  refine Run.region ?_
  refine RL.val (x_ltI rfl rfl) ?_
  refine RL.nil ?_
  refine Run.seq ?_
  refine Run.cond rfl (fun hc9 => ?_) (fun hc9 => ?_)
  · try simp only [br] at hc9
    refine Run.skip ?_
    refine Run.seq ?_
    refine Run.block ?_
    refine Run.seq ?_
    refine Run.region ?_
    refine RL.val (x_moveI rfl) ?_
    refine RL.val (x_assignI rfl) ?_
    refine RL.nil ?_
    refine Run.seq ?_
    refine Run.region ?_
    refine RL.val (x_moveI rfl) ?_
    refine RL.val (x_moveSl rfl) ?_
    refine RL.val (x_moveI rfl) ?_
    obtain ⟨b_4, o_5, e, hx, ha_6, hc_7⟩ := hs.el (i := i) (by omega)
    have hc_7_lt := hc_7.lt
    replace hc_7 := hc_7.ext K0
    refine RL.val (x_idxN Try.underlying22 ty3 rfl rfl ha_6 (by omega)) ?_
    refine RL.val (x_ldV (v := .int .i64 (e)) (y := e) ty3 rfl hc_7 rfl) ?_
    refine RL.val (x_eqI rfl rfl) ?_
    refine RL.nil ?_
    refine Run.cond rfl (fun hc16 => ?_) (fun hc16 => ?_)
    · try simp only [br] at hc16
      refine Run.seq ?_
      refine Run.region ?_
      refine RL.val (x_moveI rfl) ?_
      refine RL.val (x_assignI rfl) ?_
      refine RL.nil ?_
      refine Run.ret1 (v := .int .i64 (((i : Nat) : Int))) Try.func39 rfl rfl ?_
      exact ⟨_, rfl, by rw [findI_at hx (by simpa using hc16) hno], K0⟩
    · try simp only [br] at hc16
      refine Run.skip ?_
      refine Run.inBlock ?_
      refine Run.region ?_
      refine RL.val (x_add rfl rfl (by omega) (by omega)) ?_
      refine RL.val (x_moveI rfl) ?_
      refine RL.nil ?_
      refine ih1 (i + 1) _ _ ?_ (by omega)
      refine ⟨⟨rfl, rfl, rfl, rfl, trivial⟩, K0, ?_, ?_⟩
      · omega
      · exact hno.step hx (by simpa using hc16)
  · try simp only [br] at hc9
    refine Run.exit rfl ?_
    refine Run.seq ?_
    refine Run.region ?_
    refine RL.val (x_assignI rfl) ?_
    refine RL.nil ?_
    refine Run.ret1 (v := .int .i64 (-1)) Try.func39 rfl rfl ?_
    exact ⟨_, rfl, by rw [findI_no hno (by omega)], K0⟩

set_option maxHeartbeats 4000000 in
theorem contains_int (a : Option Addr) (xs : List Int) (c : Nat) (x : Int) (w : World) (hs : SlOf w a xs) (hl : xs.length ≤ 4294967295) :
    Calls Try.prog 15 #[.slice (a) (xs.length) (c), .int .i64 (x)] w (Ret (fun v w' => v = .bool (xs.any (x == ·)) ∧ Ext w w')) := by
  refine calls_run (n := 9) Try.func15 rfl rfl rfl ?_
  refine Run.seq ?_
  refine Run.region ?_
  refine RL.val (x_assignB rfl) ?_
  refine RL.nil ?_
  refine Run.seq ?_
  refine Run.region ?_
  refine RL.val (x_moveSl rfl) ?_
  refine RL.val (x_moveI rfl) ?_
  refine RL.st rfl <| St1.call (vals := [.slice (a) (xs.length) (c), .int .i64 (x)]) en39 rfl (index_int _ _ _ _ _ hs (by omega)) ?_
  rintro _ w_1 ⟨rfl, K_2⟩
  have K0 := (K_2 : Ext w _)
  refine RL.val (x_geI rfl rfl) ?_
  refine RL.val (x_assignB rfl) ?_
  refine RL.nil ?_
  refine Run.ret1 (v := .bool (decide (0 ≤ (findI (x == ·) xs)))) Try.func15 rfl rfl ?_
  exact ⟨_, rfl, by rw [findI_ge], K0⟩

set_option maxHeartbeats 4000000 in
theorem equal_int (a : Option Addr) (xs : List Int) (c : Nat) (d : Option Addr) (ys : List Int) (e : Nat) (w : World) (hs : SlOf w a xs) (ht : SlOf w d ys) (hl : xs.length ≤ 4294967295) :
    Calls Try.prog 14 #[.slice (a) (xs.length) (c), .slice (d) (ys.length) (e)] w (Ret (fun v w' => v = .bool (decide (xs = ys)) ∧ Ext w w')) := by
  refine calls_run (n := 26) Try.func14 rfl rfl rfl ?_
  refine Run.seq ?_
  refine Run.region ?_
  refine RL.val (x_assignB rfl) ?_
  refine RL.nil ?_
  refine Run.seq ?_
  refine Run.seq ?_
  refine Run.region ?_
  refine RL.val (x_moveSl rfl) ?_
  refine RL.val (x_lenSl Try.underlying22 rfl) ?_
  refine RL.val (x_moveSl rfl) ?_
  refine RL.val (x_lenSl Try.underlying22 rfl) ?_
  refine RL.val (x_neI rfl rfl) ?_
  refine RL.nil ?_
  refine Run.cond rfl (fun hc10 => ?_) (fun hc10 => ?_)
  · try simp only [br] at hc10
    refine Run.seq ?_
    refine Run.region ?_
    refine RL.val (x_assignB rfl) ?_
    refine RL.nil ?_
    refine Run.ret1 (v := .bool (false)) Try.func14 rfl rfl ?_
    exact ⟨_, rfl, by rw [decide_eq_false (fun h => hc10 (by rw [h]))], (Keeps.refl _ w)⟩
  · try simp only [br] at hc10
    have hlen : xs.length = ys.length := by omega
    refine Run.skip ?_
    refine Run.seq ?_
    refine Run.seq ?_
    refine Run.region ?_
    refine RL.val (x_moveSl rfl) ?_
    refine RL.val (x_lenSl Try.underlying22 rfl) ?_
    refine RL.val (x_moveI rfl) ?_
    refine RL.nil ?_
    refine Run.block ?_
    refine Run.loop (ι := Nat) (fun i ρ' w' => Holds ρ' [(0, .slice (a) (xs.length) (c)), (1, .slice (d) (ys.length) (e)), (12, .int .i64 (((xs.length : Nat) : Int))), (13, .int .i64 (((i : Nat) : Int)))] ∧ Ext w w' ∧ (i ≤ xs.length) ∧ (SameB xs ys i)) (fun i => xs.length - i) 0 ?_ ?_
    · refine ⟨⟨rfl, rfl, rfl, rfl, trivial⟩, (Keeps.refl _ w), ?_, ?_⟩
      · omega
      · exact SameB.zero _ _
    rintro i ρ_3 w_1 ⟨hH_2, K0, hi, hno⟩ ih1
    obtain ⟨ρ₀, rfl⟩ := hH_2.ex
    clear hH_2
    refine Run.seq ?_
    refine Run.region ?_
    refine RL.val (x_ltI rfl rfl) ?_
    refine RL.nil ?_
    refine Run.seq ?_
    refine Run.cond rfl (fun hc14 => ?_) (fun hc14 => ?_)
    · try simp only [br] at hc14
      refine Run.skip ?_
      refine Run.seq ?_
      refine Run.block ?_
      refine Run.seq ?_
      refine Run.region ?_
      refine RL.val (x_moveI rfl) ?_
      refine RL.val (x_assignI rfl) ?_
      refine RL.nil ?_
      refine Run.seq ?_
      obtain ⟨b_7, o_8, x, hx, ha_9, hc_10⟩ := hs.el (i := i) (by omega)
      have hc_10_lt := hc_10.lt
      replace hc_10 := hc_10.ext K0
      obtain ⟨b_13, o_14, y, hy, ha_15, hc_16⟩ := ht.el (i := i) (by omega)
      have hc_16_lt := hc_16.lt
      replace hc_16 := hc_16.ext K0
      refine Run.draw' (m := 9) (by kernel_rfl) rfl ?_
      intro w_4 K_5
      replace hc_10 := hc_10.ext K_5
      replace hc_16 := hc_16.ext K_5
      replace K0 := K0.ext K_5
      refine RA.take (v := .slice (a) (xs.length) (c)) 0 rfl (by kernel_rfl) rfl (by rintro _ rfl; exact (x_moveSl rfl)) ?_
      refine RA.take (v := .int .i64 (((i : Nat) : Int))) 1 rfl (by kernel_rfl) rfl (by rintro _ rfl; exact (x_moveI rfl)) ?_
      refine RA.take (v := .pointer (some ⟨b_7, o_8 + i * 1, none⟩)) 2 rfl (by kernel_rfl) rfl (by rintro _ rfl; exact (x_idxN Try.underlying22 ty3 rfl rfl ha_9 (by omega))) ?_
      refine RA.take (v := .int .i64 (x)) 3 rfl (by kernel_rfl) rfl (by rintro _ rfl; exact (x_ldV (v := .int .i64 (x)) (y := x) ty3 rfl hc_10 rfl)) ?_
      refine RA.take (v := .slice (d) (ys.length) (e)) 4 rfl (by kernel_rfl) rfl (by rintro _ rfl; exact (x_moveSl rfl)) ?_
      refine RA.take (v := .int .i64 (((i : Nat) : Int))) 5 rfl (by kernel_rfl) rfl (by rintro _ rfl; exact (x_moveI rfl)) ?_
      refine RA.take (v := .pointer (some ⟨b_13, o_14 + i * 1, none⟩)) 6 rfl (by kernel_rfl) rfl (by rintro _ rfl; exact (x_idxN Try.underlying22 ty3 rfl rfl ha_15 (by omega))) ?_
      refine RA.take (v := .int .i64 (y)) 7 rfl (by kernel_rfl) rfl (by rintro _ rfl; exact (x_ldV (v := .int .i64 (y)) (y := y) ty3 rfl hc_16 rfl)) ?_
      refine RA.take (v := .bool (x != y)) 8 rfl (by kernel_rfl) rfl (by rintro _ rfl; exact (x_neI rfl rfl)) ?_
      refine RA.done (by kernel_rfl) ?_
      refine Run.cond rfl (fun hc24 => ?_) (fun hc24 => ?_)
      · try simp only [br] at hc24
        refine Run.seq ?_
        refine Run.region ?_
        refine RL.val (x_assignB rfl) ?_
        refine RL.nil ?_
        refine Run.ret1 (v := .bool (false)) Try.func14 rfl rfl ?_
        exact ⟨_, rfl, by rw [decide_eq_false (ne_of_at hx hy hc24)], K0⟩
      · try simp only [br] at hc24
        refine Run.skip ?_
        refine Run.inBlock ?_
        refine Run.region ?_
        refine RL.val (x_add rfl rfl (by omega) (by omega)) ?_
        refine RL.val (x_moveI rfl) ?_
        refine RL.nil ?_
        refine ih1 (i + 1) _ _ ?_ (by omega)
        refine ⟨⟨rfl, rfl, rfl, rfl, trivial⟩, K0, ?_, ?_⟩
        · omega
        · exact hno.step hx hy hc24
    · try simp only [br] at hc14
      refine Run.exit rfl ?_
      refine Run.seq ?_
      refine Run.region ?_
      refine RL.val (x_assignB rfl) ?_
      refine RL.nil ?_
      refine Run.ret1 (v := .bool (true)) Try.func14 rfl rfl ?_
      exact ⟨_, rfl, by rw [decide_eq_true (hno.all hlen (by omega))], K0⟩

set_option maxHeartbeats 4000000 in
theorem clone_int (a : Option Addr) (xs : List Int) (c : Nat) (w : World) (hs : SlOf w a xs) (hl : xs.length ≤ 4294967295) :
    Calls Try.prog 10 #[.slice (a) (xs.length) (c)] w (Ret (fun v w' => ∃ a' c', v = .slice a' xs.length c' ∧ OwnSl w' 3 a' c' xs ∧ (∀ b, own a' b → w.heap.size ≤ b) ∧ Ext w w')) := by
  refine calls_run (n := 8) Try.func10 rfl rfl rfl ?_
  refine Run.seq ?_
  refine Run.region ?_
  refine RL.val (x_assignSl rfl) ?_
  refine RL.nil ?_
  refine Run.seq ?_
  refine Run.seq ?_
  refine Run.region ?_
  refine RL.val (x_moveSl rfl) ?_
  refine RL.val (x_slNil Try.underlying22 rfl rfl) ?_
  refine RL.nil ?_
  refine Run.cond rfl (fun hc4 => ?_) (fun hc4 => ?_)
  · skip
    refine Run.seq ?_
    refine Run.region ?_
    refine RL.val (x_assignSl rfl) ?_
    refine RL.nil ?_
    refine Run.ret1 (v := .slice (none) (0) (0)) Try.func10 rfl rfl ?_
    have hx := hs.nil_of hc4; subst hx; exact ⟨_, rfl, none, 0, rfl, OwnSl.nil _ _, fun b h => absurd h (own_none b), (Keeps.refl _ w)⟩
  · skip
    refine Run.skip ?_
    refine Run.seq ?_
    refine Run.region ?_
    refine RL.st rfl <| St1.buildSlice ([] : List Int) Try.underlying22 ty3 rfl rfl (by first | decide | (simp [Enc.size])) ?_
    intro b_1 w_2 hl_5 ho_4 K_3
    have pg_6 : ∀ b, own (some ⟨b_1, 0, none⟩) b → w.heap.size ≤ b := ge_new (Nat.le_trans (Nat.le_refl _) hl_5)
    clear hl_5
    have K0 := (K_3 : Ext w _)
    refine RL.val (x_moveSl rfl) ?_
    refine RL.st rfl <| St1.append (xs := ([] : List Int)) (ys := xs) Try.underlying22 ty3 rfl rfl rfl ho_4 (hs.ext K0) (by first | omega | (simp only [lr]; omega)) (by decide) ?_
    intro a_7 c_8 w_9 ho_10 K_11 hm_12
    have pg_13 : ∀ b, own a_7 b → w.heap.size ≤ b := hm_12.ge pg_6 K0.size
    replace K0 := K0.new K_11 pg_6
    clear hm_12
    refine RL.val (x_assignSl rfl) ?_
    refine RL.nil ?_
    refine Run.ret1 (v := .slice (a_7) ((([] : List Int) ++ xs).length) (c_8)) Try.func10 rfl rfl ?_
    exact ⟨_, rfl, a_7, c_8, by rw [List.nil_append], by simpa using ho_10, pg_13, K0⟩

set_option maxHeartbeats 4000000 in
theorem indexFunc_int (a : Option Addr) (xs : List Int) (c : Nat) (gf : FuncId) (caps : List Value) (q : Int → Bool) (hen : Enters Try.prog gf) (w : World) (hs : SlOf w a xs) (hl : xs.length ≤ 4294967295) (hq : ∀ x ∈ xs, ∀ w', Ext w w' → Calls Try.prog gf (Enc.val x :: caps).toArray w' (Ret fun v w'' => v = .bool (q x) ∧ Ext w' w'')) :
    Calls Try.prog 35 #[.slice (a) (xs.length) (c), .func (.func gf) #[] caps.toArray] w (Ret (fun v w' => v = .int .i64 (findI q xs) ∧ Ext w w')) := by
  refine calls_run (n := 19) Try.func35 rfl rfl rfl ?_
  refine Run.seq ?_
  refine Run.region ?_
  refine RL.val (x_assignI rfl) ?_
  refine RL.nil ?_
  refine Run.seq ?_
  refine Run.seq ?_
  refine Run.region ?_
  refine RL.val (x_moveSl rfl) ?_
  refine RL.val (x_lenSl Try.underlying22 rfl) ?_
  refine RL.val (x_moveI rfl) ?_
  refine RL.nil ?_
  refine Run.block ?_
  refine Run.loop (ι := Nat) (fun i ρ' w' => Holds ρ' [(0, .slice (a) (xs.length) (c)), (1, .func (.func gf) #[] caps.toArray), (7, .int .i64 (((xs.length : Nat) : Int))), (8, .int .i64 (((i : Nat) : Int)))] ∧ Ext w w' ∧ (i ≤ xs.length) ∧ (NoB q xs i)) (fun i => xs.length - i) 0 ?_ ?_
  · refine ⟨⟨rfl, rfl, rfl, rfl, trivial⟩, (Keeps.refl _ w), ?_, ?_⟩
    · omega
    · exact NoB.zero _ _
  rintro i ρ_3 w_1 ⟨hH_2, K0, hi, hno⟩ ih1
  obtain ⟨ρ₀, rfl⟩ := hH_2.ex
  clear hH_2
  refine Run.seq ?_
  refine Run.region ?_
  refine RL.val (x_ltI rfl rfl) ?_
  refine RL.nil ?_
  refine Run.seq ?_
  refine Run.cond rfl (fun hc9 => ?_) (fun hc9 => ?_)
  · try simp only [br] at hc9
    refine Run.skip ?_
    refine Run.seq ?_
    refine Run.block ?_
    refine Run.seq ?_
    refine Run.region ?_
    refine RL.val (x_moveI rfl) ?_
    refine RL.val (x_assignI rfl) ?_
    refine RL.nil ?_
    refine Run.seq ?_
    refine Run.region ?_
    refine RL.val (x_moveF rfl) ?_
    refine RL.val (x_moveSl rfl) ?_
    refine RL.val (x_moveI rfl) ?_
    obtain ⟨b_4, o_5, e, hx, ha_6, hc_7⟩ := hs.el (i := i) (by omega)
    have hc_7_lt := hc_7.lt
    replace hc_7 := hc_7.ext K0
    refine RL.val (x_idxN Try.underlying22 ty3 rfl rfl ha_6 (by omega)) ?_
    refine RL.val (x_ldV (v := .int .i64 (e)) (y := e) ty3 rfl hc_7 rfl) ?_
    refine RL.st rfl <| St1.callV (first := []) (vals := .int .i64 (e) :: caps) hen rfl rfl (hq e (mem_of_at hx) _ K0) ?_
    rintro _ w_10 ⟨rfl, K_11⟩
    replace hc_7 := hc_7.ext K_11
    replace K0 := K0.ext K_11
    refine RL.nil ?_
    refine Run.cond rfl (fun hc16 => ?_) (fun hc16 => ?_)
    · skip
      refine Run.seq ?_
      refine Run.region ?_
      refine RL.val (x_moveI rfl) ?_
      refine RL.val (x_assignI rfl) ?_
      refine RL.nil ?_
      refine Run.ret1 (v := .int .i64 (((i : Nat) : Int))) Try.func35 rfl rfl ?_
      exact ⟨_, rfl, by rw [findI_at hx hc16 hno], K0⟩
    · skip
      refine Run.skip ?_
      refine Run.inBlock ?_
      refine Run.region ?_
      refine RL.val (x_add rfl rfl (by omega) (by omega)) ?_
      refine RL.val (x_moveI rfl) ?_
      refine RL.nil ?_
      refine ih1 (i + 1) _ _ ?_ (by omega)
      refine ⟨⟨rfl, rfl, rfl, rfl, trivial⟩, K0, ?_, ?_⟩
      · omega
      · exact hno.step hx hc16
  · try simp only [br] at hc9
    refine Run.exit rfl ?_
    refine Run.seq ?_
    refine Run.region ?_
    refine RL.val (x_assignI rfl) ?_
    refine RL.nil ?_
    refine Run.ret1 (v := .int .i64 (-1)) Try.func35 rfl rfl ?_
    exact ⟨_, rfl, by rw [findI_no hno (by omega)], K0⟩

set_option maxHeartbeats 4000000 in
theorem equal_target (a : Option Addr) (xs : List Target) (c : Nat) (d : Option Addr) (ys : List Target) (e : Nat) (w : World) (hs : SlOf w a xs) (ht : SlOf w d ys) (hl : xs.length ≤ 4294967295) :
    Calls Try.prog 12 #[.slice (a) (xs.length) (c), .slice (d) (ys.length) (e)] w (Ret (fun v w' => v = .bool (decide (xs = ys)) ∧ Ext w w')) := by
  refine calls_run (n := 26) Try.func12 rfl rfl rfl ?_
  refine Run.seq ?_
  refine Run.region ?_
  refine RL.val (x_assignB rfl) ?_
  refine RL.nil ?_
  refine Run.seq ?_
  refine Run.seq ?_
  refine Run.region ?_
  refine RL.val (x_moveSl rfl) ?_
  refine RL.val (x_lenSl Try.underlying24 rfl) ?_
  refine RL.val (x_moveSl rfl) ?_
  refine RL.val (x_lenSl Try.underlying24 rfl) ?_
  refine RL.val (x_neI rfl rfl) ?_
  refine RL.nil ?_
  refine Run.cond rfl (fun hc10 => ?_) (fun hc10 => ?_)
  · try simp only [br] at hc10
    refine Run.seq ?_
    refine Run.region ?_
    refine RL.val (x_assignB rfl) ?_
    refine RL.nil ?_
    refine Run.ret1 (v := .bool (false)) Try.func12 rfl rfl ?_
    exact ⟨_, rfl, by rw [decide_eq_false (fun h => hc10 (by rw [h]))], (Keeps.refl _ w)⟩
  · try simp only [br] at hc10
    have hlen : xs.length = ys.length := by omega
    refine Run.skip ?_
    refine Run.seq ?_
    refine Run.seq ?_
    refine Run.region ?_
    refine RL.val (x_moveSl rfl) ?_
    refine RL.val (x_lenSl Try.underlying24 rfl) ?_
    refine RL.val (x_moveI rfl) ?_
    refine RL.nil ?_
    refine Run.block ?_
    refine Run.loop (ι := Nat) (fun i ρ' w' => Holds ρ' [(0, .slice (a) (xs.length) (c)), (1, .slice (d) (ys.length) (e)), (12, .int .i64 (((xs.length : Nat) : Int))), (13, .int .i64 (((i : Nat) : Int)))] ∧ Ext w w' ∧ (i ≤ xs.length) ∧ (SameB xs ys i)) (fun i => xs.length - i) 0 ?_ ?_
    · refine ⟨⟨rfl, rfl, rfl, rfl, trivial⟩, (Keeps.refl _ w), ?_, ?_⟩
      · omega
      · exact SameB.zero _ _
    rintro i ρ_3 w_1 ⟨hH_2, K0, hi, hno⟩ ih1
    obtain ⟨ρ₀, rfl⟩ := hH_2.ex
    clear hH_2
    refine Run.seq ?_
    refine Run.region ?_
    refine RL.val (x_ltI rfl rfl) ?_
    refine RL.nil ?_
    refine Run.seq ?_
    refine Run.cond rfl (fun hc14 => ?_) (fun hc14 => ?_)
    · try simp only [br] at hc14
      refine Run.skip ?_
      refine Run.seq ?_
      refine Run.block ?_
      refine Run.seq ?_
      refine Run.region ?_
      refine RL.val (x_moveI rfl) ?_
      refine RL.val (x_assignI rfl) ?_
      refine RL.nil ?_
      refine Run.seq ?_
      obtain ⟨b_7, o_8, x, hx, ha_9, hc_10⟩ := hs.el (i := i) (by omega)
      have hc_10_lt := hc_10.lt
      replace hc_10 := hc_10.ext K0
      obtain ⟨b_13, o_14, y, hy, ha_15, hc_16⟩ := ht.el (i := i) (by omega)
      have hc_16_lt := hc_16.lt
      replace hc_16 := hc_16.ext K0
      refine Run.draw' (m := 9) (by kernel_rfl) rfl ?_
      intro w_4 K_5
      replace hc_10 := hc_10.ext K_5
      replace hc_16 := hc_16.ext K_5
      replace K0 := K0.ext K_5
      refine RA.take (v := .slice (a) (xs.length) (c)) 0 rfl (by kernel_rfl) rfl (by rintro _ rfl; exact (x_moveSl rfl)) ?_
      refine RA.take (v := .int .i64 (((i : Nat) : Int))) 1 rfl (by kernel_rfl) rfl (by rintro _ rfl; exact (x_moveI rfl)) ?_
      refine RA.take (v := .pointer (some ⟨b_7, o_8 + i * 2, none⟩)) 2 rfl (by kernel_rfl) rfl (by rintro _ rfl; exact (x_idxN Try.underlying24 ty28 rfl rfl ha_9 (by omega))) ?_
      refine RA.take (v := .agg #[.int .i64 ((x).node), .int .i64 ((x).owner)]) 3 rfl (by kernel_rfl) rfl (by rintro _ rfl; exact (x_ldV (v := .agg #[.int .i64 ((x).node), .int .i64 ((x).owner)]) (y := x) ty28 rfl hc_10 rfl)) ?_
      refine RA.take (v := .slice (d) (ys.length) (e)) 4 rfl (by kernel_rfl) rfl (by rintro _ rfl; exact (x_moveSl rfl)) ?_
      refine RA.take (v := .int .i64 (((i : Nat) : Int))) 5 rfl (by kernel_rfl) rfl (by rintro _ rfl; exact (x_moveI rfl)) ?_
      refine RA.take (v := .pointer (some ⟨b_13, o_14 + i * 2, none⟩)) 6 rfl (by kernel_rfl) rfl (by rintro _ rfl; exact (x_idxN Try.underlying24 ty28 rfl rfl ha_15 (by omega))) ?_
      refine RA.take (v := .agg #[.int .i64 ((y).node), .int .i64 ((y).owner)]) 7 rfl (by kernel_rfl) rfl (by rintro _ rfl; exact (x_ldV (v := .agg #[.int .i64 ((y).node), .int .i64 ((y).owner)]) (y := y) ty28 rfl hc_16 rfl)) ?_
      refine RA.take (v := .bool (!decide (x = y))) 8 rfl (by kernel_rfl) rfl (by rintro _ rfl; exact (x_neA (by kernel_rfl) rfl rfl (eq_Target x y))) ?_
      refine RA.done (by kernel_rfl) ?_
      refine Run.cond rfl (fun hc24 => ?_) (fun hc24 => ?_)
      · try simp only [br] at hc24
        refine Run.seq ?_
        refine Run.region ?_
        refine RL.val (x_assignB rfl) ?_
        refine RL.nil ?_
        refine Run.ret1 (v := .bool (false)) Try.func12 rfl rfl ?_
        exact ⟨_, rfl, by rw [decide_eq_false (ne_of_at hx hy hc24)], K0⟩
      · try simp only [br] at hc24
        refine Run.skip ?_
        refine Run.inBlock ?_
        refine Run.region ?_
        refine RL.val (x_add rfl rfl (by omega) (by omega)) ?_
        refine RL.val (x_moveI rfl) ?_
        refine RL.nil ?_
        refine ih1 (i + 1) _ _ ?_ (by omega)
        refine ⟨⟨rfl, rfl, rfl, rfl, trivial⟩, K0, ?_, ?_⟩
        · omega
        · exact hno.step hx hy hc24
    · try simp only [br] at hc14
      refine Run.exit rfl ?_
      refine Run.seq ?_
      refine Run.region ?_
      refine RL.val (x_assignB rfl) ?_
      refine RL.nil ?_
      refine Run.ret1 (v := .bool (true)) Try.func12 rfl rfl ?_
      exact ⟨_, rfl, by rw [decide_eq_true (hno.all hlen (by omega))], K0⟩

set_option maxHeartbeats 4000000 in
theorem indexFunc_target (a : Option Addr) (xs : List Target) (c : Nat) (gf : FuncId) (caps : List Value) (q : Target → Bool) (hen : Enters Try.prog gf) (w : World) (hs : SlOf w a xs) (hl : xs.length ≤ 4294967295) (hq : ∀ x ∈ xs, ∀ w', Ext w w' → Calls Try.prog gf (Enc.val x :: caps).toArray w' (Ret fun v w'' => v = .bool (q x) ∧ Ext w' w'')) :
    Calls Try.prog 50 #[.slice (a) (xs.length) (c), .func (.func gf) #[] caps.toArray] w (Ret (fun v w' => v = .int .i64 (findI q xs) ∧ Ext w w')) := by
  refine calls_run (n := 19) Try.func50 rfl rfl rfl ?_
  refine Run.seq ?_
  refine Run.region ?_
  refine RL.val (x_assignI rfl) ?_
  refine RL.nil ?_
  refine Run.seq ?_
  refine Run.seq ?_
  refine Run.region ?_
  refine RL.val (x_moveSl rfl) ?_
  refine RL.val (x_lenSl Try.underlying24 rfl) ?_
  refine RL.val (x_moveI rfl) ?_
  refine RL.nil ?_
  refine Run.block ?_
  refine Run.loop (ι := Nat) (fun i ρ' w' => Holds ρ' [(0, .slice (a) (xs.length) (c)), (1, .func (.func gf) #[] caps.toArray), (7, .int .i64 (((xs.length : Nat) : Int))), (8, .int .i64 (((i : Nat) : Int)))] ∧ Ext w w' ∧ (i ≤ xs.length) ∧ (NoB q xs i)) (fun i => xs.length - i) 0 ?_ ?_
  · refine ⟨⟨rfl, rfl, rfl, rfl, trivial⟩, (Keeps.refl _ w), ?_, ?_⟩
    · omega
    · exact NoB.zero _ _
  rintro i ρ_3 w_1 ⟨hH_2, K0, hi, hno⟩ ih1
  obtain ⟨ρ₀, rfl⟩ := hH_2.ex
  clear hH_2
  refine Run.seq ?_
  refine Run.region ?_
  refine RL.val (x_ltI rfl rfl) ?_
  refine RL.nil ?_
  refine Run.seq ?_
  refine Run.cond rfl (fun hc9 => ?_) (fun hc9 => ?_)
  · try simp only [br] at hc9
    refine Run.skip ?_
    refine Run.seq ?_
    refine Run.block ?_
    refine Run.seq ?_
    refine Run.region ?_
    refine RL.val (x_moveI rfl) ?_
    refine RL.val (x_assignI rfl) ?_
    refine RL.nil ?_
    refine Run.seq ?_
    refine Run.region ?_
    refine RL.val (x_moveF rfl) ?_
    refine RL.val (x_moveSl rfl) ?_
    refine RL.val (x_moveI rfl) ?_
    obtain ⟨b_4, o_5, e, hx, ha_6, hc_7⟩ := hs.el (i := i) (by omega)
    have hc_7_lt := hc_7.lt
    replace hc_7 := hc_7.ext K0
    refine RL.val (x_idxN Try.underlying24 ty28 rfl rfl ha_6 (by omega)) ?_
    refine RL.val (x_ldV (v := .agg #[.int .i64 ((e).node), .int .i64 ((e).owner)]) (y := e) ty28 rfl hc_7 rfl) ?_
    refine RL.st rfl <| St1.callV (first := []) (vals := .agg #[.int .i64 ((e).node), .int .i64 ((e).owner)] :: caps) hen rfl rfl (hq e (mem_of_at hx) _ K0) ?_
    rintro _ w_10 ⟨rfl, K_11⟩
    replace hc_7 := hc_7.ext K_11
    replace K0 := K0.ext K_11
    refine RL.nil ?_
    refine Run.cond rfl (fun hc16 => ?_) (fun hc16 => ?_)
    · skip
      refine Run.seq ?_
      refine Run.region ?_
      refine RL.val (x_moveI rfl) ?_
      refine RL.val (x_assignI rfl) ?_
      refine RL.nil ?_
      refine Run.ret1 (v := .int .i64 (((i : Nat) : Int))) Try.func50 rfl rfl ?_
      exact ⟨_, rfl, by rw [findI_at hx hc16 hno], K0⟩
    · skip
      refine Run.skip ?_
      refine Run.inBlock ?_
      refine Run.region ?_
      refine RL.val (x_add rfl rfl (by omega) (by omega)) ?_
      refine RL.val (x_moveI rfl) ?_
      refine RL.nil ?_
      refine ih1 (i + 1) _ _ ?_ (by omega)
      refine ⟨⟨rfl, rfl, rfl, rfl, trivial⟩, K0, ?_, ?_⟩
      · omega
      · exact hno.step hx hc16
  · try simp only [br] at hc9
    refine Run.exit rfl ?_
    refine Run.seq ?_
    refine Run.region ?_
    refine RL.val (x_assignI rfl) ?_
    refine RL.nil ?_
    refine Run.ret1 (v := .int .i64 (-1)) Try.func50 rfl rfl ?_
    exact ⟨_, rfl, by rw [findI_no hno (by omega)], K0⟩

set_option maxHeartbeats 4000000 in
theorem containsFunc_target (a : Option Addr) (xs : List Target) (c : Nat) (gf : FuncId) (caps : List Value) (q : Target → Bool) (hen : Enters Try.prog gf) (w : World) (hs : SlOf w a xs) (hl : xs.length ≤ 4294967295) (hq : ∀ x ∈ xs, ∀ w', Ext w w' → Calls Try.prog gf (Enc.val x :: caps).toArray w' (Ret fun v w'' => v = .bool (q x) ∧ Ext w' w'')) :
    Calls Try.prog 33 #[.slice (a) (xs.length) (c), .func (.func gf) #[] caps.toArray] w (Ret (fun v w' => v = .bool (xs.any q) ∧ Ext w w')) := by
  refine calls_run (n := 9) Try.func33 rfl rfl rfl ?_
  refine Run.seq ?_
  refine Run.region ?_
  refine RL.val (x_assignB rfl) ?_
  refine RL.nil ?_
  refine Run.seq ?_
  refine Run.region ?_
  refine RL.val (x_moveSl rfl) ?_
  refine RL.val (x_moveF rfl) ?_
  refine RL.st rfl <| St1.call (vals := [.slice (a) (xs.length) (c), .func (.func gf) #[] caps.toArray]) en50 rfl (indexFunc_target _ _ _ _ _ q hen _ hs (by omega) hq) ?_
  rintro _ w_1 ⟨rfl, K_2⟩
  have K0 := (K_2 : Ext w _)
  refine RL.val (x_geI rfl rfl) ?_
  refine RL.val (x_assignB rfl) ?_
  refine RL.nil ?_
  refine Run.ret1 (v := .bool (decide (0 ≤ (findI q xs)))) Try.func33 rfl rfl ?_
  exact ⟨_, rfl, by rw [findI_ge], K0⟩

set_option maxHeartbeats 4000000 in
theorem has17 (a : Option Addr) (xs : List Int) (c : Nat) (x : Int) (w : World) (hs : SlOf w a xs) (hl : xs.length ≤ 4294967295) :
    Calls Try.prog 37 #[.slice (a) (xs.length) (c), .int .i64 (x)] w (Ret (fun v w' => v = .bool (xs.any (x == ·)) ∧ Ext w w')) := by
  refine calls_run (n := 17) Try.func37 rfl rfl rfl ?_
  refine Run.seq ?_
  refine Run.region ?_
  refine RL.val (x_assignB rfl) ?_
  refine RL.nil ?_
  refine Run.seq ?_
  refine Run.seq ?_
  refine Run.region ?_
  refine RL.val (x_moveSl rfl) ?_
  refine RL.val (x_lenSl Try.underlying22 rfl) ?_
  refine RL.val (x_moveI rfl) ?_
  refine RL.nil ?_
  refine Run.block ?_
  refine Run.loop (ι := Nat) (fun i ρ' w' => Holds ρ' [(1, .int .i64 (x)), (7, .slice (a) (xs.length) (c)), (8, .int .i64 (((xs.length : Nat) : Int))), (9, .int .i64 (((i : Nat) : Int)))] ∧ Ext w w' ∧ (i ≤ xs.length) ∧ (NoB (x == ·) xs i)) (fun i => xs.length - i) 0 ?_ ?_
  · refine ⟨⟨rfl, rfl, rfl, rfl, trivial⟩, (Keeps.refl _ w), ?_, ?_⟩
    · omega
    · exact NoB.zero _ _
  rintro i ρ_3 w_1 ⟨hH_2, K0, hi, hno⟩ ih1
  obtain ⟨ρ₀, rfl⟩ := hH_2.ex
  clear hH_2
  refine Run.seq ?_
  refine Run.region ?_
  refine RL.val (x_ltI rfl rfl) ?_
  refine RL.nil ?_
  refine Run.seq ?_
  refine Run.cond rfl (fun hc10 => ?_) (fun hc10 => ?_)
  · try simp only [br] at hc10
    refine Run.skip ?_
    refine Run.seq ?_
    refine Run.block ?_
    refine Run.seq ?_
    refine Run.region ?_
    obtain ⟨b_4, o_5, e, hx, ha_6, hc_7⟩ := hs.el (i := i) (by omega)
    have hc_7_lt := hc_7.lt
    replace hc_7 := hc_7.ext K0
    refine RL.val (x_idxN Try.underlying22 ty3 rfl rfl ha_6 (by omega)) ?_
    refine RL.val (x_ldV (v := .int .i64 (e)) (y := e) ty3 rfl hc_7 rfl) ?_
    refine RL.val (x_assignI rfl) ?_
    refine RL.nil ?_
    refine Run.seq ?_
    refine Run.region ?_
    refine RL.val (x_moveI rfl) ?_
    refine RL.val (x_moveI rfl) ?_
    refine RL.val (x_eqI rfl rfl) ?_
    refine RL.nil ?_
    refine Run.cond rfl (fun hc15 => ?_) (fun hc15 => ?_)
    · try simp only [br] at hc15
      refine Run.seq ?_
      refine Run.region ?_
      refine RL.val (x_assignB rfl) ?_
      refine RL.nil ?_
      refine Run.ret1 (v := .bool (true)) Try.func37 rfl rfl ?_
      exact ⟨_, rfl, by rw [any_at hx (by simpa using hc15.symm)], K0⟩
    · try simp only [br] at hc15
      refine Run.skip ?_
      refine Run.inBlock ?_
      refine Run.region ?_
      refine RL.val (x_add rfl rfl (by omega) (by omega)) ?_
      refine RL.val (x_moveI rfl) ?_
      refine RL.nil ?_
      refine ih1 (i + 1) _ _ ?_ (by omega)
      refine ⟨⟨rfl, rfl, rfl, rfl, trivial⟩, K0, ?_, ?_⟩
      · omega
      · exact hno.step hx (by simpa using fun e => hc15 e.symm)
  · try simp only [br] at hc10
    refine Run.exit rfl ?_
    refine Run.seq ?_
    refine Run.region ?_
    refine RL.val (x_assignB rfl) ?_
    refine RL.nil ?_
    refine Run.ret1 (v := .bool (false)) Try.func37 rfl rfl ?_
    exact ⟨_, rfl, by rw [any_no hno (by omega)], K0⟩

set_option maxHeartbeats 4000000 in
theorem used17 (a : Option Addr) (xs : List Target) (c : Nat) (x : Int) (w : World) (hs : SlOf w a xs) (hl : xs.length ≤ 4294967295) :
    Calls Try.prog 38 #[.slice (a) (xs.length) (c), .int .i64 (x)] w (Ret (fun v w' => v = .bool (xs.any (isN x)) ∧ Ext w w')) := by
  refine calls_run (n := 18) Try.func38 rfl rfl rfl ?_
  refine Run.seq ?_
  refine Run.region ?_
  refine RL.val (x_assignB rfl) ?_
  refine RL.nil ?_
  refine Run.seq ?_
  refine Run.seq ?_
  refine Run.region ?_
  refine RL.val (x_moveSl rfl) ?_
  refine RL.val (x_lenSl Try.underlying24 rfl) ?_
  refine RL.val (x_moveI rfl) ?_
  refine RL.nil ?_
  refine Run.block ?_
  refine Run.loop (ι := Nat) (fun i ρ' w' => Holds ρ' [(1, .int .i64 (x)), (7, .slice (a) (xs.length) (c)), (8, .int .i64 (((xs.length : Nat) : Int))), (9, .int .i64 (((i : Nat) : Int)))] ∧ Ext w w' ∧ (i ≤ xs.length) ∧ (NoB (isN x) xs i)) (fun i => xs.length - i) 0 ?_ ?_
  · refine ⟨⟨rfl, rfl, rfl, rfl, trivial⟩, (Keeps.refl _ w), ?_, ?_⟩
    · omega
    · exact NoB.zero _ _
  rintro i ρ_3 w_1 ⟨hH_2, K0, hi, hno⟩ ih1
  obtain ⟨ρ₀, rfl⟩ := hH_2.ex
  clear hH_2
  refine Run.seq ?_
  refine Run.region ?_
  refine RL.val (x_ltI rfl rfl) ?_
  refine RL.nil ?_
  refine Run.seq ?_
  refine Run.cond rfl (fun hc10 => ?_) (fun hc10 => ?_)
  · try simp only [br] at hc10
    refine Run.skip ?_
    refine Run.seq ?_
    refine Run.block ?_
    refine Run.seq ?_
    refine Run.region ?_
    obtain ⟨b_4, o_5, e, hx, ha_6, hc_7⟩ := hs.el (i := i) (by omega)
    have hc_7_lt := hc_7.lt
    replace hc_7 := hc_7.ext K0
    refine RL.val (x_idxN Try.underlying24 ty28 rfl rfl ha_6 (by omega)) ?_
    refine RL.val (x_ldV (v := .agg #[.int .i64 ((e).node), .int .i64 ((e).owner)]) (y := e) ty28 rfl hc_7 rfl) ?_
    refine RL.st rfl <| St1.alloc ty28 ?_
    intro b_10 w_11 hl_14 hb_13 K_12
    replace hb_13 : Blk w_11 b_10 [.int .i64 (0), .int .i64 (0)] 28 := hb_13
    have ne_15 : b_4 < b_10 := Nat.lt_of_lt_of_le hc_7.lt hl_14
    have : w.heap.size ≤ b_10 := Nat.le_trans K0.size hl_14
    clear hl_14
    replace hc_7 := hc_7.ext K_12
    replace K0 := K0.ext K_12
    refine RL.st rfl <| St1.store (v := .agg #[.int .i64 ((e).node), .int .i64 ((e).owner)]) ty28 rfl rfl rfl (by simp [Value.cells, Value.oneCell']) hb_13 (by simp) ?_
    intro w_16 hb_13_ K_17
    have hb_13' : Blk w_16 b_10 [.int .i64 ((e).node), .int .i64 ((e).owner)] 28 := hb_13_
    clear hb_13_
    replace hc_7 := hc_7.keep K_17 (by simp only [one]; omega)
    replace K0 := K0.new K_17 (fun x hx => by simp only [one] at hx; omega)
    replace hb_13 := hb_13'
    clear hb_13'
    refine RL.nil ?_
    refine Run.seq ?_
    refine Run.region ?_
    refine RL.val (x_fld (o' := 0) Try.underlying28 rfl ty3 rfl rfl rfl) ?_
    refine RL.val (x_ld (v := .int .i64 ((e).node)) ty3 rfl rfl (hb_13.cl.field (i := 0) rfl)) ?_
    refine RL.val (x_moveI rfl) ?_
    refine RL.val (x_eqI rfl rfl) ?_
    refine RL.nil ?_
    refine Run.cond rfl (fun hc16 => ?_) (fun hc16 => ?_)
    · try simp only [br] at hc16
      refine Run.seq ?_
      refine Run.region ?_
      refine RL.val (x_assignB rfl) ?_
      refine RL.nil ?_
      refine Run.ret1 (v := .bool (true)) Try.func38 rfl rfl ?_
      exact ⟨_, rfl, by rw [any_at hx (by simpa [isN] using hc16)], K0⟩
    · try simp only [br] at hc16
      refine Run.skip ?_
      refine Run.inBlock ?_
      refine Run.region ?_
      refine RL.val (x_add rfl rfl (by omega) (by omega)) ?_
      refine RL.val (x_moveI rfl) ?_
      refine RL.nil ?_
      refine ih1 (i + 1) _ _ ?_ (by omega)
      refine ⟨⟨rfl, rfl, rfl, rfl, trivial⟩, K0, ?_, ?_⟩
      · omega
      · exact hno.step hx (by simpa [isN] using hc16)
  · try simp only [br] at hc10
    refine Run.exit rfl ?_
    refine Run.seq ?_
    refine Run.region ?_
    refine RL.val (x_assignB rfl) ?_
    refine RL.nil ?_
    refine Run.ret1 (v := .bool (false)) Try.func38 rfl rfl ?_
    exact ⟨_, rfl, by rw [any_no hno (by omega)], K0⟩

set_option maxHeartbeats 4000000 in
theorem refChoose (a0 : Option Addr) (owners : List Int) (c0 : Nat) (a1 : Option Addr) (walk : List Int) (c1 : Nat) (a2 : Option Addr) (up : List Int) (c2 : Nat) (w : World) (h0 : SlOf w a0 owners) (h1 : SlOf w a1 walk) (h2 : SlOf w a2 up) (hl0 : owners.length ≤ 1048576) (hl1 : walk.length ≤ 1048576) (hl2 : up.length ≤ 1048576) :
    Calls Try.prog 13 #[.slice (a0) (owners.length) (c0), .slice (a1) (walk.length) (c1), .slice (a2) (up.length) (c2)] w (Ret (fun v w' => ∃ a' c', v = .slice a' (choose17 owners walk up).length c' ∧ OwnSl w' 28 a' c' (choose17 owners walk up) ∧ (∀ b, own a' b → w.heap.size ≤ b) ∧ Ext w w')) := by
  refine calls_run (n := 56) Try.func13 rfl rfl rfl ?_
  refine Run.seq ?_
  refine Run.region ?_
  refine RL.val (x_assignSl rfl) ?_
  refine RL.nil ?_
  refine Run.seq ?_
  refine Run.region ?_
  refine RL.val (x_assignSl rfl) ?_
  refine RL.nil ?_
  refine Run.seq ?_
  refine Run.seq ?_
  refine Run.region ?_
  refine RL.val (x_moveSl rfl) ?_
  refine RL.val (x_lenSl Try.underlying22 rfl) ?_
  refine RL.val (x_moveI rfl) ?_
  refine RL.nil ?_
  refine Run.block ?_
  refine Run.loop (ι := Nat) (fun i ρ' w' => ∃ al : Option Addr, ∃ cl : Nat, Holds ρ' [(0, .slice (a0) (owners.length) (c0)), (1, .slice (a1) (walk.length) (c1)), (2, .slice (a2) (up.length) (c2)), (7, .slice (al) ((chL owners walk up i).length) (cl)), (12, .slice (a0) (owners.length) (c0)), (13, .int .i64 (((owners.length : Nat) : Int))), (14, .int .i64 (((i : Nat) : Int)))] ∧ Ext w w' ∧ (OwnSl w' 28 al cl (chL owners walk up i)) ∧ (∀ b, own al b → w.heap.size ≤ b) ∧ (i ≤ owners.length)) (fun i => owners.length - i) 0 ?_ ?_
  · rw [chL_zero]
    have ho_5 := OwnSl.nil (α := Target) w 28
    refine ⟨_, _, ⟨rfl, rfl, rfl, rfl, rfl, rfl, rfl, trivial⟩, (Keeps.refl _ w), ho_5, (fun b h1 => absurd h1 (own_none b)), ?_⟩
    · omega
  rintro i ρ_6 w_1 ⟨al, cl, hH_2, K0, ho_3, pr_4, hi⟩ ih1
  obtain ⟨ρ₀, rfl⟩ := hH_2.ex
  clear hH_2
  refine Run.seq ?_
  refine Run.region ?_
  refine RL.val (x_ltI rfl rfl) ?_
  refine RL.nil ?_
  refine Run.seq ?_
  refine Run.cond rfl (fun hc15 => ?_) (fun hc15 => ?_)
  · try simp only [br] at hc15
    refine Run.skip ?_
    refine Run.seq ?_
    refine Run.block ?_
    refine Run.seq ?_
    have hlen := chL_le owners walk up i (by omega)
    refine Run.region ?_
    obtain ⟨b_7, o_8, o, ho, ha_9, hc_10⟩ := h0.el (i := i) (by omega)
    have hc_10_lt := hc_10.lt
    replace hc_10 := hc_10.ext K0
    refine RL.val (x_idxN Try.underlying22 ty3 rfl rfl ha_9 (by omega)) ?_
    refine RL.val (x_ldV (v := .int .i64 (o)) (y := o) ty3 rfl hc_10 rfl) ?_
    refine RL.val (x_assignI rfl) ?_
    refine RL.nil ?_
    refine Run.seq ?_
    refine Run.seq ?_
    refine Run.region ?_
    refine RL.val (x_moveSl rfl) ?_
    refine RL.val (x_moveI rfl) ?_
    refine RL.st rfl <| St1.call (vals := [.slice (a2) (up.length) (c2), .int .i64 (o)]) en37 rfl (has17 _ _ _ _ _ (h2.ext K0) (by omega)) ?_
    rintro _ w_13 ⟨rfl, K_14⟩
    replace ho_3 := ho_3.ext K_14
    replace K0 := K0.ext K_14
    refine RL.nil ?_
    refine Run.cond rfl (fun hc20 => ?_) (fun hc20 => ?_)
    · try simp only [br] at hc20
      refine Run.seq ?_
      refine Run.region ?_
      refine RL.val (x_moveSl rfl) ?_
      refine RL.val (x_moveI rfl) ?_
      refine RL.val (x_build (cells := #[.int .i64 (o), .int .i64 (-1)]) (by kernel_rfl)) ?_
      refine RL.st rfl <| St1.buildSlice ([(⟨o, -1⟩ : Target)] : List Target) Try.underlying24 ty28 rfl rfl (by first | decide | (simp [Enc.size])) ?_
      intro b_15 w_16 hl_19 ho_18 K_17
      have pr_20 : ∀ b, own (some ⟨b_15, 0, none⟩) b → ¬ own al b := apart_new hl_19 ho_3.own_lt
      have pg_21 : ∀ b, own (some ⟨b_15, 0, none⟩) b → w.heap.size ≤ b := ge_new (Nat.le_trans K0.size hl_19)
      clear hl_19
      replace ho_3 := ho_3.ext K_17
      replace K0 := K0.ext K_17
      refine RL.st rfl <| St1.append (xs := chL owners walk up i) (ys := ([(⟨o, -1⟩ : Target)] : List Target)) Try.underlying24 ty28 rfl rfl rfl ho_3 ho_18.sl (by first | omega | (simp only [lr]; omega)) (by decide) ?_
      intro a_22 c_23 w_24 ho_25 K_26 hm_27
      have pr_28 : ∀ b, own a_22 b → ¬ own (some ⟨b_15, 0, none⟩) b := hm_27.apart (fun b h1 h2 => pr_20 b h2 h1) ho_18.own_lt
      have pg_29 : ∀ b, own a_22 b → w.heap.size ≤ b := hm_27.ge pr_4 K0.size
      replace ho_18 := ho_18.keepO K_26 pr_20
      replace K0 := K0.new K_26 pr_4
      clear hm_27
      refine RL.val (x_assignSl rfl) ?_
      refine RL.nil ?_
      refine Run.exit rfl ?_
      refine Run.region ?_
      refine RL.val (x_add rfl rfl (by omega) (by omega)) ?_
      refine RL.val (x_moveI rfl) ?_
      refine RL.nil ?_
      have e := chL_in (walk := walk) ho hc20
      refine ih1 (i + 1) _ _ ?_ (by omega)
      rw [e]
      refine ⟨_, _, ⟨rfl, rfl, rfl, rfl, rfl, rfl, rfl, trivial⟩, K0, ho_25, pg_29, ?_⟩
      · omega
    · try simp only [br] at hc20
      refine Run.skip ?_
      refine Run.seq ?_
      refine Run.region ?_
      refine RL.val (x_moveSl rfl) ?_
      refine RL.val (x_lenSl Try.underlying22 rfl) ?_
      refine RL.val (x_moveI rfl) ?_
      refine RL.nil ?_
      refine Run.block ?_
      refine Run.loop (ι := Nat) (fun k ρ' w' => Holds ρ' [(0, .slice (a0) (owners.length) (c0)), (1, .slice (a1) (walk.length) (c1)), (2, .slice (a2) (up.length) (c2)), (7, .slice (al) ((chL owners walk up i).length) (cl)), (9, .int .i64 (o)), (12, .slice (a0) (owners.length) (c0)), (13, .int .i64 (((owners.length : Nat) : Int))), (14, .int .i64 (((i : Nat) : Int))), (15, .bool (decide (((i : Nat) : Int) < ((owners.length : Nat) : Int)))), (26, .slice (a1) (walk.length) (c1)), (27, .int .i64 (((walk.length : Nat) : Int))), (28, .int .i64 (((k : Nat) : Int)))] ∧ Ext w w' ∧ (OwnSl w' 28 (al) (cl) (chL owners walk up i)) ∧ (k ≤ walk.length) ∧ (NoB (fits owners up (chL owners walk up i)) walk k)) (fun k => walk.length - k) 0 ?_ ?_
      · refine ⟨⟨rfl, rfl, rfl, rfl, rfl, rfl, rfl, rfl, rfl, rfl, rfl, rfl, trivial⟩, K0, ho_3, ?_, ?_⟩
        · omega
        · exact NoB.zero _ _
      clear ho_3
      clear K0
      rintro k ρ_32 w_30 ⟨hH_31, K0, ho_3, hk, hno⟩ ih2
      obtain ⟨ρ₀, rfl⟩ := hH_31.ex
      clear hH_31
      refine Run.seq ?_
      refine Run.region ?_
      refine RL.val (x_ltI rfl rfl) ?_
      refine RL.nil ?_
      refine Run.seq ?_
      refine Run.cond rfl (fun hc29 => ?_) (fun hc29 => ?_)
      · try simp only [br] at hc29
        refine Run.skip ?_
        refine Run.seq ?_
        refine Run.block ?_
        refine Run.seq ?_
        refine Run.region ?_
        obtain ⟨b_33, o_34, n, hn, ha_35, hc_36⟩ := h1.el (i := k) (by omega)
        have hc_36_lt := hc_36.lt
        replace hc_36 := hc_36.ext K0
        refine RL.val (x_idxN Try.underlying22 ty3 rfl rfl ha_35 (by omega)) ?_
        refine RL.val (x_ldV (v := .int .i64 (n)) (y := n) ty3 rfl hc_36 rfl) ?_
        refine RL.val (x_assignI rfl) ?_
        refine RL.nil ?_
        refine Run.seq ?_
        refine Run.region ?_
        refine RL.val (x_moveSl rfl) ?_
        refine RL.val (x_moveI rfl) ?_
        refine RL.st rfl <| St1.call (vals := [.slice (a2) (up.length) (c2), .int .i64 (n)]) en37 rfl (has17 _ _ _ _ _ (h2.ext K0) (by omega)) ?_
        rintro _ w_39 ⟨rfl, K_40⟩
        replace ho_3 := ho_3.ext K_40
        replace K0 := K0.ext K_40
        refine RL.val (x_moveB rfl) ?_
        refine RL.gval (wantedT rfl rfl rfl rfl) (fun hg => (x_moveSl rfl)) ?_
        refine RL.gval (wantedT rfl rfl rfl rfl) (fun hg => (x_moveI rfl)) ?_
        refine RL.gcall (vals := [.slice (a0) (owners.length) (c0), .int .i64 (n)]) (wantedT rfl rfl rfl rfl) en37 (fun hg => (mcons (gvr hg) (mcons (gvr hg) mnil))) (fun hg => (has17 _ _ _ _ _ (h0.ext K0) (by omega))) ?_
        intro w_41 K_42
        replace ho_3 := ho_3.ext K_42
        replace K0 := K0.ext K_42
        refine RL.gval (wantedT rfl rfl rfl rfl) (fun hg => (x_not (gvr hg))) ?_
        refine RL.val (x_and rfl rfl rfl) ?_
        refine RL.val (x_moveB rfl) ?_
        refine RL.gval (wantedT rfl rfl rfl rfl) (fun hg => (x_moveSl rfl)) ?_
        refine RL.gval (wantedT rfl rfl rfl rfl) (fun hg => (x_moveI rfl)) ?_
        refine RL.gcall (vals := [.slice (al) ((chL owners walk up i).length) (cl), .int .i64 (n)]) (wantedT rfl rfl rfl rfl) en38 (fun hg => (mcons (gvr hg) (mcons (gvr hg) mnil))) (fun hg => (used17 _ _ _ _ _ ho_3.sl (by omega))) ?_
        intro w_43 K_44
        replace ho_3 := ho_3.ext K_44
        replace K0 := K0.ext K_44
        refine RL.gval (wantedT rfl rfl rfl rfl) (fun hg => (x_not (gvr hg))) ?_
        refine RL.val (x_and rfl rfl rfl) ?_
        refine RL.nil ?_
        refine Run.cond rfl (fun hc46 => ?_) (fun hc46 => ?_)
        · try simp only [br] at hc46
          refine Run.seq ?_
          refine Run.region ?_
          refine RL.val (x_moveSl rfl) ?_
          refine RL.val (x_moveI rfl) ?_
          refine RL.val (x_moveI rfl) ?_
          refine RL.val (x_build (cells := #[.int .i64 (n), .int .i64 (o)]) (by kernel_rfl)) ?_
          refine RL.st rfl <| St1.buildSlice ([(⟨n, o⟩ : Target)] : List Target) Try.underlying24 ty28 rfl rfl (by first | decide | (simp [Enc.size])) ?_
          intro b_45 w_46 hl_49 ho_48 K_47
          have pr_50 : ∀ b, own (some ⟨b_45, 0, none⟩) b → ¬ own al b := apart_new hl_49 ho_3.own_lt
          have pg_51 : ∀ b, own (some ⟨b_45, 0, none⟩) b → w.heap.size ≤ b := ge_new (Nat.le_trans K0.size hl_49)
          clear hl_49
          replace ho_3 := ho_3.ext K_47
          replace K0 := K0.ext K_47
          refine RL.st rfl <| St1.append (xs := chL owners walk up i) (ys := ([(⟨n, o⟩ : Target)] : List Target)) Try.underlying24 ty28 rfl rfl rfl ho_3 ho_48.sl (by first | omega | (simp only [lr]; omega)) (by decide) ?_
          intro a_52 c_53 w_54 ho_55 K_56 hm_57
          have pr_58 : ∀ b, own a_52 b → ¬ own (some ⟨b_45, 0, none⟩) b := hm_57.apart (fun b h1 h2 => pr_50 b h2 h1) ho_48.own_lt
          have pg_59 : ∀ b, own a_52 b → w.heap.size ≤ b := hm_57.ge pr_4 K0.size
          replace ho_48 := ho_48.keepO K_56 pr_50
          replace K0 := K0.new K_56 pr_4
          clear hm_57
          refine RL.val (x_assignSl rfl) ?_
          refine RL.nil ?_
          refine Run.exit rfl ?_
          refine Run.inBlock ?_
          refine Run.region ?_
          refine RL.val (x_add rfl rfl (by omega) (by omega)) ?_
          refine RL.val (x_moveI rfl) ?_
          refine RL.nil ?_
          have e := chL_at ho hc20 hn (by simp [fits, hc46]) hno
          refine ih1 (i + 1) _ _ ?_ (by omega)
          rw [e]
          refine ⟨_, _, ⟨rfl, rfl, rfl, rfl, rfl, rfl, rfl, trivial⟩, K0, ho_55, pg_59, ?_⟩
          · omega
        · try simp only [br] at hc46
          refine Run.skip ?_
          refine Run.inBlock ?_
          refine Run.region ?_
          refine RL.val (x_add rfl rfl (by omega) (by omega)) ?_
          refine RL.val (x_moveI rfl) ?_
          refine RL.nil ?_
          refine ih2 (k + 1) _ _ ?_ (by omega)
          refine ⟨⟨rfl, rfl, rfl, rfl, rfl, rfl, rfl, rfl, rfl, rfl, rfl, rfl, trivial⟩, K0, ho_3, ?_, ?_⟩
          · omega
          · exact hno.step hn (by rcases hc46 with (h | h) | h <;> unfold fits <;> rw [h] <;> simp)
      · try simp only [br] at hc29
        refine Run.exit rfl ?_
        refine Run.inBlock ?_
        refine Run.region ?_
        refine RL.val (x_add rfl rfl (by omega) (by omega)) ?_
        refine RL.val (x_moveI rfl) ?_
        refine RL.nil ?_
        have e := chL_no ho hc20 hno (by omega)
        refine ih1 (i + 1) _ _ ?_ (by omega)
        rw [e]
        refine ⟨_, _, ⟨rfl, rfl, rfl, rfl, rfl, rfl, rfl, trivial⟩, K0, ho_3, pr_4, ?_⟩
        · omega
  · try simp only [br] at hc15
    refine Run.exit rfl ?_
    refine Run.seq ?_
    refine Run.region ?_
    refine RL.val (x_moveSl rfl) ?_
    refine RL.val (x_assignSl rfl) ?_
    refine RL.nil ?_
    refine Run.ret1 (v := .slice (al) ((chL owners walk up i).length) (cl)) Try.func13 rfl rfl ?_
    obtain rfl : i = owners.length := by omega
    exact ⟨_, rfl, al, cl, rfl, ho_3, pr_4, K0⟩

set_option maxHeartbeats 4000000 in
theorem choose11 (t : Target) (bn : Nat) (n : Int) (w : World) (hbn : Blk w bn [.int .i64 n] 3) :
    Calls Try.prog 34 #[.agg #[.int .i64 ((t).node), .int .i64 ((t).owner)], .pointer (some ⟨bn, 0, none⟩)] w (Ret (fun v w' => v = .bool (isN n t) ∧ Ext w w')) := by
  refine calls_run (n := 8) Try.func34 rfl rfl rfl ?_
  refine Run.seq ?_
  refine Run.region ?_
  refine RL.st rfl <| St1.box (v := .agg #[.int .i64 ((t).node), .int .i64 ((t).owner)]) rfl ?_
  intro b_1 w_2 hl_5 hb_4 K_3
  replace hb_4 : Blk w_2 b_1 [.int .i64 ((t).node), .int .i64 ((t).owner)] 28 := hb_4
  have ne_6 : bn < b_1 := Nat.lt_of_lt_of_le hbn.lt hl_5
  have : w.heap.size ≤ b_1 := hl_5
  clear hl_5
  replace hbn := hbn.ext K_3
  have K0 := (K_3 : Ext w _)
  refine RL.val (x_assignB rfl) ?_
  refine RL.nil ?_
  refine Run.seq ?_
  refine Run.region ?_
  refine RL.val (x_fld (o' := 0) Try.underlying28 rfl ty3 rfl rfl rfl) ?_
  refine RL.val (x_ld (v := .int .i64 ((t).node)) ty3 rfl rfl (hb_4.cl.field (i := 0) rfl)) ?_
  refine RL.val (x_ld (v := .int .i64 (n)) ty3 rfl rfl (hbn.cl.field (i := 0) rfl)) ?_
  refine RL.val (x_eqI rfl rfl) ?_
  refine RL.val (x_assignB rfl) ?_
  refine RL.nil ?_
  refine Run.ret1 (v := .bool (((t).node) == n)) Try.func34 rfl rfl ?_
  exact ⟨_, rfl, rfl, K0⟩

set_option maxHeartbeats 4000000 in
theorem choose1 (n : Int) (bl : Nat) (al : Option Addr) (l : List Target) (cl : Nat) (w : World) (hbl : Blk w bl [.slice al l.length cl] 24) (hl : SlOf w al l) (hll : l.length ≤ 4294967295) :
    Calls Try.prog 32 #[.int .i64 (n), .pointer (some ⟨bl, 0, none⟩)] w (Ret (fun v w' => v = .bool (l.any (isN n)) ∧ Ext w w')) := by
  refine calls_run (n := 7) Try.func32 rfl rfl rfl ?_
  refine Run.seq ?_
  refine Run.region ?_
  refine RL.st rfl <| St1.box (v := .int .i64 (n)) rfl ?_
  intro b_1 w_2 hl_5 hb_4 K_3
  replace hb_4 : Blk w_2 b_1 [.int .i64 (n)] 3 := hb_4
  have ne_6 : bl < b_1 := Nat.lt_of_lt_of_le hbl.lt hl_5
  have : w.heap.size ≤ b_1 := hl_5
  clear hl_5
  replace hbl := hbl.ext K_3
  have K0 := (K_3 : Ext w _)
  refine RL.val (x_assignB rfl) ?_
  refine RL.nil ?_
  refine Run.seq ?_
  refine Run.region ?_
  refine RL.val (x_ld (v := .slice (al) (l.length) (cl)) ty24 rfl rfl (hbl.cl.field (i := 0) rfl)) ?_
  refine RL.val (x_mkFunc (a := []) (c := [.pointer (some ⟨b_1, 0, none⟩)]) rfl rfl) ?_
  refine RL.st rfl <| St1.call (vals := [.slice (al) (l.length) (cl), .func (.func 34) #[] #[.pointer (some ⟨b_1, 0, none⟩)]]) en33 rfl (containsFunc_target _ _ _ 34 _ (isN n) en34 _ (hl.ext K0) (by omega) (fun x _ w' K' => choose11 x b_1 n w' (hb_4.ext K'))) ?_
  rintro _ w_7 ⟨rfl, K_8⟩
  replace hbl := hbl.ext K_8
  replace hb_4 := hb_4.ext K_8
  replace K0 := K0.ext K_8
  refine RL.val (x_assignB rfl) ?_
  refine RL.nil ?_
  refine Run.ret1 (v := .bool (l.any (isN n))) Try.func32 rfl rfl ?_
  exact ⟨_, rfl, rfl, K0⟩

set_option maxHeartbeats 4000000 in
theorem choose2 (n : Int) (bu bo bt bl : Nat) (au ao al : Option Addr) (up owners : List Int) (l : List Target) (cu co cl : Nat) (w : World) (hbu : Blk w bu [.slice au up.length cu] 22) (hbo : Blk w bo [.slice ao owners.length co] 22) (hbt : Blk w bt [.func (.func 32) #[] #[.pointer (some ⟨bl, 0, none⟩)]] 68) (hbl : Blk w bl [.slice al l.length cl] 24) (hu : SlOf w au up) (ho : SlOf w ao owners) (hl : SlOf w al l) (hlu : up.length ≤ 4294967295) (hlo : owners.length ≤ 4294967295) (hll : l.length ≤ 4294967295) :
    Calls Try.prog 36 #[.int .i64 (n), .pointer (some ⟨bu, 0, none⟩), .pointer (some ⟨bo, 0, none⟩), .pointer (some ⟨bt, 0, none⟩)] w (Ret (fun v w' => v = .bool (fits owners up l n) ∧ Ext w w')) := by
  refine calls_run (n := 21) Try.func36 rfl rfl rfl ?_
  refine Run.seq ?_
  refine Run.region ?_
  refine RL.val (x_assignB rfl) ?_
  refine RL.nil ?_
  refine Run.seq ?_
  refine Run.region ?_
  refine RL.val (x_ld (v := .slice (au) (up.length) (cu)) ty22 rfl rfl (hbu.cl.field (i := 0) rfl)) ?_
  refine RL.val (x_moveI rfl) ?_
  refine RL.st rfl <| St1.call (vals := [.slice (au) (up.length) (cu), .int .i64 (n)]) en15 rfl (contains_int _ _ _ _ _ hu (by omega)) ?_
  rintro _ w_1 ⟨rfl, K_2⟩
  replace hbu := hbu.ext K_2
  replace hbo := hbo.ext K_2
  replace hbt := hbt.ext K_2
  replace hbl := hbl.ext K_2
  have K0 := (K_2 : Ext w _)
  refine RL.val (x_moveB rfl) ?_
  refine RL.gval (wantedT rfl rfl rfl rfl) (fun hg => (x_ld (v := .slice (ao) (owners.length) (co)) ty22 rfl rfl (hbo.cl.field (i := 0) rfl))) ?_
  refine RL.gval (wantedT rfl rfl rfl rfl) (fun hg => (x_moveI rfl)) ?_
  refine RL.gcall (vals := [.slice (ao) (owners.length) (co), .int .i64 (n)]) (wantedT rfl rfl rfl rfl) en15 (fun hg => (mcons (gvr hg) (mcons (gvr hg) mnil))) (fun hg => (contains_int _ _ _ _ _ (ho.ext K0) (by omega))) ?_
  intro w_3 K_4
  replace hbu := hbu.ext K_4
  replace hbo := hbo.ext K_4
  replace hbt := hbt.ext K_4
  replace hbl := hbl.ext K_4
  replace K0 := K0.ext K_4
  refine RL.gval (wantedT rfl rfl rfl rfl) (fun hg => (x_not (gvr hg))) ?_
  refine RL.val (x_and rfl rfl rfl) ?_
  refine RL.val (x_moveB rfl) ?_
  refine RL.gval (wantedT rfl rfl rfl rfl) (fun hg => (x_ld (v := .func (.func 32) #[] #[.pointer (some ⟨bl, 0, none⟩)]) ty68 rfl rfl (hbt.cl.field (i := 0) rfl))) ?_
  refine RL.gval (wantedT rfl rfl rfl rfl) (fun hg => (x_moveI rfl)) ?_
  refine RL.gcallV (avals := [.int .i64 (n)]) (vals := [.int .i64 (n), .pointer (some ⟨bl, 0, none⟩)]) (wantedT rfl rfl rfl rfl) en32 (fun hg => (gvr hg)) (fun hg => (mcons (gvr hg) mnil)) rfl (fun hg => (choose1 n bl al l cl _ hbl (hl.ext K0) (by omega))) ?_
  intro w_5 K_6
  replace hbu := hbu.ext K_6
  replace hbo := hbo.ext K_6
  replace hbt := hbt.ext K_6
  replace hbl := hbl.ext K_6
  replace K0 := K0.ext K_6
  refine RL.gval (wantedT rfl rfl rfl rfl) (fun hg => (x_not (gvr hg))) ?_
  refine RL.val (x_and rfl rfl rfl) ?_
  refine RL.val (x_assignB rfl) ?_
  refine RL.nil ?_
  refine Run.ret1 (v := .bool (((up.any (n == ·)) && (!(owners.any (n == ·)))) && (!(l.any (isN n))))) Try.func36 rfl rfl ?_
  exact ⟨_, rfl, rfl, K0⟩

set_option maxHeartbeats 4000000 in
theorem choose (a0 : Option Addr) (owners : List Int) (c0 : Nat) (a1 : Option Addr) (walk : List Int) (c1 : Nat) (a2 : Option Addr) (up : List Int) (c2 : Nat) (w : World) (h0 : SlOf w a0 owners) (h1 : SlOf w a1 walk) (h2 : SlOf w a2 up) (hl0 : owners.length ≤ 1048576) (hl1 : walk.length ≤ 1048576) (hl2 : up.length ≤ 1048576) :
    Calls Try.prog 11 #[.slice (a0) (owners.length) (c0), .slice (a1) (walk.length) (c1), .slice (a2) (up.length) (c2)] w (Ret (fun v w' => ∃ a' c', v = .slice a' (choose17 owners walk up).length c' ∧ OwnSl w' 28 a' c' (choose17 owners walk up) ∧ (∀ b, own a' b → w.heap.size ≤ b) ∧ Ext w w')) := by
  refine calls_run (n := 43) Try.func11 rfl rfl rfl ?_
  refine Run.seq ?_
  refine Run.region ?_
  refine RL.st rfl <| St1.box (v := .slice (a0) (owners.length) (c0)) rfl ?_
  intro b_1 w_2 hl_5 hb_4 K_3
  replace hb_4 : Blk w_2 b_1 [.slice (a0) (owners.length) (c0)] 22 := hb_4
  have : w.heap.size ≤ b_1 := hl_5
  clear hl_5
  have K0 := (K_3 : Ext w _)
  refine RL.st rfl <| St1.box (v := .slice (a2) (up.length) (c2)) rfl ?_
  intro b_6 w_7 hl_10 hb_9 K_8
  replace hb_9 : Blk w_7 b_6 [.slice (a2) (up.length) (c2)] 22 := hb_9
  have ne_11 : b_1 < b_6 := Nat.lt_of_lt_of_le hb_4.lt hl_10
  have : w.heap.size ≤ b_6 := Nat.le_trans K0.size hl_10
  clear hl_10
  replace hb_4 := hb_4.ext K_8
  replace K0 := K0.ext K_8
  refine RL.val (x_assignSl rfl) ?_
  refine RL.nil ?_
  refine Run.seq ?_
  refine Run.region ?_
  refine RL.st rfl <| St1.alloc ty24 ?_
  intro b_12 w_13 hl_16 hb_15 K_14
  replace hb_15 : Blk w_13 b_12 [.slice (none) (0) (0)] 24 := hb_15
  have ne_17 : b_1 < b_12 := Nat.lt_of_lt_of_le hb_4.lt hl_16
  have ne_18 : b_6 < b_12 := Nat.lt_of_lt_of_le hb_9.lt hl_16
  have : w.heap.size ≤ b_12 := Nat.le_trans K0.size hl_16
  clear hl_16
  replace hb_4 := hb_4.ext K_14
  replace hb_9 := hb_9.ext K_14
  replace K0 := K0.ext K_14
  refine RL.nil ?_
  refine Run.seq ?_
  refine Run.region ?_
  refine RL.val (x_mkFunc (a := []) (c := [.pointer (some ⟨b_12, 0, none⟩)]) rfl rfl) ?_
  refine RL.st rfl <| St1.alloc ty68 ?_
  intro b_19 w_20 hl_23 hb_22 K_21
  replace hb_22 : Blk w_20 b_19 [.nilFunc] 68 := hb_22
  have ne_24 : b_1 < b_19 := Nat.lt_of_lt_of_le hb_4.lt hl_23
  have ne_25 : b_6 < b_19 := Nat.lt_of_lt_of_le hb_9.lt hl_23
  have ne_26 : b_12 < b_19 := Nat.lt_of_lt_of_le hb_15.lt hl_23
  have : w.heap.size ≤ b_19 := Nat.le_trans K0.size hl_23
  clear hl_23
  replace hb_4 := hb_4.ext K_21
  replace hb_9 := hb_9.ext K_21
  replace hb_15 := hb_15.ext K_21
  replace K0 := K0.ext K_21
  refine RL.st rfl <| St1.store (v := .func (.func 32) #[] #[.pointer (some ⟨b_12, 0, none⟩)]) ty68 rfl rfl rfl (by simp [Value.cells, Value.oneCell']) hb_22 (by simp) ?_
  intro w_27 hb_22_ K_28
  have hb_22' : Blk w_27 b_19 [.func (.func 32) #[] #[.pointer (some ⟨b_12, 0, none⟩)]] 68 := hb_22_
  clear hb_22_
  replace hb_4 := hb_4.keep K_28 (by simp only [one]; omega)
  replace hb_9 := hb_9.keep K_28 (by simp only [one]; omega)
  replace hb_15 := hb_15.keep K_28 (by simp only [one]; omega)
  replace K0 := K0.new K_28 (fun x hx => by simp only [one] at hx; omega)
  replace hb_22 := hb_22'
  clear hb_22'
  refine RL.nil ?_
  refine Run.seq ?_
  refine Run.seq ?_
  refine Run.region ?_
  refine RL.val (x_ld (v := .slice (a0) (owners.length) (c0)) ty22 rfl rfl (hb_4.cl.field (i := 0) rfl)) ?_
  refine RL.val (x_lenSl Try.underlying22 rfl) ?_
  refine RL.val (x_moveI rfl) ?_
  refine RL.nil ?_
  refine Run.block ?_
  refine Run.loop (ι := Nat) (fun i ρ' w' => ∃ al : Option Addr, ∃ cl : Nat, Holds ρ' [(1, .slice (a1) (walk.length) (c1)), (3, .pointer (some ⟨b_1, 0, none⟩)), (5, .pointer (some ⟨b_6, 0, none⟩)), (7, .pointer (some ⟨b_12, 0, none⟩)), (8, .pointer (some ⟨b_19, 0, none⟩)), (13, .slice (a0) (owners.length) (c0)), (14, .int .i64 (((owners.length : Nat) : Int))), (15, .int .i64 (((i : Nat) : Int)))] ∧ Ext w w' ∧ (Blk w' b_1 [.slice (a0) (owners.length) (c0)] 22) ∧ (Blk w' b_6 [.slice (a2) (up.length) (c2)] 22) ∧ (Blk w' b_12 [.slice (al) ((chL owners walk up i).length) (cl)] 24) ∧ (Blk w' b_19 [.func (.func 32) #[] #[.pointer (some ⟨b_12, 0, none⟩)]] 68) ∧ (OwnSl w' 28 al cl (chL owners walk up i)) ∧ (¬ own al b_1) ∧ (¬ own al b_6) ∧ (¬ own al b_12) ∧ (¬ own al b_19) ∧ (∀ b, own al b → w.heap.size ≤ b) ∧ (i ≤ owners.length)) (fun i => owners.length - i) 0 ?_ ?_
  · rw [chL_zero]
    have ho_37 := OwnSl.nil (α := Target) w_27 28
    refine ⟨_, _, ⟨rfl, rfl, rfl, rfl, rfl, rfl, rfl, rfl, trivial⟩, K0, hb_4, hb_9, hb_15, hb_22, ho_37, (own_none _), (own_none _), (own_none _), (own_none _), (fun b h1 => absurd h1 (own_none b)), ?_⟩
    · omega
  clear hb_4 hb_9 hb_15 hb_22
  clear K0
  rintro i ρ_38 w_29 ⟨al, cl, hH_30, K0, hb_4, hb_9, hb_15, hb_22, ho_31, pr_32, pr_33, pr_34, pr_35, pr_36, hi⟩ ih1
  obtain ⟨ρ₀, rfl⟩ := hH_30.ex
  clear hH_30
  refine Run.seq ?_
  refine Run.region ?_
  refine RL.val (x_ltI rfl rfl) ?_
  refine RL.nil ?_
  refine Run.seq ?_
  refine Run.cond rfl (fun hc16 => ?_) (fun hc16 => ?_)
  · try simp only [br] at hc16
    refine Run.skip ?_
    refine Run.seq ?_
    refine Run.block ?_
    refine Run.seq ?_
    have hlen := chL_le owners walk up i (by omega)
    refine Run.region ?_
    obtain ⟨b_39, o_40, o, ho, ha_41, hc_42⟩ := h0.el (i := i) (by omega)
    have hc_42_lt := hc_42.lt
    replace hc_42 := hc_42.ext K0
    refine RL.val (x_idxN Try.underlying22 ty3 rfl rfl ha_41 (by omega)) ?_
    refine RL.val (x_ldV (v := .int .i64 (o)) (y := o) ty3 rfl hc_42 rfl) ?_
    refine RL.val (x_assignI rfl) ?_
    refine RL.nil ?_
    refine Run.seq ?_
    refine Run.seq ?_
    refine Run.region ?_
    refine RL.val (x_ld (v := .slice (a2) (up.length) (c2)) ty22 rfl rfl (hb_9.cl.field (i := 0) rfl)) ?_
    refine RL.val (x_moveI rfl) ?_
    refine RL.st rfl <| St1.call (vals := [.slice (a2) (up.length) (c2), .int .i64 (o)]) en15 rfl (contains_int _ _ _ _ _ (h2.ext K0) (by omega)) ?_
    rintro _ w_45 ⟨rfl, K_46⟩
    replace hb_4 := hb_4.ext K_46
    replace hb_9 := hb_9.ext K_46
    replace hb_15 := hb_15.ext K_46
    replace hb_22 := hb_22.ext K_46
    replace ho_31 := ho_31.ext K_46
    replace K0 := K0.ext K_46
    refine RL.nil ?_
    refine Run.cond rfl (fun hc21 => ?_) (fun hc21 => ?_)
    · try simp only [br] at hc21
      refine Run.seq ?_
      refine Run.region ?_
      refine RL.val (x_ld (v := .slice (al) ((chL owners walk up i).length) (cl)) ty24 rfl rfl (hb_15.cl.field (i := 0) rfl)) ?_
      refine RL.val (x_moveI rfl) ?_
      refine RL.val (x_build (cells := #[.int .i64 (o), .int .i64 (-1)]) (by kernel_rfl)) ?_
      refine RL.st rfl <| St1.buildSlice ([(⟨o, -1⟩ : Target)] : List Target) Try.underlying24 ty28 rfl rfl (by first | decide | (simp [Enc.size])) ?_
      intro b_47 w_48 hl_51 ho_50 K_49
      have pr_52 : ¬ own (some ⟨b_47, 0, none⟩) b_1 := notOwn_new hl_51 hb_4.lt
      have pr_53 : ¬ own (some ⟨b_47, 0, none⟩) b_6 := notOwn_new hl_51 hb_9.lt
      have pr_54 : ¬ own (some ⟨b_47, 0, none⟩) b_12 := notOwn_new hl_51 hb_15.lt
      have pr_55 : ¬ own (some ⟨b_47, 0, none⟩) b_19 := notOwn_new hl_51 hb_22.lt
      have pr_56 : ∀ b, own (some ⟨b_47, 0, none⟩) b → ¬ own al b := apart_new hl_51 ho_31.own_lt
      have pg_57 : ∀ b, own (some ⟨b_47, 0, none⟩) b → w.heap.size ≤ b := ge_new (Nat.le_trans K0.size hl_51)
      clear hl_51
      replace hb_4 := hb_4.ext K_49
      replace hb_9 := hb_9.ext K_49
      replace hb_15 := hb_15.ext K_49
      replace hb_22 := hb_22.ext K_49
      replace ho_31 := ho_31.ext K_49
      replace K0 := K0.ext K_49
      refine RL.st rfl <| St1.append (xs := chL owners walk up i) (ys := ([(⟨o, -1⟩ : Target)] : List Target)) Try.underlying24 ty28 rfl rfl rfl ho_31 ho_50.sl (by first | omega | (simp only [lr]; omega)) (by decide) ?_
      intro a_58 c_59 w_60 ho_61 K_62 hm_63
      have pr_64 : ¬ own a_58 b_1 := hm_63.notOwn pr_32 hb_4.lt
      have pr_65 : ¬ own a_58 b_6 := hm_63.notOwn pr_33 hb_9.lt
      have pr_66 : ¬ own a_58 b_12 := hm_63.notOwn pr_34 hb_15.lt
      have pr_67 : ¬ own a_58 b_19 := hm_63.notOwn pr_35 hb_22.lt
      have pr_68 : ∀ b, own a_58 b → ¬ own (some ⟨b_47, 0, none⟩) b := hm_63.apart (fun b h1 h2 => pr_56 b h2 h1) ho_50.own_lt
      have pg_69 : ∀ b, own a_58 b → w.heap.size ≤ b := hm_63.ge pr_36 K0.size
      replace hb_4 := hb_4.keep K_62 pr_32
      replace hb_9 := hb_9.keep K_62 pr_33
      replace hb_15 := hb_15.keep K_62 pr_34
      replace hb_22 := hb_22.keep K_62 pr_35
      replace ho_50 := ho_50.keepO K_62 pr_56
      replace K0 := K0.new K_62 pr_36
      clear hm_63
      refine RL.st rfl <| St1.store (v := .slice (a_58) (((chL owners walk up i) ++ ([(⟨o, -1⟩ : Target)] : List Target)).length) (c_59)) ty24 rfl rfl rfl (by simp [Value.cells, Value.oneCell']) hb_15 (by simp) ?_
      intro w_70 hb_15_ K_71
      have hb_15' : Blk w_70 b_12 [.slice (a_58) (((chL owners walk up i) ++ ([(⟨o, -1⟩ : Target)] : List Target)).length) (c_59)] 24 := hb_15_
      clear hb_15_
      replace hb_4 := hb_4.keep K_71 (by simp only [one]; omega)
      replace hb_9 := hb_9.keep K_71 (by simp only [one]; omega)
      replace hb_22 := hb_22.keep K_71 (by simp only [one]; omega)
      replace ho_50 := ho_50.keepO K_71 (fun b hb e => pr_54 (by simp only [one] at e; subst e; exact hb))
      replace ho_61 := ho_61.keepO K_71 (fun b hb e => pr_66 (by simp only [one] at e; subst e; exact hb))
      replace K0 := K0.new K_71 (fun x hx => by simp only [one] at hx; omega)
      replace hb_15 := hb_15'
      clear hb_15'
      refine RL.nil ?_
      refine Run.exit rfl ?_
      refine Run.region ?_
      refine RL.val (x_add rfl rfl (by omega) (by omega)) ?_
      refine RL.val (x_moveI rfl) ?_
      refine RL.nil ?_
      have e := chL_in (walk := walk) ho hc21
      refine ih1 (i + 1) _ _ ?_ (by omega)
      rw [e]
      refine ⟨_, _, ⟨rfl, rfl, rfl, rfl, rfl, rfl, rfl, rfl, trivial⟩, K0, hb_4, hb_9, hb_15, hb_22, ho_61, pr_64, pr_65, pr_66, pr_67, pg_69, ?_⟩
      · omega
    · try simp only [br] at hc21
      refine Run.skip ?_
      refine Run.seq ?_
      refine Run.region ?_
      refine RL.val (x_moveSl rfl) ?_
      refine RL.val (x_mkFunc (a := []) (c := [.pointer (some ⟨b_6, 0, none⟩), .pointer (some ⟨b_1, 0, none⟩), .pointer (some ⟨b_19, 0, none⟩)]) rfl rfl) ?_
      refine RL.st rfl <| St1.call (vals := [.slice (a1) (walk.length) (c1), .func (.func 36) #[] #[.pointer (some ⟨b_6, 0, none⟩), .pointer (some ⟨b_1, 0, none⟩), .pointer (some ⟨b_19, 0, none⟩)]]) en35 rfl (indexFunc_int _ _ _ 36 _ (fits owners up (chL owners walk up i)) en36 _ (h1.ext K0) (by omega) (fun x _ w' K' => choose2 x b_6 b_1 b_19 b_12 a2 a0 al up owners (chL owners walk up i) c2 c0 cl w' (hb_9.ext K') (hb_4.ext K') (hb_22.ext K') (hb_15.ext K') ((h2.ext K0).ext K') ((h0.ext K0).ext K') (ho_31.sl.ext K') (by omega) (by omega) (by omega))) ?_
      rintro _ w_72 ⟨rfl, K_73⟩
      replace hb_4 := hb_4.ext K_73
      replace hb_9 := hb_9.ext K_73
      replace hb_15 := hb_15.ext K_73
      replace hb_22 := hb_22.ext K_73
      replace ho_31 := ho_31.ext K_73
      replace K0 := K0.ext K_73
      generalize hfi : findI (fits owners up (chL owners walk up i)) walk = fi
      refine RL.val (x_assignI rfl) ?_
      refine RL.nil ?_
      refine Run.seq ?_
      refine Run.region ?_
      refine RL.val (x_moveI rfl) ?_
      refine RL.val (x_geI rfl rfl) ?_
      refine RL.nil ?_
      refine Run.cond rfl (fun hc31 => ?_) (fun hc31 => ?_)
      · try simp only [br] at hc31
        obtain ⟨k, rfl, hk, hp, hno⟩ := findI_some hfi hc31
        obtain ⟨b_77, o_78, n, hn, ha_79, hc_80⟩ := h1.el (i := k) (by omega)
        have hc_80_lt := hc_80.lt
        replace hc_80 := hc_80.ext K0
        refine Run.drawT [0, 1, 2, 3, 4, 5, 6, 7, 8] (m := 10) (by kernel_rfl) rfl ?_
        intro w_74 K_75
        replace hb_4 := hb_4.ext K_75
        replace hb_9 := hb_9.ext K_75
        replace hb_15 := hb_15.ext K_75
        replace hb_22 := hb_22.ext K_75
        replace ho_31 := ho_31.ext K_75
        replace hc_80 := hc_80.ext K_75
        replace K0 := K0.ext K_75
        refine ⟨fun w' => Blk w' b_12 [.slice (al) ((chL owners walk up i).length) (cl)] 24 ∧ Cl w' b_77 (o_78 + k * 1) (cellsOf n) ∧ True, ?_⟩
        refine RT.take (v := .slice (al) ((chL owners walk up i).length) (cl)) 0 rfl (by kernel_rfl) ⟨hb_15, hc_80, trivial⟩ (by rintro _ ⟨hb_15, hc_80, -⟩; exact (x_ld (v := .slice (al) ((chL owners walk up i).length) (cl)) ty24 rfl rfl (hb_15.cl.field (i := 0) rfl))) ?_
        refine RT.take (v := .slice (a1) (walk.length) (c1)) 1 rfl (by kernel_rfl) ⟨hb_15, hc_80, trivial⟩ (by rintro _ ⟨hb_15, hc_80, -⟩; exact (x_moveSl rfl)) ?_
        refine RT.take (v := .int .i64 (((k : Nat) : Int))) 2 rfl (by kernel_rfl) ⟨hb_15, hc_80, trivial⟩ (by rintro _ ⟨hb_15, hc_80, -⟩; exact (x_moveI rfl)) ?_
        refine RT.take (v := .pointer (some ⟨b_77, o_78 + k * 1, none⟩)) 3 rfl (by kernel_rfl) ⟨hb_15, hc_80, trivial⟩ (by rintro _ ⟨hb_15, hc_80, -⟩; exact (x_idxN Try.underlying22 ty3 rfl rfl ha_79 (by omega))) ?_
        refine RT.take (v := .int .i64 (n)) 4 rfl (by kernel_rfl) ⟨hb_15, hc_80, trivial⟩ (by rintro _ ⟨hb_15, hc_80, -⟩; exact (x_ldV (v := .int .i64 (n)) (y := n) ty3 rfl hc_80 rfl)) ?_
        refine RT.take (v := .int .i64 (o)) 5 rfl (by kernel_rfl) ⟨hb_15, hc_80, trivial⟩ (by rintro _ ⟨hb_15, hc_80, -⟩; exact (x_moveI rfl)) ?_
        refine RT.take (v := .agg #[.int .i64 (n), .int .i64 (o)]) 6 rfl (by kernel_rfl) ⟨hb_15, hc_80, trivial⟩ (by rintro _ ⟨hb_15, hc_80, -⟩; exact (x_build (cells := #[.int .i64 (n), .int .i64 (o)]) (by kernel_rfl))) ?_
        refine RT.st 7 rfl (by kernel_rfl) rfl <| St1.buildSlice ([(⟨n, o⟩ : Target)] : List Target) Try.underlying24 ty28 rfl rfl (by first | decide | (simp [Enc.size])) ?_
        intro b_89 w_90 hl_93 ho_92 K_91
        have pr_94 : ¬ own (some ⟨b_89, 0, none⟩) b_1 := notOwn_new hl_93 hb_4.lt
        have pr_95 : ¬ own (some ⟨b_89, 0, none⟩) b_6 := notOwn_new hl_93 hb_9.lt
        have pr_96 : ¬ own (some ⟨b_89, 0, none⟩) b_12 := notOwn_new hl_93 hb_15.lt
        have pr_97 : ¬ own (some ⟨b_89, 0, none⟩) b_19 := notOwn_new hl_93 hb_22.lt
        have pr_98 : ∀ b, own (some ⟨b_89, 0, none⟩) b → ¬ own al b := apart_new hl_93 ho_31.own_lt
        have pg_99 : ∀ b, own (some ⟨b_89, 0, none⟩) b → w.heap.size ≤ b := ge_new (Nat.le_trans K0.size hl_93)
        clear hl_93
        replace hb_4 := hb_4.ext K_91
        replace hb_9 := hb_9.ext K_91
        replace hb_15 := hb_15.ext K_91
        replace hb_22 := hb_22.ext K_91
        replace ho_31 := ho_31.ext K_91
        replace hc_80 := hc_80.ext K_91
        replace K0 := K0.ext K_91
        refine ⟨.inr ⟨hb_15, hc_80, trivial⟩, ?_⟩
        refine RT.st 8 rfl (by kernel_rfl) rfl <| St1.append (xs := chL owners walk up i) (ys := ([(⟨n, o⟩ : Target)] : List Target)) Try.underlying24 ty28 rfl rfl rfl ho_31 ho_92.sl (by first | omega | (simp only [lr]; omega)) (by decide) ?_
        intro a_100 c_101 w_102 ho_103 K_104 hm_105
        have pr_106 : ¬ own a_100 b_1 := hm_105.notOwn pr_32 hb_4.lt
        have pr_107 : ¬ own a_100 b_6 := hm_105.notOwn pr_33 hb_9.lt
        have pr_108 : ¬ own a_100 b_12 := hm_105.notOwn pr_34 hb_15.lt
        have pr_109 : ¬ own a_100 b_19 := hm_105.notOwn pr_35 hb_22.lt
        have pr_110 : ∀ b, own a_100 b → ¬ own (some ⟨b_89, 0, none⟩) b := hm_105.apart (fun b h1 h2 => pr_98 b h2 h1) ho_92.own_lt
        have pg_111 : ∀ b, own a_100 b → w.heap.size ≤ b := hm_105.ge pr_36 K0.size
        replace hb_4 := hb_4.keep K_104 pr_32
        replace hb_9 := hb_9.keep K_104 pr_33
        replace hb_15 := hb_15.keep K_104 pr_34
        replace hb_22 := hb_22.keep K_104 pr_35
        replace hc_80 := hc_80.keep K_104 (fun h => absurd (pr_36 _ h) (by omega))
        replace ho_92 := ho_92.keepO K_104 pr_98
        replace K0 := K0.new K_104 pr_36
        clear hm_105
        refine ⟨.inr ⟨hb_15, hc_80, trivial⟩, ?_⟩
        refine RT.st 9 rfl (by kernel_rfl) rfl <| St1.store (v := .slice (a_100) (((chL owners walk up i) ++ ([(⟨n, o⟩ : Target)] : List Target)).length) (c_101)) ty24 rfl rfl rfl (by simp [Value.cells, Value.oneCell']) hb_15 (by simp) ?_
        intro w_112 hb_15_ K_113
        have hb_15' : Blk w_112 b_12 [.slice (a_100) (((chL owners walk up i) ++ ([(⟨n, o⟩ : Target)] : List Target)).length) (c_101)] 24 := hb_15_
        clear hb_15_
        replace hb_4 := hb_4.keep K_113 (by simp only [one]; omega)
        replace hb_9 := hb_9.keep K_113 (by simp only [one]; omega)
        replace hb_22 := hb_22.keep K_113 (by simp only [one]; omega)
        replace hc_80 := hc_80.keep K_113 (by simp only [one]; omega)
        replace ho_92 := ho_92.keepO K_113 (fun b hb e => pr_96 (by simp only [one] at e; subst e; exact hb))
        replace ho_103 := ho_103.keepO K_113 (fun b hb e => pr_108 (by simp only [one] at e; subst e; exact hb))
        replace K0 := K0.new K_113 (fun x hx => by simp only [one] at hx; omega)
        replace hb_15 := hb_15'
        clear hb_15'
        refine ⟨.inl (by kernel_rfl), ?_⟩
        refine RT.done (by kernel_rfl) ?_
        refine Run.inBlock ?_
        refine Run.region ?_
        refine RL.val (x_add rfl rfl (by omega) (by omega)) ?_
        refine RL.val (x_moveI rfl) ?_
        refine RL.nil ?_
        have e := chL_at ho hc21 hn (hp _ hn) hno
        refine ih1 (i + 1) _ _ ?_ (by omega)
        rw [e]
        refine ⟨_, _, ⟨rfl, rfl, rfl, rfl, rfl, rfl, rfl, rfl, trivial⟩, K0, hb_4, hb_9, hb_15, hb_22, ho_103, pr_106, pr_107, pr_108, pr_109, pg_111, ?_⟩
        · omega
      · try simp only [br] at hc31
        have hno := findI_none hfi hc31
        refine Run.skip ?_
        refine Run.inBlock ?_
        refine Run.region ?_
        refine RL.val (x_add rfl rfl (by omega) (by omega)) ?_
        refine RL.val (x_moveI rfl) ?_
        refine RL.nil ?_
        have e := chL_no ho hc21 hno (Nat.le_refl _)
        refine ih1 (i + 1) _ _ ?_ (by omega)
        rw [e]
        refine ⟨_, _, ⟨rfl, rfl, rfl, rfl, rfl, rfl, rfl, rfl, trivial⟩, K0, hb_4, hb_9, hb_15, hb_22, ho_31, pr_32, pr_33, pr_34, pr_35, pr_36, ?_⟩
        · omega
  · try simp only [br] at hc16
    refine Run.exit rfl ?_
    refine Run.seq ?_
    refine Run.region ?_
    refine RL.val (x_ld (v := .slice (al) ((chL owners walk up i).length) (cl)) ty24 rfl rfl (hb_15.cl.field (i := 0) rfl)) ?_
    refine RL.val (x_assignSl rfl) ?_
    refine RL.nil ?_
    refine Run.ret1 (v := .slice (al) ((chL owners walk up i).length) (cl)) Try.func11 rfl rfl ?_
    obtain rfl : i = owners.length := by omega
    exact ⟨_, rfl, al, cl, rfl, ho_31, pr_36, K0⟩

set_option maxHeartbeats 4000000 in
theorem law_chooses (a0 : Option Addr) (owners : List Int) (c0 : Nat) (a1 : Option Addr) (walk : List Int) (c1 : Nat) (a2 : Option Addr) (up : List Int) (c2 : Nat) (w : World) (h0 : SlOf w a0 owners) (h1 : SlOf w a1 walk) (h2 : SlOf w a2 up) (hl0 : owners.length ≤ 1048576) (hl1 : walk.length ≤ 1048576) (hl2 : up.length ≤ 1048576) :
    Calls Try.prog 3 #[.slice (a0) (owners.length) (c0), .slice (a1) (walk.length) (c1), .slice (a2) (up.length) (c2)] w (Ret (fun v w' => v = .bool true ∧ Ext w w')) := by
  have hch := choose17_le owners walk up
  refine calls_run (n := 50) Try.func3 rfl rfl rfl ?_
  refine Run.seq ?_
  refine Run.region ?_
  refine RL.val (x_assignB rfl) ?_
  refine RL.nil ?_
  refine Run.seq ?_
  refine Run.region ?_
  refine RL.val (x_moveSl rfl) ?_
  refine RL.st rfl <| St1.call (vals := [.slice (a0) (owners.length) (c0)]) en10 rfl (clone_int _ _ _ _ h0 (by omega)) ?_
  rintro _ w_3 ⟨a_1, c_2, rfl, ho_4, hg_5, K_6⟩
  have pg_7 : ∀ b, own a_1 b → w.heap.size ≤ b := fun b h => Nat.le_trans (Nat.le_refl _) (hg_5 b h)
  clear hg_5
  have K0 := (K_6 : Ext w _)
  refine RL.val (x_moveSl rfl) ?_
  refine RL.st rfl <| St1.call (vals := [.slice (a1) (walk.length) (c1)]) en10 rfl (clone_int _ _ _ _ (h1.ext K0) (by omega)) ?_
  rintro _ w_10 ⟨a_8, c_9, rfl, ho_11, hg_12, K_13⟩
  have pr_14 : ∀ b, own a_8 b → ¬ own a_1 b := fun b h1 h2 => by have := hg_12 _ h1; have := ho_4.own_lt _ h2; omega
  have pg_15 : ∀ b, own a_8 b → w.heap.size ≤ b := fun b h => Nat.le_trans K0.size (hg_12 b h)
  clear hg_12
  replace ho_4 := ho_4.ext K_13
  replace K0 := K0.ext K_13
  refine RL.val (x_moveSl rfl) ?_
  refine RL.st rfl <| St1.call (vals := [.slice (a2) (up.length) (c2)]) en10 rfl (clone_int _ _ _ _ (h2.ext K0) (by omega)) ?_
  rintro _ w_18 ⟨a_16, c_17, rfl, ho_19, hg_20, K_21⟩
  have pr_22 : ∀ b, own a_16 b → ¬ own a_1 b := fun b h1 h2 => by have := hg_20 _ h1; have := ho_4.own_lt _ h2; omega
  have pr_23 : ∀ b, own a_16 b → ¬ own a_8 b := fun b h1 h2 => by have := hg_20 _ h1; have := ho_11.own_lt _ h2; omega
  have pg_24 : ∀ b, own a_16 b → w.heap.size ≤ b := fun b h => Nat.le_trans K0.size (hg_20 b h)
  clear hg_20
  replace ho_4 := ho_4.ext K_21
  replace ho_11 := ho_11.ext K_21
  replace K0 := K0.ext K_21
  refine RL.val (x_assignSl rfl) ?_
  refine RL.val (x_assignSl rfl) ?_
  refine RL.val (x_assignSl rfl) ?_
  refine RL.nil ?_
  refine Run.seq ?_
  refine Run.region ?_
  refine RL.val (x_moveSl rfl) ?_
  refine RL.val (x_moveSl rfl) ?_
  refine RL.val (x_moveSl rfl) ?_
  refine RL.st rfl <| St1.call (vals := [.slice (a_1) (owners.length) (c_2), .slice (a_8) (walk.length) (c_9), .slice (a_16) (up.length) (c_17)]) en11 rfl (choose _ owners _ _ walk _ _ up _ _ ho_4.sl ho_11.sl ho_19.sl (by first | omega | decide) (by first | omega | decide) (by first | omega | decide)) ?_
  rintro _ w_27 ⟨a_25, c_26, rfl, ho_28, hg_29, K_30⟩
  have pr_31 : ∀ b, own a_25 b → ¬ own a_1 b := fun b h1 h2 => by have := hg_29 _ h1; have := ho_4.own_lt _ h2; omega
  have pr_32 : ∀ b, own a_25 b → ¬ own a_8 b := fun b h1 h2 => by have := hg_29 _ h1; have := ho_11.own_lt _ h2; omega
  have pr_33 : ∀ b, own a_25 b → ¬ own a_16 b := fun b h1 h2 => by have := hg_29 _ h1; have := ho_19.own_lt _ h2; omega
  have pg_34 : ∀ b, own a_25 b → w.heap.size ≤ b := fun b h => Nat.le_trans K0.size (hg_29 b h)
  clear hg_29
  replace ho_4 := ho_4.ext K_30
  replace ho_11 := ho_11.ext K_30
  replace ho_19 := ho_19.ext K_30
  replace K0 := K0.ext K_30
  refine RL.val (x_assignSl rfl) ?_
  refine RL.nil ?_
  refine Run.seq ?_
  refine Run.seq ?_
  refine Run.region ?_
  refine RL.val (x_moveSl rfl) ?_
  refine RL.val (x_moveSl rfl) ?_
  refine RL.val (x_moveSl rfl) ?_
  refine RL.val (x_moveSl rfl) ?_
  refine RL.st rfl <| St1.call (vals := [.slice (a0) (owners.length) (c0), .slice (a1) (walk.length) (c1), .slice (a2) (up.length) (c2)]) en13 rfl (refChoose _ _ _ _ _ _ _ _ _ _ (h0.ext K0) (h1.ext K0) (h2.ext K0) (by omega) (by omega) (by omega)) ?_
  rintro _ w_37 ⟨a_35, c_36, rfl, ho_38, hg_39, K_40⟩
  have pr_41 : ∀ b, own a_35 b → ¬ own a_1 b := fun b h1 h2 => by have := hg_39 _ h1; have := ho_4.own_lt _ h2; omega
  have pr_42 : ∀ b, own a_35 b → ¬ own a_8 b := fun b h1 h2 => by have := hg_39 _ h1; have := ho_11.own_lt _ h2; omega
  have pr_43 : ∀ b, own a_35 b → ¬ own a_16 b := fun b h1 h2 => by have := hg_39 _ h1; have := ho_19.own_lt _ h2; omega
  have pr_44 : ∀ b, own a_35 b → ¬ own a_25 b := fun b h1 h2 => by have := hg_39 _ h1; have := ho_28.own_lt _ h2; omega
  have pg_45 : ∀ b, own a_35 b → w.heap.size ≤ b := fun b h => Nat.le_trans K0.size (hg_39 b h)
  clear hg_39
  replace ho_4 := ho_4.ext K_40
  replace ho_11 := ho_11.ext K_40
  replace ho_19 := ho_19.ext K_40
  replace ho_28 := ho_28.ext K_40
  replace K0 := K0.ext K_40
  refine RL.st rfl <| St1.call (vals := [.slice (a_25) ((choose17 owners walk up).length) (c_26), .slice (a_35) ((choose17 owners walk up).length) (c_36)]) en12 rfl (equal_target _ _ _ _ _ _ _ ho_28.sl ho_38.sl (by omega)) ?_
  rintro _ w_46 ⟨rfl, K_47⟩
  replace ho_4 := ho_4.ext K_47
  replace ho_11 := ho_11.ext K_47
  replace ho_19 := ho_19.ext K_47
  replace ho_28 := ho_28.ext K_47
  replace ho_38 := ho_38.ext K_47
  replace K0 := K0.ext K_47
  refine RL.val (x_not rfl) ?_
  refine RL.nil ?_
  refine Run.cond rfl (fun hc28 => ?_) (fun hc28 => ?_)
  · try simp only [br] at hc28
    exact absurd trivial hc28
  · try simp only [br] at hc28
    refine Run.skip ?_
    refine Run.seq ?_
    refine Run.region ?_
    refine RL.st rfl <| St1.buildSlice ([1] : List Int) Try.underlying22 ty3 rfl rfl (by first | decide | (simp [Enc.size])) ?_
    intro b_48 w_49 hl_52 ho_51 K_50
    have pr_53 : ∀ b, own (some ⟨b_48, 0, none⟩) b → ¬ own a_1 b := apart_new hl_52 ho_4.own_lt
    have pr_54 : ∀ b, own (some ⟨b_48, 0, none⟩) b → ¬ own a_8 b := apart_new hl_52 ho_11.own_lt
    have pr_55 : ∀ b, own (some ⟨b_48, 0, none⟩) b → ¬ own a_16 b := apart_new hl_52 ho_19.own_lt
    have pr_56 : ∀ b, own (some ⟨b_48, 0, none⟩) b → ¬ own a_25 b := apart_new hl_52 ho_28.own_lt
    have pr_57 : ∀ b, own (some ⟨b_48, 0, none⟩) b → ¬ own a_35 b := apart_new hl_52 ho_38.own_lt
    have pg_58 : ∀ b, own (some ⟨b_48, 0, none⟩) b → w.heap.size ≤ b := ge_new (Nat.le_trans K0.size hl_52)
    clear hl_52
    replace ho_4 := ho_4.ext K_50
    replace ho_11 := ho_11.ext K_50
    replace ho_19 := ho_19.ext K_50
    replace ho_28 := ho_28.ext K_50
    replace ho_38 := ho_38.ext K_50
    replace K0 := K0.ext K_50
    refine RL.st rfl <| St1.buildSlice ([1] : List Int) Try.underlying22 ty3 rfl rfl (by first | decide | (simp [Enc.size])) ?_
    intro b_59 w_60 hl_63 ho_62 K_61
    have pr_64 : ∀ b, own (some ⟨b_59, 0, none⟩) b → ¬ own a_1 b := apart_new hl_63 ho_4.own_lt
    have pr_65 : ∀ b, own (some ⟨b_59, 0, none⟩) b → ¬ own a_8 b := apart_new hl_63 ho_11.own_lt
    have pr_66 : ∀ b, own (some ⟨b_59, 0, none⟩) b → ¬ own a_16 b := apart_new hl_63 ho_19.own_lt
    have pr_67 : ∀ b, own (some ⟨b_59, 0, none⟩) b → ¬ own a_25 b := apart_new hl_63 ho_28.own_lt
    have pr_68 : ∀ b, own (some ⟨b_59, 0, none⟩) b → ¬ own a_35 b := apart_new hl_63 ho_38.own_lt
    have pr_69 : ∀ b, own (some ⟨b_59, 0, none⟩) b → ¬ own (some ⟨b_48, 0, none⟩) b := apart_new hl_63 ho_51.own_lt
    have pg_70 : ∀ b, own (some ⟨b_59, 0, none⟩) b → w.heap.size ≤ b := ge_new (Nat.le_trans K0.size hl_63)
    clear hl_63
    replace ho_4 := ho_4.ext K_61
    replace ho_11 := ho_11.ext K_61
    replace ho_19 := ho_19.ext K_61
    replace ho_28 := ho_28.ext K_61
    replace ho_38 := ho_38.ext K_61
    replace ho_51 := ho_51.ext K_61
    replace K0 := K0.ext K_61
    refine RL.st rfl <| St1.call (vals := [.slice (some ⟨b_48, 0, none⟩) (([1] : List Int).length) (([1] : List Int).length), .slice (none) (0) (0), .slice (some ⟨b_59, 0, none⟩) (([1] : List Int).length) (([1] : List Int).length)]) en11 rfl (choose _ ([1] : List Int) _ _ [] _ _ ([1] : List Int) _ _ ho_51.sl (SlOf.nil _ _) ho_62.sl (by first | omega | decide) (by first | omega | decide) (by first | omega | decide)) ?_
    rintro _ w_73 ⟨a_71, c_72, rfl, ho_74, hg_75, K_76⟩
    have pr_77 : ∀ b, own a_71 b → ¬ own a_1 b := fun b h1 h2 => by have := hg_75 _ h1; have := ho_4.own_lt _ h2; omega
    have pr_78 : ∀ b, own a_71 b → ¬ own a_8 b := fun b h1 h2 => by have := hg_75 _ h1; have := ho_11.own_lt _ h2; omega
    have pr_79 : ∀ b, own a_71 b → ¬ own a_16 b := fun b h1 h2 => by have := hg_75 _ h1; have := ho_19.own_lt _ h2; omega
    have pr_80 : ∀ b, own a_71 b → ¬ own a_25 b := fun b h1 h2 => by have := hg_75 _ h1; have := ho_28.own_lt _ h2; omega
    have pr_81 : ∀ b, own a_71 b → ¬ own a_35 b := fun b h1 h2 => by have := hg_75 _ h1; have := ho_38.own_lt _ h2; omega
    have pr_82 : ∀ b, own a_71 b → ¬ own (some ⟨b_48, 0, none⟩) b := fun b h1 h2 => by have := hg_75 _ h1; have := ho_51.own_lt _ h2; omega
    have pr_83 : ∀ b, own a_71 b → ¬ own (some ⟨b_59, 0, none⟩) b := fun b h1 h2 => by have := hg_75 _ h1; have := ho_62.own_lt _ h2; omega
    have pg_84 : ∀ b, own a_71 b → w.heap.size ≤ b := fun b h => Nat.le_trans K0.size (hg_75 b h)
    clear hg_75
    replace ho_4 := ho_4.ext K_76
    replace ho_11 := ho_11.ext K_76
    replace ho_19 := ho_19.ext K_76
    replace ho_28 := ho_28.ext K_76
    replace ho_38 := ho_38.ext K_76
    replace ho_51 := ho_51.ext K_76
    replace ho_62 := ho_62.ext K_76
    replace K0 := K0.ext K_76
    refine RL.val (x_assignSl rfl) ?_
    refine RL.nil ?_
    refine Run.seq ?_
    refine Run.region ?_
    refine RL.val (x_moveSl rfl) ?_
    refine RL.val (x_lenSl Try.underlying24 rfl) ?_
    refine RL.val (x_eqI rfl rfl) ?_
    refine RL.val (x_moveB rfl) ?_
    refine RL.gval (wantedT rfl rfl rfl rfl) (fun hg => (x_moveSl rfl)) ?_
    refine RL.gval (wantedT rfl rfl rfl rfl) (fun hg => (x_moveSl rfl)) ?_
    refine RL.gcall (vals := [.slice (a_1) (owners.length) (c_2), .slice (a0) (owners.length) (c0)]) (wantedT rfl rfl rfl rfl) en14 (fun hg => (mcons (gvr hg) (mcons (gvr hg) mnil))) (fun hg => (equal_int _ _ _ _ _ _ _ ho_4.sl (h0.ext K0) (by omega))) ?_
    intro w_85 K_86
    replace ho_4 := ho_4.ext K_86
    replace ho_11 := ho_11.ext K_86
    replace ho_19 := ho_19.ext K_86
    replace ho_28 := ho_28.ext K_86
    replace ho_38 := ho_38.ext K_86
    replace ho_51 := ho_51.ext K_86
    replace ho_62 := ho_62.ext K_86
    replace ho_74 := ho_74.ext K_86
    replace K0 := K0.ext K_86
    refine RL.val (x_and rfl rfl rfl) ?_
    refine RL.val (x_moveB rfl) ?_
    refine RL.gval (wantedT rfl rfl rfl rfl) (fun hg => (x_moveSl rfl)) ?_
    refine RL.gval (wantedT rfl rfl rfl rfl) (fun hg => (x_moveSl rfl)) ?_
    refine RL.gcall (vals := [.slice (a_8) (walk.length) (c_9), .slice (a1) (walk.length) (c1)]) (wantedT rfl rfl rfl rfl) en14 (fun hg => (mcons (gvr hg) (mcons (gvr hg) mnil))) (fun hg => (equal_int _ _ _ _ _ _ _ ho_11.sl (h1.ext K0) (by omega))) ?_
    intro w_87 K_88
    replace ho_4 := ho_4.ext K_88
    replace ho_11 := ho_11.ext K_88
    replace ho_19 := ho_19.ext K_88
    replace ho_28 := ho_28.ext K_88
    replace ho_38 := ho_38.ext K_88
    replace ho_51 := ho_51.ext K_88
    replace ho_62 := ho_62.ext K_88
    replace ho_74 := ho_74.ext K_88
    replace K0 := K0.ext K_88
    refine RL.val (x_and rfl rfl rfl) ?_
    refine RL.val (x_moveB rfl) ?_
    refine RL.gval (wantedT rfl rfl rfl rfl) (fun hg => (x_moveSl rfl)) ?_
    refine RL.gval (wantedT rfl rfl rfl rfl) (fun hg => (x_moveSl rfl)) ?_
    refine RL.gcall (vals := [.slice (a_16) (up.length) (c_17), .slice (a2) (up.length) (c2)]) (wantedT rfl rfl rfl rfl) en14 (fun hg => (mcons (gvr hg) (mcons (gvr hg) mnil))) (fun hg => (equal_int _ _ _ _ _ _ _ ho_19.sl (h2.ext K0) (by omega))) ?_
    intro w_89 K_90
    replace ho_4 := ho_4.ext K_90
    replace ho_11 := ho_11.ext K_90
    replace ho_19 := ho_19.ext K_90
    replace ho_28 := ho_28.ext K_90
    replace ho_38 := ho_38.ext K_90
    replace ho_51 := ho_51.ext K_90
    replace ho_62 := ho_62.ext K_90
    replace ho_74 := ho_74.ext K_90
    replace K0 := K0.ext K_90
    refine RL.val (x_and rfl rfl rfl) ?_
    refine RL.val (x_assignB rfl) ?_
    refine RL.nil ?_
    refine Run.ret1 (v := .bool (((((((choose17 ([1] : List Int) [] ([1] : List Int)).length : Nat) : Int) == 1) && (decide (owners = owners))) && (decide (walk = walk))) && (decide (up = up)))) Try.func3 rfl rfl ?_
    have e1 : choose17 [1] [] [1] = [⟨1, -1⟩] := rfl
    exact ⟨_, rfl, by simp [e1], K0⟩

set_option maxHeartbeats 4000000 in
theorem law_chosen (a0 : Option Addr) (owners : List Int) (c0 : Nat) (a1 : Option Addr) (walk : List Int) (c1 : Nat) (a2 : Option Addr) (up : List Int) (c2 : Nat) (w : World) (h0 : SlOf w a0 owners) (h1 : SlOf w a1 walk) (h2 : SlOf w a2 up) (hl0 : owners.length ≤ 1048576) (hl1 : walk.length ≤ 1048576) (hl2 : up.length ≤ 1048576) :
    Calls Try.prog 4 #[.slice (a0) (owners.length) (c0), .slice (a1) (walk.length) (c1), .slice (a2) (up.length) (c2)] w (Ret (fun v w' => v = .bool true ∧ Ext w w')) := by
  refine calls_run (n := 113) Try.func4 rfl rfl rfl ?_
  refine Run.seq ?_
  refine Run.region ?_
  refine RL.val (x_assignB rfl) ?_
  refine RL.nil ?_
  refine Run.seq ?_
  refine Run.region ?_
  refine RL.val (x_assignSl rfl) ?_
  refine RL.nil ?_
  refine Run.seq ?_
  refine Run.seq ?_
  refine Run.region ?_
  refine RL.val (x_moveSl rfl) ?_
  refine RL.val (x_lenSl Try.underlying22 rfl) ?_
  refine RL.val (x_moveI rfl) ?_
  refine RL.nil ?_
  refine Run.block ?_
  refine Run.loop (ι := Nat) (fun i ρ' w' => ∃ ao : Option Addr, ∃ co : Nat, Holds ρ' [(1, .slice (a1) (walk.length) (c1)), (2, .slice (a2) (up.length) (c2)), (7, .slice (ao) ((ownL owners i).length) (co)), (15, .slice (a0) (owners.length) (c0)), (16, .int .i64 (((owners.length : Nat) : Int))), (17, .int .i64 (((i : Nat) : Int)))] ∧ Ext w w' ∧ (OwnSl w' 3 ao co (ownL owners i)) ∧ (∀ b, own ao b → w.heap.size ≤ b) ∧ (i ≤ owners.length)) (fun i => owners.length - i) 0 ?_ ?_
  · rw [ownL_zero]
    have ho_5 := OwnSl.nil (α := Int) w 3
    refine ⟨_, _, ⟨rfl, rfl, rfl, rfl, rfl, rfl, trivial⟩, (Keeps.refl _ w), ho_5, (fun b h1 => absurd h1 (own_none b)), ?_⟩
    · omega
  rintro i ρ_6 w_1 ⟨ao, co, hH_2, K0, ho_3, pr_4, hi⟩ ih1
  obtain ⟨ρ₀, rfl⟩ := hH_2.ex
  clear hH_2
  refine Run.seq ?_
  refine Run.region ?_
  refine RL.val (x_ltI rfl rfl) ?_
  refine RL.nil ?_
  refine Run.seq ?_
  refine Run.cond rfl (fun hc18 => ?_) (fun hc18 => ?_)
  · try simp only [br] at hc18
    refine Run.skip ?_
    refine Run.seq ?_
    refine Run.block ?_
    refine Run.seq ?_
    have hog := (ownL_good owners i).2.2
    refine Run.region ?_
    obtain ⟨b_7, o_8, o, ho, ha_9, hc_10⟩ := h0.el (i := i) (by omega)
    have hc_10_lt := hc_10.lt
    replace hc_10 := hc_10.ext K0
    refine RL.val (x_idxN Try.underlying22 ty3 rfl rfl ha_9 (by omega)) ?_
    refine RL.val (x_ldV (v := .int .i64 (o)) (y := o) ty3 rfl hc_10 rfl) ?_
    refine RL.val (x_assignI rfl) ?_
    refine RL.nil ?_
    refine Run.seq ?_
    refine Run.region ?_
    refine RL.val (x_moveSl rfl) ?_
    refine RL.val (x_moveI rfl) ?_
    refine RL.st rfl <| St1.call (vals := [.slice (ao) ((ownL owners i).length) (co), .int .i64 (o)]) en15 rfl (contains_int _ _ _ _ _ ho_3.sl (by omega)) ?_
    rintro _ w_13 ⟨rfl, K_14⟩
    replace ho_3 := ho_3.ext K_14
    replace K0 := K0.ext K_14
    refine RL.val (x_not rfl) ?_
    refine RL.val (x_moveB rfl) ?_
    refine RL.gval (wantedT rfl rfl rfl rfl) (fun hg => (x_moveI rfl)) ?_
    refine RL.gval (wantedT rfl rfl rfl rfl) (fun hg => (x_geI (gvr hg) rfl)) ?_
    refine RL.val (x_and rfl rfl rfl) ?_
    refine RL.nil ?_
    refine Run.cond rfl (fun hc28 => ?_) (fun hc28 => ?_)
    · try simp only [br] at hc28
      refine Run.region ?_
      refine RL.val (x_moveSl rfl) ?_
      refine RL.val (x_moveI rfl) ?_
      refine RL.st rfl <| St1.buildSlice ([o] : List Int) Try.underlying22 ty3 rfl rfl (by first | decide | (simp [Enc.size])) ?_
      intro b_15 w_16 hl_19 ho_18 K_17
      have pr_20 : ∀ b, own (some ⟨b_15, 0, none⟩) b → ¬ own ao b := apart_new hl_19 ho_3.own_lt
      have pg_21 : ∀ b, own (some ⟨b_15, 0, none⟩) b → w.heap.size ≤ b := ge_new (Nat.le_trans K0.size hl_19)
      clear hl_19
      replace ho_3 := ho_3.ext K_17
      replace K0 := K0.ext K_17
      refine RL.st rfl <| St1.append (xs := ownL owners i) (ys := ([o] : List Int)) Try.underlying22 ty3 rfl rfl rfl ho_3 ho_18.sl (by first | omega | (simp only [lr]; omega)) (by decide) ?_
      intro a_22 c_23 w_24 ho_25 K_26 hm_27
      have pr_28 : ∀ b, own a_22 b → ¬ own (some ⟨b_15, 0, none⟩) b := hm_27.apart (fun b h1 h2 => pr_20 b h2 h1) ho_18.own_lt
      have pg_29 : ∀ b, own a_22 b → w.heap.size ≤ b := hm_27.ge pr_4 K0.size
      replace ho_18 := ho_18.keepO K_26 pr_20
      replace K0 := K0.new K_26 pr_4
      clear hm_27
      refine RL.val (x_assignSl rfl) ?_
      refine RL.nil ?_
      refine Run.inBlock ?_
      refine Run.region ?_
      refine RL.val (x_add rfl rfl (by omega) (by omega)) ?_
      refine RL.val (x_moveI rfl) ?_
      refine RL.nil ?_
      have e : ownL owners (i + 1) = ownL owners i ++ [o] := by rw [ownL_step ho, ownS, if_pos (by simp [hc28])]
      refine ih1 (i + 1) _ _ ?_ (by omega)
      rw [e]
      refine ⟨_, _, ⟨rfl, rfl, rfl, rfl, rfl, rfl, trivial⟩, K0, ho_25, pg_29, ?_⟩
      · omega
    · try simp only [br] at hc28
      refine Run.skip ?_
      refine Run.inBlock ?_
      refine Run.region ?_
      refine RL.val (x_add rfl rfl (by omega) (by omega)) ?_
      refine RL.val (x_moveI rfl) ?_
      refine RL.nil ?_
      have e : ownL owners (i + 1) = ownL owners i := by rw [ownL_step ho, ownS, if_neg (by rcases hc28 with h | h <;> simp [h])]
      refine ih1 (i + 1) _ _ ?_ (by omega)
      rw [e]
      refine ⟨_, _, ⟨rfl, rfl, rfl, rfl, rfl, rfl, trivial⟩, K0, ho_3, pr_4, ?_⟩
      · omega
  · try simp only [br] at hc18
    refine Run.exit rfl ?_
    refine Run.seq ?_
    obtain ⟨hnd, hpos, hog⟩ := ownL_good owners i
    have hch := choose17_le (ownL owners i) walk up
    refine Run.region ?_
    refine RL.val (x_moveSl rfl) ?_
    refine RL.val (x_moveSl rfl) ?_
    refine RL.st rfl <| St1.call (vals := [.slice (a1) (walk.length) (c1)]) en10 rfl (clone_int _ _ _ _ (h1.ext K0) (by omega)) ?_
    rintro _ w_32 ⟨a_30, c_31, rfl, ho_33, hg_34, K_35⟩
    have pr_36 : ∀ b, own a_30 b → ¬ own ao b := fun b h1 h2 => by have := hg_34 _ h1; have := ho_3.own_lt _ h2; omega
    have pg_37 : ∀ b, own a_30 b → w.heap.size ≤ b := fun b h => Nat.le_trans K0.size (hg_34 b h)
    clear hg_34
    replace ho_3 := ho_3.ext K_35
    replace K0 := K0.ext K_35
    refine RL.val (x_moveSl rfl) ?_
    refine RL.st rfl <| St1.call (vals := [.slice (a2) (up.length) (c2)]) en10 rfl (clone_int _ _ _ _ (h2.ext K0) (by omega)) ?_
    rintro _ w_40 ⟨a_38, c_39, rfl, ho_41, hg_42, K_43⟩
    have pr_44 : ∀ b, own a_38 b → ¬ own ao b := fun b h1 h2 => by have := hg_42 _ h1; have := ho_3.own_lt _ h2; omega
    have pr_45 : ∀ b, own a_38 b → ¬ own a_30 b := fun b h1 h2 => by have := hg_42 _ h1; have := ho_33.own_lt _ h2; omega
    have pg_46 : ∀ b, own a_38 b → w.heap.size ≤ b := fun b h => Nat.le_trans K0.size (hg_42 b h)
    clear hg_42
    replace ho_3 := ho_3.ext K_43
    replace ho_33 := ho_33.ext K_43
    replace K0 := K0.ext K_43
    refine RL.st rfl <| St1.call (vals := [.slice (ao) ((ownL owners i).length) (co), .slice (a_30) (walk.length) (c_31), .slice (a_38) (up.length) (c_39)]) en11 rfl (choose _ (ownL owners i) _ _ walk _ _ up _ _ ho_3.sl ho_33.sl ho_41.sl (by first | omega | decide) (by first | omega | decide) (by first | omega | decide)) ?_
    rintro _ w_49 ⟨a_47, c_48, rfl, ho_50, hg_51, K_52⟩
    have pr_53 : ∀ b, own a_47 b → ¬ own ao b := fun b h1 h2 => by have := hg_51 _ h1; have := ho_3.own_lt _ h2; omega
    have pr_54 : ∀ b, own a_47 b → ¬ own a_30 b := fun b h1 h2 => by have := hg_51 _ h1; have := ho_33.own_lt _ h2; omega
    have pr_55 : ∀ b, own a_47 b → ¬ own a_38 b := fun b h1 h2 => by have := hg_51 _ h1; have := ho_41.own_lt _ h2; omega
    have pg_56 : ∀ b, own a_47 b → w.heap.size ≤ b := fun b h => Nat.le_trans K0.size (hg_51 b h)
    clear hg_51
    replace ho_3 := ho_3.ext K_52
    replace ho_33 := ho_33.ext K_52
    replace ho_41 := ho_41.ext K_52
    replace K0 := K0.ext K_52
    refine RL.val (x_assignSl rfl) ?_
    refine RL.nil ?_
    refine Run.seq ?_
    refine Run.seq ?_
    refine Run.region ?_
    refine RL.val (x_moveSl rfl) ?_
    refine RL.val (x_moveSl rfl) ?_
    refine RL.val (x_moveSl rfl) ?_
    refine RL.val (x_moveSl rfl) ?_
    refine RL.st rfl <| St1.call (vals := [.slice (ao) ((ownL owners i).length) (co), .slice (a1) (walk.length) (c1), .slice (a2) (up.length) (c2)]) en13 rfl (refChoose _ _ _ _ _ _ _ _ _ _ ho_3.sl (h1.ext K0) (h2.ext K0) (by omega) (by omega) (by omega)) ?_
    rintro _ w_59 ⟨a_57, c_58, rfl, ho_60, hg_61, K_62⟩
    have pr_63 : ∀ b, own a_57 b → ¬ own ao b := fun b h1 h2 => by have := hg_61 _ h1; have := ho_3.own_lt _ h2; omega
    have pr_64 : ∀ b, own a_57 b → ¬ own a_30 b := fun b h1 h2 => by have := hg_61 _ h1; have := ho_33.own_lt _ h2; omega
    have pr_65 : ∀ b, own a_57 b → ¬ own a_38 b := fun b h1 h2 => by have := hg_61 _ h1; have := ho_41.own_lt _ h2; omega
    have pr_66 : ∀ b, own a_57 b → ¬ own a_47 b := fun b h1 h2 => by have := hg_61 _ h1; have := ho_50.own_lt _ h2; omega
    have pg_67 : ∀ b, own a_57 b → w.heap.size ≤ b := fun b h => Nat.le_trans K0.size (hg_61 b h)
    clear hg_61
    replace ho_3 := ho_3.ext K_62
    replace ho_33 := ho_33.ext K_62
    replace ho_41 := ho_41.ext K_62
    replace ho_50 := ho_50.ext K_62
    replace K0 := K0.ext K_62
    refine RL.st rfl <| St1.call (vals := [.slice (a_47) ((choose17 (ownL owners i) walk up).length) (c_48), .slice (a_57) ((choose17 (ownL owners i) walk up).length) (c_58)]) en12 rfl (equal_target _ _ _ _ _ _ _ ho_50.sl ho_60.sl (by omega)) ?_
    rintro _ w_68 ⟨rfl, K_69⟩
    replace ho_3 := ho_3.ext K_69
    replace ho_33 := ho_33.ext K_69
    replace ho_41 := ho_41.ext K_69
    replace ho_50 := ho_50.ext K_69
    replace ho_60 := ho_60.ext K_69
    replace K0 := K0.ext K_69
    refine RL.val (x_not rfl) ?_
    refine RL.nil ?_
    refine Run.cond rfl (fun hc46 => ?_) (fun hc46 => ?_)
    · try simp only [br] at hc46
      exact absurd trivial hc46
    · try simp only [br] at hc46
      refine Run.skip ?_
      refine Run.seq ?_
      refine Run.seq ?_
      refine Run.region ?_
      refine RL.val (x_moveSl rfl) ?_
      refine RL.val (x_lenSl Try.underlying24 rfl) ?_
      refine RL.val (x_moveI rfl) ?_
      refine RL.nil ?_
      refine Run.block ?_
      refine Run.loop (ι := Nat) (fun k ρ' w' => Holds ρ' [(2, .slice (a2) (up.length) (c2)), (7, .slice (ao) ((ownL owners i).length) (co)), (10, .slice (a_47) ((choose17 (ownL owners i) walk up).length) (c_48)), (47, .slice (a_47) ((choose17 (ownL owners i) walk up).length) (c_48)), (48, .int .i64 ((((choose17 (ownL owners i) walk up).length : Nat) : Int))), (49, .int .i64 (((k : Nat) : Int)))] ∧ Ext w w' ∧ (OwnSl w' 3 (ao) (co) (ownL owners i)) ∧ (OwnSl w' 3 (a_30) (c_31) (walk)) ∧ (OwnSl w' 3 (a_38) (c_39) (up)) ∧ (OwnSl w' 28 (a_47) (c_48) (choose17 (ownL owners i) walk up)) ∧ (OwnSl w' 28 (a_57) (c_58) (choose17 (ownL owners i) walk up)) ∧ (k ≤ (choose17 (ownL owners i) walk up).length)) (fun k => (choose17 (ownL owners i) walk up).length - k) 0 ?_ ?_
      · refine ⟨⟨rfl, rfl, rfl, rfl, rfl, rfl, trivial⟩, K0, ho_3, ho_33, ho_41, ho_50, ho_60, ?_⟩
        · omega
      clear ho_3 ho_33 ho_41 ho_50 ho_60
      clear K0
      rintro k ρ_72 w_70 ⟨hH_71, K0, ho_3, ho_33, ho_41, ho_50, ho_60, hk⟩ ih2
      obtain ⟨ρ₀, rfl⟩ := hH_71.ex
      clear hH_71
      refine Run.seq ?_
      refine Run.region ?_
      refine RL.val (x_ltI rfl rfl) ?_
      refine RL.nil ?_
      refine Run.seq ?_
      refine Run.cond rfl (fun hc50 => ?_) (fun hc50 => ?_)
      · try simp only [br] at hc50
        refine Run.skip ?_
        refine Run.seq ?_
        refine Run.block ?_
        refine Run.seq ?_
        refine Run.region ?_
        refine RL.val (x_moveI rfl) ?_
        obtain ⟨b_73, o_74, t, ht, ha_75, hc_76⟩ := ho_50.sl.el (i := k) (by omega)
        refine RL.val (x_idxN Try.underlying24 ty28 rfl rfl ha_75 (by omega)) ?_
        refine RL.val (x_ldV (v := .agg #[.int .i64 ((t).node), .int .i64 ((t).owner)]) (y := t) ty28 rfl hc_76 rfl) ?_
        refine RL.st rfl <| St1.alloc ty28 ?_
        intro b_79 w_80 hl_83 hb_82 K_81
        replace hb_82 : Blk w_80 b_79 [.int .i64 (0), .int .i64 (0)] 28 := hb_82
        have ne_84 : b_73 < b_79 := Nat.lt_of_lt_of_le hc_76.lt hl_83
        have pr_85 : ¬ own ao b_79 := fun h => by have := ho_3.own_lt _ h; omega
        have pr_86 : ¬ own a_30 b_79 := fun h => by have := ho_33.own_lt _ h; omega
        have pr_87 : ¬ own a_38 b_79 := fun h => by have := ho_41.own_lt _ h; omega
        have pr_88 : ¬ own a_47 b_79 := fun h => by have := ho_50.own_lt _ h; omega
        have pr_89 : ¬ own a_57 b_79 := fun h => by have := ho_60.own_lt _ h; omega
        have : w.heap.size ≤ b_79 := Nat.le_trans K0.size hl_83
        clear hl_83
        replace ho_3 := ho_3.ext K_81
        replace ho_33 := ho_33.ext K_81
        replace ho_41 := ho_41.ext K_81
        replace ho_50 := ho_50.ext K_81
        replace ho_60 := ho_60.ext K_81
        replace hc_76 := hc_76.ext K_81
        replace K0 := K0.ext K_81
        refine RL.val (x_assignI rfl) ?_
        refine RL.st rfl <| St1.store (v := .agg #[.int .i64 ((t).node), .int .i64 ((t).owner)]) ty28 rfl rfl rfl (by simp [Value.cells, Value.oneCell']) hb_82 (by simp) ?_
        intro w_90 hb_82_ K_91
        have hb_82' : Blk w_90 b_79 [.int .i64 ((t).node), .int .i64 ((t).owner)] 28 := hb_82_
        clear hb_82_
        replace ho_3 := ho_3.keepO K_91 (fun b hb e => pr_85 (by simp only [one] at e; subst e; exact hb))
        replace ho_33 := ho_33.keepO K_91 (fun b hb e => pr_86 (by simp only [one] at e; subst e; exact hb))
        replace ho_41 := ho_41.keepO K_91 (fun b hb e => pr_87 (by simp only [one] at e; subst e; exact hb))
        replace ho_50 := ho_50.keepO K_91 (fun b hb e => pr_88 (by simp only [one] at e; subst e; exact hb))
        replace ho_60 := ho_60.keepO K_91 (fun b hb e => pr_89 (by simp only [one] at e; subst e; exact hb))
        replace hc_76 := hc_76.keep K_91 (by simp only [one]; omega)
        replace K0 := K0.new K_91 (fun x hx => by simp only [one] at hx; omega)
        replace hb_82 := hb_82'
        clear hb_82'
        refine RL.nil ?_
        refine Run.seq ?_
        refine Run.seq ?_
        refine Run.drawT [0, 1, 2, 3, 4, 5, 6, 7, 8, 9, 10, 11, 12, 13, 14, 15, 16, 17, 18, 19, 20, 21, 22, 23, 24, 25, 26] (m := 27) (by kernel_rfl) rfl ?_
        intro w_92 K_93
        replace ho_3 := ho_3.ext K_93
        replace ho_33 := ho_33.ext K_93
        replace ho_41 := ho_41.ext K_93
        replace ho_50 := ho_50.ext K_93
        replace ho_60 := ho_60.ext K_93
        replace hb_82 := hb_82.ext K_93
        replace K0 := K0.ext K_93
        refine ⟨fun w' => Blk w' b_79 [.int .i64 ((t).node), .int .i64 ((t).owner)] 28 ∧ True, ?_⟩
        refine RT.take (v := .slice (a2) (up.length) (c2)) 0 rfl (by kernel_rfl) ⟨hb_82, trivial⟩ (by rintro _ ⟨hb_82, -⟩; exact (x_moveSl rfl)) ?_
        refine RT.take (v := .pointer (some ⟨b_79, 0, none⟩)) 1 rfl (by kernel_rfl) ⟨hb_82, trivial⟩ (by rintro _ ⟨hb_82, -⟩; exact (x_fld (o' := 0) Try.underlying28 rfl ty3 rfl rfl rfl)) ?_
        refine RT.take (v := .int .i64 ((t).node)) 2 rfl (by kernel_rfl) ⟨hb_82, trivial⟩ (by rintro _ ⟨hb_82, -⟩; exact (x_ld (v := .int .i64 ((t).node)) ty3 rfl rfl (hb_82.cl.field (i := 0) rfl))) ?_
        refine RT.st 3 rfl (by kernel_rfl) rfl <| St1.call (vals := [.slice (a2) (up.length) (c2), .int .i64 ((t).node)]) en15 rfl (contains_int _ _ _ _ _ (h2.ext K0) (by omega)) ?_
        rintro _ w_95 ⟨rfl, K_96⟩
        replace ho_3 := ho_3.ext K_96
        replace ho_33 := ho_33.ext K_96
        replace ho_41 := ho_41.ext K_96
        replace ho_50 := ho_50.ext K_96
        replace ho_60 := ho_60.ext K_96
        replace hb_82 := hb_82.ext K_96
        replace K0 := K0.ext K_96
        refine ⟨.inr ⟨hb_82, trivial⟩, ?_⟩
        refine RT.take (v := .bool (!(up.any (((t).node) == ·)))) 4 rfl (by kernel_rfl) ⟨hb_82, trivial⟩ (by rintro _ ⟨hb_82, -⟩; exact (x_not rfl)) ?_
        refine RT.take (v := .bool (!(up.any (((t).node) == ·)))) 5 rfl (by kernel_rfl) ⟨hb_82, trivial⟩ (by rintro _ ⟨hb_82, -⟩; exact (x_moveB rfl)) ?_
        refine RT.gtake (v := .pointer (some ⟨b_79, 1, none⟩)) 6 rfl (by kernel_rfl) ⟨hb_82, trivial⟩ (wantedF rfl rfl rfl rfl) (fun hg => by rintro _ ⟨hb_82, -⟩; exact (x_fld (o' := 1) Try.underlying28 rfl ty3 rfl rfl rfl)) ?_
        refine RT.gtake (v := .int .i64 ((t).owner)) 7 rfl (by kernel_rfl) ⟨hb_82, trivial⟩ (wantedF rfl rfl rfl rfl) (fun hg => by rintro _ ⟨hb_82, -⟩; exact (x_ld (v := .int .i64 ((t).owner)) ty3 (gvr hg) rfl (hb_82.cl.field (i := 1) rfl))) ?_
        refine RT.gtake (v := .bool (((t).owner) == (-1))) 8 rfl (by kernel_rfl) ⟨hb_82, trivial⟩ (wantedF rfl rfl rfl rfl) (fun hg => by rintro _ ⟨hb_82, -⟩; exact (x_eqI (gvr hg) rfl)) ?_
        refine RT.gtake (v := .slice (ao) ((ownL owners i).length) (co)) 9 rfl (by kernel_rfl) ⟨hb_82, trivial⟩ (wantedF rfl rfl rfl rfl) (fun hg => by rintro _ ⟨hb_82, -⟩; exact (x_moveSl rfl)) ?_
        refine RT.gtake (v := .pointer (some ⟨b_79, 0, none⟩)) 10 rfl (by kernel_rfl) ⟨hb_82, trivial⟩ (wantedF rfl rfl rfl rfl) (fun hg => by rintro _ ⟨hb_82, -⟩; exact (x_fld (o' := 0) Try.underlying28 rfl ty3 rfl rfl rfl)) ?_
        refine RT.gtake (v := .int .i64 ((t).node)) 11 rfl (by kernel_rfl) ⟨hb_82, trivial⟩ (wantedF rfl rfl rfl rfl) (fun hg => by rintro _ ⟨hb_82, -⟩; exact (x_ld (v := .int .i64 ((t).node)) ty3 (gvr hg) rfl (hb_82.cl.field (i := 0) rfl))) ?_
        refine RT.gcall (vals := [.slice (ao) ((ownL owners i).length) (co), .int .i64 ((t).node)]) 12 rfl (by kernel_rfl) (wantedF rfl rfl rfl rfl) en15 (fun hg => (mcons (gvr hg) (mcons (gvr hg) mnil))) (fun hg => (contains_int _ _ _ _ _ ho_3.sl (by omega))) ?_
        intro w_97 K_98
        replace ho_3 := ho_3.ext K_98
        replace ho_33 := ho_33.ext K_98
        replace ho_41 := ho_41.ext K_98
        replace ho_50 := ho_50.ext K_98
        replace ho_60 := ho_60.ext K_98
        replace hb_82 := hb_82.ext K_98
        replace K0 := K0.ext K_98
        refine ⟨.inr ⟨hb_82, trivial⟩, ?_⟩
        refine RT.gtake (v := .bool (!((((t).owner) == (-1)) == ((ownL owners i).any (((t).node) == ·))))) 13 rfl (by kernel_rfl) ⟨hb_82, trivial⟩ (wantedF rfl rfl rfl rfl) (fun hg => by rintro _ ⟨hb_82, -⟩; exact (x_neB Try.underlying4 (gvr hg) (gvr hg))) ?_
        refine RT.take (v := .bool ((!(up.any (((t).node) == ·))) || (!((((t).owner) == (-1)) == ((ownL owners i).any (((t).node) == ·)))))) 14 rfl (by kernel_rfl) ⟨hb_82, trivial⟩ (by rintro _ ⟨hb_82, -⟩; exact (x_or rfl rfl rfl)) ?_
        refine RT.take (v := .bool ((!(up.any (((t).node) == ·))) || (!((((t).owner) == (-1)) == ((ownL owners i).any (((t).node) == ·)))))) 15 rfl (by kernel_rfl) ⟨hb_82, trivial⟩ (by rintro _ ⟨hb_82, -⟩; exact (x_moveB rfl)) ?_
        refine RT.gtake (v := .pointer (some ⟨b_79, 1, none⟩)) 16 rfl (by kernel_rfl) ⟨hb_82, trivial⟩ (wantedF rfl rfl rfl rfl) (fun hg => by rintro _ ⟨hb_82, -⟩; exact (x_fld (o' := 1) Try.underlying28 rfl ty3 rfl rfl rfl)) ?_
        refine RT.gtake (v := .int .i64 ((t).owner)) 17 rfl (by kernel_rfl) ⟨hb_82, trivial⟩ (wantedF rfl rfl rfl rfl) (fun hg => by rintro _ ⟨hb_82, -⟩; exact (x_ld (v := .int .i64 ((t).owner)) ty3 (gvr hg) rfl (hb_82.cl.field (i := 1) rfl))) ?_
        refine RT.gtake (v := .bool (((t).owner) != (-1))) 18 rfl (by kernel_rfl) ⟨hb_82, trivial⟩ (wantedF rfl rfl rfl rfl) (fun hg => by rintro _ ⟨hb_82, -⟩; exact (x_neI (gvr hg) rfl)) ?_
        refine RT.gtake (v := .bool (((t).owner) != (-1))) 19 rfl (by kernel_rfl) ⟨hb_82, trivial⟩ (wantedF rfl rfl rfl rfl) (fun hg => by rintro _ ⟨hb_82, -⟩; exact (x_moveB (gvr hg))) ?_
        refine RT.gtake (v := .slice (ao) ((ownL owners i).length) (co)) 20 rfl (by kernel_rfl) ⟨hb_82, trivial⟩ (wantedGT rfl rfl rfl rfl) (fun hg => by rintro _ ⟨hb_82, -⟩; exact (x_moveSl rfl)) ?_
        refine RT.gtake (v := .pointer (some ⟨b_79, 1, none⟩)) 21 rfl (by kernel_rfl) ⟨hb_82, trivial⟩ (wantedGT rfl rfl rfl rfl) (fun hg => by rintro _ ⟨hb_82, -⟩; exact (x_fld (o' := 1) Try.underlying28 rfl ty3 rfl rfl rfl)) ?_
        refine RT.gtake (v := .int .i64 ((t).owner)) 22 rfl (by kernel_rfl) ⟨hb_82, trivial⟩ (wantedGT rfl rfl rfl rfl) (fun hg => by rintro _ ⟨hb_82, -⟩; exact (x_ld (v := .int .i64 ((t).owner)) ty3 (gvr hg) rfl (hb_82.cl.field (i := 1) rfl))) ?_
        refine RT.gcall (vals := [.slice (ao) ((ownL owners i).length) (co), .int .i64 ((t).owner)]) 23 rfl (by kernel_rfl) (wantedGT rfl rfl rfl rfl) en15 (fun hg => (mcons (gvr hg) (mcons (gvr hg) mnil))) (fun hg => (contains_int _ _ _ _ _ ho_3.sl (by omega))) ?_
        intro w_99 K_100
        replace ho_3 := ho_3.ext K_100
        replace ho_33 := ho_33.ext K_100
        replace ho_41 := ho_41.ext K_100
        replace ho_50 := ho_50.ext K_100
        replace ho_60 := ho_60.ext K_100
        replace hb_82 := hb_82.ext K_100
        replace K0 := K0.ext K_100
        refine ⟨.inr ⟨hb_82, trivial⟩, ?_⟩
        refine RT.gtake (v := .bool (!((ownL owners i).any (((t).owner) == ·)))) 24 rfl (by kernel_rfl) ⟨hb_82, trivial⟩ (wantedGT rfl rfl rfl rfl) (fun hg => by rintro _ ⟨hb_82, -⟩; exact (x_not (gvr hg))) ?_
        refine RT.gtake (v := .bool ((((t).owner) != (-1)) && (!((ownL owners i).any (((t).owner) == ·))))) 25 rfl (by kernel_rfl) ⟨hb_82, trivial⟩ (wantedF rfl rfl rfl rfl) (fun hg => by rintro _ ⟨hb_82, -⟩; exact (x_andG hg rfl rfl rfl)) ?_
        refine RT.take (v := .bool (((!(up.any (((t).node) == ·))) || (!((((t).owner) == (-1)) == ((ownL owners i).any (((t).node) == ·))))) || ((((t).owner) != (-1)) && (!((ownL owners i).any (((t).owner) == ·)))))) 26 rfl (by kernel_rfl) ⟨hb_82, trivial⟩ (by rintro _ ⟨hb_82, -⟩; exact (x_or rfl rfl rfl)) ?_
        refine RT.done (by kernel_rfl) ?_
        obtain ⟨q1, q2, q3⟩ := chosen_one hnd hpos (mem_of_at ht)
        refine Run.cond rfl (fun hc80 => ?_) (fun hc80 => ?_)
        · try simp only [br] at hc80
          exfalso
          rcases hc80 with (h | h) | h
          · rw [q1] at h; cases h
          · exact absurd q2 h
          · rw [q3 h.1] at h; cases h.2
        · try simp only [br] at hc80
          refine Run.skip ?_
          refine Run.seq ?_
          have hcap := ho_50.le_cap
          refine Run.region ?_
          refine RL.val (x_moveSl rfl) ?_
          refine RL.val (x_moveI rfl) ?_
          refine RL.val (x_sliceTo Try.underlying24 ty28 rfl rfl (by omega)) ?_
          refine RL.val (x_lenSl Try.underlying24 rfl) ?_
          refine RL.val (x_moveI rfl) ?_
          refine RL.nil ?_
          refine Run.block ?_
          refine Run.loop (ι := Nat) (fun j ρ' w' => Holds ρ' [(2, .slice (a2) (up.length) (c2)), (7, .slice (ao) ((ownL owners i).length) (co)), (10, .slice (a_47) ((choose17 (ownL owners i) walk up).length) (c_48)), (12, .pointer (some ⟨b_79, 0, none⟩)), (47, .slice (a_47) ((choose17 (ownL owners i) walk up).length) (c_48)), (48, .int .i64 ((((choose17 (ownL owners i) walk up).length : Nat) : Int))), (49, .int .i64 (((k : Nat) : Int))), (50, .bool (decide (((k : Nat) : Int) < (((choose17 (ownL owners i) walk up).length : Nat) : Int)))), (83, .slice (a_47) (k) (c_48)), (84, .int .i64 (((k : Nat) : Int))), (85, .int .i64 (((j : Nat) : Int)))] ∧ Ext w w' ∧ (Blk w' b_79 [.int .i64 ((t).node), .int .i64 ((t).owner)] 28) ∧ (OwnSl w' 3 (ao) (co) (ownL owners i)) ∧ (OwnSl w' 3 (a_30) (c_31) (walk)) ∧ (OwnSl w' 3 (a_38) (c_39) (up)) ∧ (OwnSl w' 28 (a_47) (c_48) (choose17 (ownL owners i) walk up)) ∧ (OwnSl w' 28 (a_57) (c_58) (choose17 (ownL owners i) walk up)) ∧ (j ≤ k)) (fun j => k - j) 0 ?_ ?_
          · refine ⟨⟨rfl, rfl, rfl, rfl, rfl, rfl, rfl, rfl, rfl, rfl, rfl, trivial⟩, K0, hb_82, ho_3, ho_33, ho_41, ho_50, ho_60, ?_⟩
            · omega
          clear ho_3 ho_33 ho_41 ho_50 ho_60 hb_82
          clear K0
          rintro j ρ_103 w_101 ⟨hH_102, K0, hb_82, ho_3, ho_33, ho_41, ho_50, ho_60, hj⟩ ih3
          obtain ⟨ρ₀, rfl⟩ := hH_102.ex
          clear hH_102
          refine Run.seq ?_
          refine Run.region ?_
          refine RL.val (x_ltI rfl rfl) ?_
          refine RL.nil ?_
          refine Run.seq ?_
          refine Run.cond rfl (fun hc86 => ?_) (fun hc86 => ?_)
          · try simp only [br] at hc86
            refine Run.skip ?_
            refine Run.seq ?_
            refine Run.block ?_
            refine Run.seq ?_
            refine Run.region ?_
            obtain ⟨b_104, o_105, x, hx, ha_106, hc_107⟩ := (ho_50.sl.take k).el (i := j) (by first | omega | (simp only [List.length_take]; omega))
            refine RL.val (x_idxN Try.underlying24 ty28 rfl rfl ha_106 (by first | omega | (simp only [List.length_take]; omega))) ?_
            refine RL.val (x_ldV (v := .agg #[.int .i64 ((x).node), .int .i64 ((x).owner)]) (y := x) ty28 rfl hc_107 rfl) ?_
            refine RL.st rfl <| St1.alloc ty28 ?_
            intro b_110 w_111 hl_114 hb_113 K_112
            replace hb_113 : Blk w_111 b_110 [.int .i64 (0), .int .i64 (0)] 28 := hb_113
            have ne_115 : b_79 < b_110 := Nat.lt_of_lt_of_le hb_82.lt hl_114
            have ne_116 : b_104 < b_110 := Nat.lt_of_lt_of_le hc_107.lt hl_114
            have pr_117 : ¬ own ao b_110 := fun h => by have := ho_3.own_lt _ h; omega
            have pr_118 : ¬ own a_30 b_110 := fun h => by have := ho_33.own_lt _ h; omega
            have pr_119 : ¬ own a_38 b_110 := fun h => by have := ho_41.own_lt _ h; omega
            have pr_120 : ¬ own a_47 b_110 := fun h => by have := ho_50.own_lt _ h; omega
            have pr_121 : ¬ own a_57 b_110 := fun h => by have := ho_60.own_lt _ h; omega
            have : w.heap.size ≤ b_110 := Nat.le_trans K0.size hl_114
            clear hl_114
            replace hb_82 := hb_82.ext K_112
            replace ho_3 := ho_3.ext K_112
            replace ho_33 := ho_33.ext K_112
            replace ho_41 := ho_41.ext K_112
            replace ho_50 := ho_50.ext K_112
            replace ho_60 := ho_60.ext K_112
            replace hc_107 := hc_107.ext K_112
            replace K0 := K0.ext K_112
            refine RL.st rfl <| St1.store (v := .agg #[.int .i64 ((x).node), .int .i64 ((x).owner)]) ty28 rfl rfl rfl (by simp [Value.cells, Value.oneCell']) hb_113 (by simp) ?_
            intro w_122 hb_113_ K_123
            have hb_113' : Blk w_122 b_110 [.int .i64 ((x).node), .int .i64 ((x).owner)] 28 := hb_113_
            clear hb_113_
            replace hb_82 := hb_82.keep K_123 (by simp only [one]; omega)
            replace ho_3 := ho_3.keepO K_123 (fun b hb e => pr_117 (by simp only [one] at e; subst e; exact hb))
            replace ho_33 := ho_33.keepO K_123 (fun b hb e => pr_118 (by simp only [one] at e; subst e; exact hb))
            replace ho_41 := ho_41.keepO K_123 (fun b hb e => pr_119 (by simp only [one] at e; subst e; exact hb))
            replace ho_50 := ho_50.keepO K_123 (fun b hb e => pr_120 (by simp only [one] at e; subst e; exact hb))
            replace ho_60 := ho_60.keepO K_123 (fun b hb e => pr_121 (by simp only [one] at e; subst e; exact hb))
            replace hc_107 := hc_107.keep K_123 (by simp only [one]; omega)
            replace K0 := K0.new K_123 (fun x hx => by simp only [one] at hx; omega)
            replace hb_113 := hb_113'
            clear hb_113'
            refine RL.nil ?_
            refine Run.seq ?_
            refine Run.region ?_
            refine RL.val (x_fld (o' := 0) Try.underlying28 rfl ty3 rfl rfl rfl) ?_
            refine RL.val (x_ld (v := .int .i64 ((x).node)) ty3 rfl rfl (hb_113.cl.field (i := 0) rfl)) ?_
            refine RL.val (x_fld (o' := 0) Try.underlying28 rfl ty3 rfl rfl rfl) ?_
            refine RL.val (x_ld (v := .int .i64 ((t).node)) ty3 rfl rfl (hb_82.cl.field (i := 0) rfl)) ?_
            refine RL.val (x_eqI rfl rfl) ?_
            refine RL.val (x_moveB rfl) ?_
            refine RL.gval (wantedF rfl rfl rfl rfl) (fun hg => (x_fld (o' := 1) Try.underlying28 rfl ty3 rfl rfl rfl)) ?_
            refine RL.gval (wantedF rfl rfl rfl rfl) (fun hg => (x_ld (v := .int .i64 ((t).owner)) ty3 (gvr hg) rfl (hb_82.cl.field (i := 1) rfl))) ?_
            refine RL.gval (wantedF rfl rfl rfl rfl) (fun hg => (x_geI (gvr hg) rfl)) ?_
            refine RL.gval (wantedF rfl rfl rfl rfl) (fun hg => (x_moveB (gvr hg))) ?_
            refine RL.gval (wantedGT rfl rfl rfl rfl) (fun hg => (x_fld (o' := 1) Try.underlying28 rfl ty3 rfl rfl rfl)) ?_
            refine RL.gval (wantedGT rfl rfl rfl rfl) (fun hg => (x_ld (v := .int .i64 ((x).owner)) ty3 (gvr hg) rfl (hb_113.cl.field (i := 1) rfl))) ?_
            refine RL.gval (wantedGT rfl rfl rfl rfl) (fun hg => (x_fld (o' := 1) Try.underlying28 rfl ty3 rfl rfl rfl)) ?_
            refine RL.gval (wantedGT rfl rfl rfl rfl) (fun hg => (x_ld (v := .int .i64 ((t).owner)) ty3 (gvr hg) rfl (hb_82.cl.field (i := 1) rfl))) ?_
            refine RL.gval (wantedGT rfl rfl rfl rfl) (fun hg => (x_eqI (gvr hg) (gvr hg))) ?_
            refine RL.gval (wantedF rfl rfl rfl rfl) (fun hg => (x_andG hg rfl rfl rfl)) ?_
            refine RL.val (x_or rfl rfl rfl) ?_
            refine RL.nil ?_
            obtain ⟨q4, q5⟩ := chosen_two (j := j) (k := k) hnd hpos (by omega) (by rw [List.getElem?_take_of_lt (by omega)] at hx; exact hx) ht
            refine Run.cond rfl (fun hc105 => ?_) (fun hc105 => ?_)
            · try simp only [br] at hc105
              exact absurd hc105 (fun h => h.elim q4 q5)
            · try simp only [br] at hc105
              refine Run.skip ?_
              refine Run.inBlock ?_
              refine Run.region ?_
              refine RL.val (x_add rfl rfl (by omega) (by omega)) ?_
              refine RL.val (x_moveI rfl) ?_
              refine RL.nil ?_
              refine ih3 (j + 1) _ _ ?_ (by omega)
              refine ⟨⟨rfl, rfl, rfl, rfl, rfl, rfl, rfl, rfl, rfl, rfl, rfl, trivial⟩, K0, hb_82, ho_3, ho_33, ho_41, ho_50, ho_60, ?_⟩
              · omega
          · try simp only [br] at hc86
            refine Run.exit rfl ?_
            refine Run.inBlock ?_
            refine Run.region ?_
            refine RL.val (x_add rfl rfl (by omega) (by omega)) ?_
            refine RL.val (x_moveI rfl) ?_
            refine RL.nil ?_
            refine ih2 (k + 1) _ _ ?_ (by omega)
            refine ⟨⟨rfl, rfl, rfl, rfl, rfl, rfl, trivial⟩, K0, ho_3, ho_33, ho_41, ho_50, ho_60, ?_⟩
            · omega
      · try simp only [br] at hc50
        refine Run.exit rfl ?_
        refine Run.seq ?_
        refine Run.region ?_
        refine RL.val (x_moveSl rfl) ?_
        refine RL.val (x_lenSl Try.underlying24 rfl) ?_
        refine RL.val (x_moveSl rfl) ?_
        refine RL.val (x_lenSl Try.underlying22 rfl) ?_
        refine RL.val (x_leI rfl rfl) ?_
        refine RL.val (x_assignB rfl) ?_
        refine RL.nil ?_
        refine Run.ret1 (v := .bool (decide ((((choose17 (ownL owners i) walk up).length : Nat) : Int) ≤ (((ownL owners i).length : Nat) : Int)))) Try.func4 rfl rfl ?_
        exact ⟨_, rfl, by rw [decide_eq_true (by omega)], K0⟩

end Go.Proofs.Ytlediffjclploaa
