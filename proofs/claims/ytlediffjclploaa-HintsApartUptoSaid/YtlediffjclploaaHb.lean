/-
  Layer 16's walks.
-/
import Derived.Test.YtlediffjclploaaRows
import Derived.Test.YtlediffjclploaaHa
namespace Go.Proofs.Ytlediffjclploaa
attribute [local irreducible] St1 RL RA RT RT1 Run

theorem ty3 : Ty Try.prog 3 1 8 (.int .i64 (0)) false := ty_of (by kernel_rfl) (by kernel_rfl)
theorem ty4 : Ty Try.prog 4 1 1 (.bool (false)) false := ty_of (by kernel_rfl) (by kernel_rfl)
theorem ty5 : Ty Try.prog 5 1 1 (.int .u8 (0)) false := ty_of (by kernel_rfl) (by kernel_rfl)
theorem ty9 : Ty Try.prog 9 1 16 (.string (⟨#[]⟩)) false := ty_of (by kernel_rfl) (by kernel_rfl)
theorem ty42 : Ty Try.prog 42 2 24 (.agg #[.int .i64 (0), .string (⟨#[]⟩)]) true := ty_of (by kernel_rfl) (by kernel_rfl)
theorem ty48 : Ty Try.prog 48 1 24 (.slice (none) (0) (0)) false := ty_of (by kernel_rfl) (by kernel_rfl)
theorem ty49 : Ty Try.prog 49 8 64 (.agg #[.int .i64 (0), .int .i64 (0), .int .i64 (0), .int .i64 (0), .int .i64 (0), .int .i64 (0), .int .i64 (0), .int .i64 (0)]) true := ty_of (by kernel_rfl) (by kernel_rfl)
theorem ty74 : Ty Try.prog 74 8 8 (.agg #[.bool (false), .bool (false), .bool (false), .bool (false), .bool (false), .bool (false), .bool (false), .bool (false)]) true := ty_of (by kernel_rfl) (by kernel_rfl)
theorem ty76 : Ty Try.prog 76 3 32 (.agg #[.int .i64 (0), .string (⟨#[]⟩), .int .i64 (0)]) true := ty_of (by kernel_rfl) (by kernel_rfl)
theorem en39 : Enters Try.prog 39 := enters_of Try.func39 rfl (by kernel_rfl)
theorem en42 : Enters Try.prog 42 := enters_of Try.func42 rfl (by kernel_rfl)
theorem en43 : Enters Try.prog 43 := enters_of Try.func43 rfl (by kernel_rfl)
theorem en44 : Enters Try.prog 44 := enters_of Try.func44 rfl (by kernel_rfl)
theorem en45 : Enters Try.prog 45 := enters_of Try.func45 rfl (by kernel_rfl)
theorem en46 : Enters Try.prog 46 := enters_of Try.func46 rfl (by kernel_rfl)
theorem en51 : Enters Try.prog 51 := enters_of Try.func51 rfl (by kernel_rfl)
theorem en52 : Enters Try.prog 52 := enters_of Try.func52 rfl (by kernel_rfl)
theorem en53 : Enters Try.prog 53 := enters_of Try.func53 rfl (by kernel_rfl)
theorem en54 : Enters Try.prog 54 := enters_of Try.func54 rfl (by kernel_rfl)

set_option maxHeartbeats 4000000 in
theorem refIsKey (s : ByteArray) (w : World) (hl : s.size ≤ 4294967295) :
    Calls Try.prog 40 #[.string (s)] w (Ret (fun v w' => v = .bool (isKey s) ∧ Ext w w')) := by
  have hdl := dataLen s
  refine calls_run (n := 59) Try.func40 rfl rfl rfl ?_
  refine Run.seq ?_
  refine Run.region ?_
  refine RL.val (x_assignB rfl) ?_
  refine RL.nil ?_
  refine Run.seq ?_
  refine Run.seq ?_
  refine Run.region ?_
  refine RL.val (x_assignI rfl) ?_
  refine RL.nil ?_
  refine Run.block ?_
  refine Run.loop (ι := Nat) (fun i ρ' w' => Holds ρ' [(0, .string (s)), (3, .int .i64 (((i : Nat) : Int)))] ∧ Ext w w' ∧ (i ≤ s.size) ∧ (NoB badByte s.data.toList i)) (fun i => s.size - i) 0 ?_ ?_
  · refine ⟨⟨rfl, rfl, trivial⟩, (Keeps.refl _ w), ?_, ?_⟩
    · omega
    · exact NoB.zero _ _
  rintro i ρ_3 w_1 ⟨hH_2, K0, hi, hno⟩ ih1
  obtain ⟨ρ₀, rfl⟩ := hH_2.ex
  clear hH_2
  refine Run.seq ?_
  refine Run.seq ?_
  refine Run.region ?_
  refine RL.val (x_moveI rfl) ?_
  refine RL.val (x_moveS rfl) ?_
  refine RL.val (x_lenStr Try.underlying9 rfl) ?_
  refine RL.val (x_ltI rfl rfl) ?_
  refine RL.nil ?_
  refine Run.cond rfl (fun hc9 => ?_) (fun hc9 => ?_)
  · try simp only [br] at hc9
    refine Run.skip ?_
    refine Run.seq ?_
    refine Run.block ?_
    refine Run.seq ?_
    obtain ⟨c, hx⟩ := strAt s (i := i) (by omega)
    refine Run.region ?_
    refine RL.val (x_moveS rfl) ?_
    refine RL.val (x_moveI rfl) ?_
    refine RL.val (x_idxStrN Try.underlying9 rfl rfl hx) ?_
    refine RL.val (x_assignI rfl) ?_
    refine RL.nil ?_
    refine Run.seq ?_
    refine Run.region ?_
    refine RL.val (x_moveI rfl) ?_
    refine RL.val (x_geI rfl rfl) ?_
    refine RL.val (x_moveB rfl) ?_
    refine RL.gval (wantedT rfl rfl rfl rfl) (fun hg => (x_moveI rfl)) ?_
    refine RL.gval (wantedT rfl rfl rfl rfl) (fun hg => (x_leI (gvr hg) rfl)) ?_
    refine RL.val (x_and rfl rfl rfl) ?_
    refine RL.val (x_moveB rfl) ?_
    refine RL.gval (wantedF rfl rfl rfl rfl) (fun hg => (x_moveI rfl)) ?_
    refine RL.gval (wantedF rfl rfl rfl rfl) (fun hg => (x_geI (gvr hg) rfl)) ?_
    refine RL.gval (wantedF rfl rfl rfl rfl) (fun hg => (x_moveB (gvr hg))) ?_
    refine RL.gval (wantedGT rfl rfl rfl rfl) (fun hg => (x_moveI rfl)) ?_
    refine RL.gval (wantedGT rfl rfl rfl rfl) (fun hg => (x_leI (gvr hg) rfl)) ?_
    refine RL.gval (wantedF rfl rfl rfl rfl) (fun hg => (x_andG hg rfl rfl rfl)) ?_
    refine RL.val (x_or rfl rfl rfl) ?_
    refine RL.val (x_moveB rfl) ?_
    refine RL.gval (wantedF rfl rfl rfl rfl) (fun hg => (x_moveI rfl)) ?_
    refine RL.gval (wantedF rfl rfl rfl rfl) (fun hg => (x_geI (gvr hg) rfl)) ?_
    refine RL.gval (wantedF rfl rfl rfl rfl) (fun hg => (x_moveB (gvr hg))) ?_
    refine RL.gval (wantedGT rfl rfl rfl rfl) (fun hg => (x_moveI rfl)) ?_
    refine RL.gval (wantedGT rfl rfl rfl rfl) (fun hg => (x_leI (gvr hg) rfl)) ?_
    refine RL.gval (wantedF rfl rfl rfl rfl) (fun hg => (x_andG hg rfl rfl rfl)) ?_
    refine RL.val (x_or rfl rfl rfl) ?_
    refine RL.val (x_assignB rfl) ?_
    refine RL.nil ?_
    refine Run.seq ?_
    refine Run.region ?_
    refine RL.val (x_moveB rfl) ?_
    refine RL.val (x_not rfl) ?_
    refine RL.val (x_moveB rfl) ?_
    refine RL.gval (wantedT rfl rfl rfl rfl) (fun hg => (x_moveI rfl)) ?_
    refine RL.gval (wantedT rfl rfl rfl rfl) (fun hg => (x_neI (gvr hg) rfl)) ?_
    refine RL.val (x_and rfl rfl rfl) ?_
    refine RL.val (x_moveB rfl) ?_
    refine RL.gval (wantedT rfl rfl rfl rfl) (fun hg => (x_moveI rfl)) ?_
    refine RL.gval (wantedT rfl rfl rfl rfl) (fun hg => (x_neI (gvr hg) rfl)) ?_
    refine RL.val (x_and rfl rfl rfl) ?_
    refine RL.val (x_moveB rfl) ?_
    refine RL.gval (wantedT rfl rfl rfl rfl) (fun hg => (x_moveI rfl)) ?_
    refine RL.gval (wantedT rfl rfl rfl rfl) (fun hg => (x_neI (gvr hg) rfl)) ?_
    refine RL.val (x_and rfl rfl rfl) ?_
    refine RL.nil ?_
    refine Run.cond rfl (fun hc50 => ?_) (fun hc50 => ?_)
    · try simp only [br] at hc50
      refine Run.seq ?_
      refine Run.region ?_
      refine RL.val (x_assignB rfl) ?_
      refine RL.nil ?_
      refine Run.ret1 (v := .bool (false)) Try.func40 rfl rfl ?_
      exact ⟨_, rfl, by rw [isKey, any_at hx (by simp only [badByte, decide_eq_true_eq]; omega)]; rfl, K0⟩
    · try simp only [br] at hc50
      refine Run.skip ?_
      refine Run.inBlock ?_
      refine Run.region ?_
      refine RL.val (x_moveI rfl) ?_
      refine RL.val (x_add rfl rfl (by omega) (by omega)) ?_
      refine RL.val (x_assignI rfl) ?_
      refine RL.nil ?_
      refine ih1 (i + 1) _ _ ?_ (by omega)
      refine ⟨⟨rfl, rfl, trivial⟩, K0, ?_, ?_⟩
      · omega
      · exact hno.step hx (by simp only [badByte, decide_eq_false_iff_not]; omega)
  · try simp only [br] at hc9
    refine Run.exit rfl ?_
    refine Run.seq ?_
    refine Run.region ?_
    refine RL.val (x_moveS rfl) ?_
    refine RL.val (x_lenStr Try.underlying9 rfl) ?_
    refine RL.val (x_geI rfl rfl) ?_
    refine RL.val (x_moveB rfl) ?_
    refine RL.gval (wantedT rfl rfl rfl rfl) (fun hg => (x_moveS rfl)) ?_
    refine RL.gval (wantedT rfl rfl rfl rfl) (fun hg => (x_lenStr Try.underlying9 (gvr hg))) ?_
    refine RL.gval (wantedT rfl rfl rfl rfl) (fun hg => (x_leI (gvr hg) rfl)) ?_
    refine RL.val (x_and rfl rfl rfl) ?_
    refine RL.val (x_assignB rfl) ?_
    refine RL.nil ?_
    refine Run.ret1 (v := .bool ((decide (1 ≤ (((s).size : Nat) : Int))) && (decide ((((s).size : Nat) : Int) ≤ 32)))) Try.func40 rfl rfl ?_
    exact ⟨_, rfl, by rw [isKey, any_no hno (by rw [dataLen]; omega)]; rfl, K0⟩

set_option maxHeartbeats 4000000 in
theorem isKeyP (s : ByteArray) (w : World) (hl : s.size ≤ 4294967295) :
    Calls Try.prog 52 #[.string (s)] w (Ret (fun v w' => v = .bool (isKey s) ∧ Ext w w')) := by
  have hdl := dataLen s
  refine calls_run (n := 54) Try.func52 rfl rfl rfl ?_
  refine Run.seq ?_
  refine Run.region ?_
  refine RL.val (x_assignB rfl) ?_
  refine RL.nil ?_
  refine Run.seq ?_
  refine Run.seq ?_
  refine Run.region ?_
  refine RL.val (x_moveS rfl) ?_
  refine RL.st rfl <| St1.bytes Try.underlying9 Try.underlying88 Try.underlying5 rfl ?_
  intro b_1 c_2 w_3 hl_4 hs_5 K_6
  have K0 := (K_6 : Ext w _)
  refine RL.val (x_lenSl Try.underlying88 rfl) ?_
  refine RL.val (x_moveI rfl) ?_
  refine RL.nil ?_
  refine Run.block ?_
  refine Run.loop (ι := Nat) (fun i ρ' w' => Holds ρ' [(0, .string (s)), (6, .slice (some ⟨b_1, 0, none⟩) ((s).data.toList.length) (c_2)), (7, .int .i64 ((((s).data.toList.length : Nat) : Int))), (8, .int .i64 (((i : Nat) : Int)))] ∧ Ext w w' ∧ (SlOf w' (some ⟨b_1, 0, none⟩) ((s).data.toList)) ∧ (i ≤ s.size) ∧ (NoB badByte s.data.toList i)) (fun i => s.size - i) 0 ?_ ?_
  · refine ⟨⟨rfl, rfl, rfl, rfl, trivial⟩, K0, hs_5, ?_, ?_⟩
    · omega
    · exact NoB.zero _ _
  clear K0
  rintro i ρ_9 w_7 ⟨hH_8, K0, hs_5, hi, hno⟩ ih1
  obtain ⟨ρ₀, rfl⟩ := hH_8.ex
  clear hH_8
  refine Run.seq ?_
  refine Run.region ?_
  refine RL.val (x_ltI rfl rfl) ?_
  refine RL.nil ?_
  refine Run.seq ?_
  refine Run.cond rfl (fun hc9 => ?_) (fun hc9 => ?_)
  · try simp only [br] at hc9
    refine Run.skip ?_
    refine Run.seq ?_
    refine Run.block ?_
    refine Run.seq ?_
    refine Run.region ?_
    obtain ⟨b_10, o_11, c, hx, ha_12, hc_13⟩ := hs_5.el (i := i) (by rw [dataLen]; omega)
    refine RL.val (x_idxN Try.underlying88 ty5 rfl rfl ha_12 (by rw [dataLen]; omega)) ?_
    refine RL.val (x_ldV (v := .int .u8 (((c).toNat : Int))) (y := c) ty5 rfl hc_13 rfl) ?_
    refine RL.val (x_assignI rfl) ?_
    refine RL.nil ?_
    refine Run.seq ?_
    refine Run.region ?_
    refine RL.val (x_moveI rfl) ?_
    refine RL.val (x_neI rfl rfl) ?_
    refine RL.val (x_moveB rfl) ?_
    refine RL.gval (wantedT rfl rfl rfl rfl) (fun hg => (x_moveI rfl)) ?_
    refine RL.gval (wantedT rfl rfl rfl rfl) (fun hg => (x_neI (gvr hg) rfl)) ?_
    refine RL.val (x_and rfl rfl rfl) ?_
    refine RL.val (x_moveB rfl) ?_
    refine RL.gval (wantedT rfl rfl rfl rfl) (fun hg => (x_moveI rfl)) ?_
    refine RL.gval (wantedT rfl rfl rfl rfl) (fun hg => (x_neI (gvr hg) rfl)) ?_
    refine RL.val (x_and rfl rfl rfl) ?_
    refine RL.val (x_moveB rfl) ?_
    refine RL.gval (wantedT rfl rfl rfl rfl) (fun hg => (x_moveI rfl)) ?_
    refine RL.gval (wantedT rfl rfl rfl rfl) (fun hg => (x_ltI (gvr hg) rfl)) ?_
    refine RL.gval (wantedT rfl rfl rfl rfl) (fun hg => (x_moveB (gvr hg))) ?_
    refine RL.gval (wantedGF rfl rfl rfl rfl) (fun hg => (x_moveI rfl)) ?_
    refine RL.gval (wantedGF rfl rfl rfl rfl) (fun hg => (x_gtI (gvr hg) rfl)) ?_
    refine RL.gval (wantedT rfl rfl rfl rfl) (fun hg => (x_orG hg rfl rfl rfl)) ?_
    refine RL.val (x_and rfl rfl rfl) ?_
    refine RL.val (x_moveB rfl) ?_
    refine RL.gval (wantedT rfl rfl rfl rfl) (fun hg => (x_moveI rfl)) ?_
    refine RL.gval (wantedT rfl rfl rfl rfl) (fun hg => (x_ltI (gvr hg) rfl)) ?_
    refine RL.gval (wantedT rfl rfl rfl rfl) (fun hg => (x_moveB (gvr hg))) ?_
    refine RL.gval (wantedGF rfl rfl rfl rfl) (fun hg => (x_moveI rfl)) ?_
    refine RL.gval (wantedGF rfl rfl rfl rfl) (fun hg => (x_gtI (gvr hg) rfl)) ?_
    refine RL.gval (wantedT rfl rfl rfl rfl) (fun hg => (x_orG hg rfl rfl rfl)) ?_
    refine RL.val (x_and rfl rfl rfl) ?_
    refine RL.val (x_moveB rfl) ?_
    refine RL.gval (wantedT rfl rfl rfl rfl) (fun hg => (x_moveI rfl)) ?_
    refine RL.gval (wantedT rfl rfl rfl rfl) (fun hg => (x_ltI (gvr hg) rfl)) ?_
    refine RL.gval (wantedT rfl rfl rfl rfl) (fun hg => (x_moveB (gvr hg))) ?_
    refine RL.gval (wantedGF rfl rfl rfl rfl) (fun hg => (x_moveI rfl)) ?_
    refine RL.gval (wantedGF rfl rfl rfl rfl) (fun hg => (x_gtI (gvr hg) rfl)) ?_
    refine RL.gval (wantedT rfl rfl rfl rfl) (fun hg => (x_orG hg rfl rfl rfl)) ?_
    refine RL.val (x_and rfl rfl rfl) ?_
    refine RL.nil ?_
    refine Run.cond rfl (fun hc45 => ?_) (fun hc45 => ?_)
    · try simp only [br] at hc45
      refine Run.seq ?_
      refine Run.region ?_
      refine RL.val (x_assignB rfl) ?_
      refine RL.nil ?_
      refine Run.ret1 (v := .bool (false)) Try.func52 rfl rfl ?_
      exact ⟨_, rfl, by rw [isKey, any_at hx (by simp only [badByte, decide_eq_true_eq]; omega)]; rfl, K0⟩
    · try simp only [br] at hc45
      refine Run.skip ?_
      refine Run.inBlock ?_
      refine Run.region ?_
      refine RL.val (x_add rfl rfl (by omega) (by omega)) ?_
      refine RL.val (x_moveI rfl) ?_
      refine RL.nil ?_
      refine ih1 (i + 1) _ _ ?_ (by omega)
      refine ⟨⟨rfl, rfl, rfl, rfl, trivial⟩, K0, hs_5, ?_, ?_⟩
      · omega
      · exact hno.step hx (by simp only [badByte, decide_eq_false_iff_not]; omega)
  · try simp only [br] at hc9
    refine Run.exit rfl ?_
    refine Run.seq ?_
    refine Run.region ?_
    refine RL.val (x_moveS rfl) ?_
    refine RL.val (x_neS rfl rfl) ?_
    refine RL.val (x_moveB rfl) ?_
    refine RL.gval (wantedT rfl rfl rfl rfl) (fun hg => (x_moveS rfl)) ?_
    refine RL.gval (wantedT rfl rfl rfl rfl) (fun hg => (x_lenStr Try.underlying9 (gvr hg))) ?_
    refine RL.gval (wantedT rfl rfl rfl rfl) (fun hg => (x_leI (gvr hg) rfl)) ?_
    refine RL.val (x_and rfl rfl rfl) ?_
    refine RL.val (x_assignB rfl) ?_
    refine RL.nil ?_
    refine Run.ret1 (v := .bool ((!decide (s = ⟨#[]⟩)) && (decide ((((s).size : Nat) : Int) ≤ 32)))) Try.func52 rfl rfl ?_
    exact ⟨_, rfl, by rw [isKey, any_no hno (by rw [dataLen]; omega), keyEnd], K0⟩

set_option maxHeartbeats 4000000 in
theorem indexFunc_kept (a : Option Addr) (xs : List KeptM) (c : Nat) (gf : FuncId) (caps : List Value) (q : KeptM → Bool) (hen : Enters Try.prog gf) (w : World) (hs : SlOf w a xs) (hl : xs.length ≤ 4294967295) (hq : ∀ x ∈ xs, ∀ w', Ext w w' → Calls Try.prog gf (Enc.val x :: caps).toArray w' (Ret fun v w'' => v = .bool (q x) ∧ Ext w' w'')) :
    Calls Try.prog 53 #[.slice (a) (xs.length) (c), .func (.func gf) #[] caps.toArray] w (Ret (fun v w' => v = .int .i64 (findI q xs) ∧ Ext w w')) := by
  refine calls_run (n := 19) Try.func53 rfl rfl rfl ?_
  refine Run.seq ?_
  refine Run.region ?_
  refine RL.val (x_assignI rfl) ?_
  refine RL.nil ?_
  refine Run.seq ?_
  refine Run.seq ?_
  refine Run.region ?_
  refine RL.val (x_moveSl rfl) ?_
  refine RL.val (x_lenSl Try.underlying48 rfl) ?_
  refine RL.val (x_moveI rfl) ?_
  refine RL.nil ?_
  refine Run.block ?_
  refine Run.loop (ι := Nat) (fun i ρ' w' => Holds ρ' [(0, .slice (a) (xs.length) (c)), (1, .func (.func gf) #[] caps.toArray), (7, .int .i64 (((xs.length : Nat) : Int))), (8, .int .i64 (((i : Nat) : Int)))] ∧ Ext w w' ∧ (i ≤ xs.length) ∧ (NoB q xs i)) (fun i => xs.length - i) 0 ?_ ?_
  · refine ⟨⟨rfl, rfl, rfl, rfl, trivial⟩, (Keeps.refl _ w), ?_, ?_⟩
    · omega
    · exact NoB.zero _ _
  rintro i ρ_3 w_1 ⟨hH_2, K0, hi, hno⟩ ih1
  obtain ⟨ρ₀, rfl⟩ := hH_2.ex
  clear hH_2
  refine Run.seq ?_
  refine Run.region ?_
  refine RL.val (x_ltI rfl rfl) ?_
  refine RL.nil ?_
  refine Run.seq ?_
  refine Run.cond rfl (fun hc9 => ?_) (fun hc9 => ?_)
  · try simp only [br] at hc9
    refine Run.skip ?_
    refine Run.seq ?_
    refine Run.block ?_
    refine Run.seq ?_
    refine Run.region ?_
    refine RL.val (x_moveI rfl) ?_
    refine RL.val (x_assignI rfl) ?_
    refine RL.nil ?_
    refine Run.seq ?_
    refine Run.region ?_
    refine RL.val (x_moveF rfl) ?_
    refine RL.val (x_moveSl rfl) ?_
    refine RL.val (x_moveI rfl) ?_
    obtain ⟨b_4, o_5, e, hx, ha_6, hc_7⟩ := hs.el (i := i) (by omega)
    have hc_7_lt := hc_7.lt
    replace hc_7 := hc_7.ext K0
    refine RL.val (x_idxN Try.underlying48 ty76 rfl rfl ha_6 (by omega)) ?_
    refine RL.val (x_ldV (v := .agg #[.int .i64 (((e).h).owner), .string (((e).h).key), .int .i64 ((e).since)]) (y := e) ty76 rfl hc_7 rfl) ?_
    refine RL.st rfl <| St1.callV (first := []) (vals := .agg #[.int .i64 (((e).h).owner), .string (((e).h).key), .int .i64 ((e).since)] :: caps) hen rfl rfl (hq e (mem_of_at hx) _ K0) ?_
    rintro _ w_10 ⟨rfl, K_11⟩
    replace hc_7 := hc_7.ext K_11
    replace K0 := K0.ext K_11
    refine RL.nil ?_
    refine Run.cond rfl (fun hc16 => ?_) (fun hc16 => ?_)
    · skip
      refine Run.seq ?_
      refine Run.region ?_
      refine RL.val (x_moveI rfl) ?_
      refine RL.val (x_assignI rfl) ?_
      refine RL.nil ?_
      refine Run.ret1 (v := .int .i64 (((i : Nat) : Int))) Try.func53 rfl rfl ?_
      exact ⟨_, rfl, by rw [findI_at hx hc16 hno], K0⟩
    · skip
      refine Run.skip ?_
      refine Run.inBlock ?_
      refine Run.region ?_
      refine RL.val (x_add rfl rfl (by omega) (by omega)) ?_
      refine RL.val (x_moveI rfl) ?_
      refine RL.nil ?_
      refine ih1 (i + 1) _ _ ?_ (by omega)
      refine ⟨⟨rfl, rfl, rfl, rfl, trivial⟩, K0, ?_, ?_⟩
      · omega
      · exact hno.step hx hc16
  · try simp only [br] at hc9
    refine Run.exit rfl ?_
    refine Run.seq ?_
    refine Run.region ?_
    refine RL.val (x_assignI rfl) ?_
    refine RL.nil ?_
    refine Run.ret1 (v := .int .i64 (-1)) Try.func53 rfl rfl ?_
    exact ⟨_, rfl, by rw [findI_no hno (by omega)], K0⟩

set_option maxHeartbeats 4000000 in
theorem index_hint (a : Option Addr) (xs : List Hint) (c : Nat) (x : Hint) (w : World) (hs : SlOf w a xs) (hl : xs.length ≤ 4294967295) :
    Calls Try.prog 51 #[.slice (a) (xs.length) (c), .agg #[.int .i64 ((x).owner), .string ((x).key)]] w (Ret (fun v w' => v = .int .i64 (findI (x == ·) xs) ∧ Ext w w')) := by
  refine calls_run (n := 19) Try.func51 rfl rfl rfl ?_
  refine Run.seq ?_
  refine Run.region ?_
  refine RL.st rfl <| St1.box (v := .agg #[.int .i64 ((x).owner), .string ((x).key)]) rfl ?_
  intro b_1 w_2 hl_5 hb_4 K_3
  replace hb_4 : Blk w_2 b_1 [.int .i64 ((x).owner), .string ((x).key)] 42 := hb_4
  have : w.heap.size ≤ b_1 := hl_5
  clear hl_5
  have K0 := (K_3 : Ext w _)
  refine RL.val (x_assignI rfl) ?_
  refine RL.nil ?_
  refine Run.seq ?_
  refine Run.seq ?_
  refine Run.region ?_
  refine RL.val (x_moveSl rfl) ?_
  refine RL.val (x_lenSl Try.underlying35 rfl) ?_
  refine RL.val (x_moveI rfl) ?_
  refine RL.nil ?_
  refine Run.block ?_
  refine Run.loop (ι := Nat) (fun i ρ' w' => Holds ρ' [(0, .slice (a) (xs.length) (c)), (3, .pointer (some ⟨b_1, 0, none⟩)), (7, .int .i64 (((xs.length : Nat) : Int))), (8, .int .i64 (((i : Nat) : Int)))] ∧ Ext w w' ∧ (Blk w' b_1 [.int .i64 ((x).owner), .string ((x).key)] 42) ∧ (i ≤ xs.length) ∧ (NoB (x == ·) xs i)) (fun i => xs.length - i) 0 ?_ ?_
  · refine ⟨⟨rfl, rfl, rfl, rfl, trivial⟩, K0, hb_4, ?_, ?_⟩
    · omega
    · exact NoB.zero _ _
  clear hb_4
  clear K0
  rintro i ρ_8 w_6 ⟨hH_7, K0, hb_4, hi, hno⟩ ih1
  obtain ⟨ρ₀, rfl⟩ := hH_7.ex
  clear hH_7
  refine Run.seq ?_
  refine Run.region ?_
  refine RL.val (x_ltI rfl rfl) ?_
  refine RL.nil ?_
  refine Run.seq ?_
  refine Run.cond rfl (fun hc9 => ?_) (fun hc9 => ?_)
  · try simp only [br] at hc9
    refine Run.skip ?_
    refine Run.seq ?_
    refine Run.block ?_
    refine Run.seq ?_
    refine Run.region ?_
    refine RL.val (x_moveI rfl) ?_
    refine RL.val (x_assignI rfl) ?_
    refine RL.nil ?_
    refine Run.seq ?_
    obtain ⟨b_11, o_12, e, hx, ha_13, hc_14⟩ := hs.el (i := i) (by omega)
    have hc_14_lt := hc_14.lt
    replace hc_14 := hc_14.ext K0
    refine Run.draw' (m := 6) (by kernel_rfl) rfl ?_
    intro w_9 K_10
    replace hb_4 := hb_4.ext K_10
    replace hc_14 := hc_14.ext K_10
    replace K0 := K0.ext K_10
    refine RA.take (v := .agg #[.int .i64 ((x).owner), .string ((x).key)]) 0 rfl (by kernel_rfl) rfl (by rintro _ rfl; exact (x_lds (cs := #[.int .i64 ((x).owner), .string ((x).key)]) ty42 rfl rfl (hb_4.cl.drop 0 2))) ?_
    refine RA.take (v := .slice (a) (xs.length) (c)) 1 rfl (by kernel_rfl) rfl (by rintro _ rfl; exact (x_moveSl rfl)) ?_
    refine RA.take (v := .int .i64 (((i : Nat) : Int))) 2 rfl (by kernel_rfl) rfl (by rintro _ rfl; exact (x_moveI rfl)) ?_
    refine RA.take (v := .pointer (some ⟨b_11, o_12 + i * 2, none⟩)) 3 rfl (by kernel_rfl) rfl (by rintro _ rfl; exact (x_idxN Try.underlying35 ty42 rfl rfl ha_13 (by omega))) ?_
    refine RA.take (v := .agg #[.int .i64 ((e).owner), .string ((e).key)]) 4 rfl (by kernel_rfl) rfl (by rintro _ rfl; exact (x_ldV (v := .agg #[.int .i64 ((e).owner), .string ((e).key)]) (y := e) ty42 rfl hc_14 rfl)) ?_
    refine RA.take (v := .bool (decide (x = e))) 5 rfl (by kernel_rfl) rfl (by rintro _ rfl; exact (x_eqA (by kernel_rfl) rfl rfl (eq_Hint x e))) ?_
    refine RA.done (by kernel_rfl) ?_
    refine Run.cond rfl (fun hc16 => ?_) (fun hc16 => ?_)
    · try simp only [br] at hc16
      refine Run.seq ?_
      refine Run.region ?_
      refine RL.val (x_moveI rfl) ?_
      refine RL.val (x_assignI rfl) ?_
      refine RL.nil ?_
      refine Run.ret1 (v := .int .i64 (((i : Nat) : Int))) Try.func51 rfl rfl ?_
      exact ⟨_, rfl, by rw [findI_at hx (by simpa using hc16) hno], K0⟩
    · try simp only [br] at hc16
      refine Run.skip ?_
      refine Run.inBlock ?_
      refine Run.region ?_
      refine RL.val (x_add rfl rfl (by omega) (by omega)) ?_
      refine RL.val (x_moveI rfl) ?_
      refine RL.nil ?_
      refine ih1 (i + 1) _ _ ?_ (by omega)
      refine ⟨⟨rfl, rfl, rfl, rfl, trivial⟩, K0, hb_4, ?_, ?_⟩
      · omega
      · exact hno.step hx (by simpa using hc16)
  · try simp only [br] at hc9
    refine Run.exit rfl ?_
    refine Run.seq ?_
    refine Run.region ?_
    refine RL.val (x_assignI rfl) ?_
    refine RL.nil ?_
    refine Run.ret1 (v := .int .i64 (-1)) Try.func51 rfl rfl ?_
    exact ⟨_, rfl, by rw [findI_no hno (by omega)], K0⟩

set_option maxHeartbeats 4000000 in
theorem contains_hint (a : Option Addr) (xs : List Hint) (c : Nat) (x : Hint) (w : World) (hs : SlOf w a xs) (hl : xs.length ≤ 4294967295) :
    Calls Try.prog 41 #[.slice (a) (xs.length) (c), .agg #[.int .i64 ((x).owner), .string ((x).key)]] w (Ret (fun v w' => v = .bool (xs.any (x == ·)) ∧ Ext w w')) := by
  refine calls_run (n := 9) Try.func41 rfl rfl rfl ?_
  refine Run.seq ?_
  refine Run.region ?_
  refine RL.st rfl <| St1.box (v := .agg #[.int .i64 ((x).owner), .string ((x).key)]) rfl ?_
  intro b_1 w_2 hl_5 hb_4 K_3
  replace hb_4 : Blk w_2 b_1 [.int .i64 ((x).owner), .string ((x).key)] 42 := hb_4
  have : w.heap.size ≤ b_1 := hl_5
  clear hl_5
  have K0 := (K_3 : Ext w _)
  refine RL.val (x_assignB rfl) ?_
  refine RL.nil ?_
  refine Run.seq ?_
  refine Run.region ?_
  refine RL.val (x_moveSl rfl) ?_
  refine RL.val (x_lds (cs := #[.int .i64 ((x).owner), .string ((x).key)]) ty42 rfl rfl (hb_4.cl.drop 0 2)) ?_
  refine RL.st rfl <| St1.call (vals := [.slice (a) (xs.length) (c), .agg #[.int .i64 ((x).owner), .string ((x).key)]]) en51 rfl (index_hint _ _ _ x _ (hs.ext K0) (by omega)) ?_
  rintro _ w_6 ⟨rfl, K_7⟩
  replace hb_4 := hb_4.ext K_7
  replace K0 := K0.ext K_7
  refine RL.val (x_geI rfl rfl) ?_
  refine RL.val (x_assignB rfl) ?_
  refine RL.nil ?_
  refine Run.ret1 (v := .bool (decide (0 ≤ (findI (x == ·) xs)))) Try.func41 rfl rfl ?_
  exact ⟨_, rfl, by rw [findI_ge], K0⟩

set_option maxHeartbeats 4000000 in
theorem equal_hint (a : Option Addr) (xs : List Hint) (c : Nat) (d : Option Addr) (ys : List Hint) (e : Nat) (w : World) (hs : SlOf w a xs) (ht : SlOf w d ys) (hl : xs.length ≤ 4294967295) :
    Calls Try.prog 20 #[.slice (a) (xs.length) (c), .slice (d) (ys.length) (e)] w (Ret (fun v w' => v = .bool (decide (xs = ys)) ∧ Ext w w')) := by
  refine calls_run (n := 26) Try.func20 rfl rfl rfl ?_
  refine Run.seq ?_
  refine Run.region ?_
  refine RL.val (x_assignB rfl) ?_
  refine RL.nil ?_
  refine Run.seq ?_
  refine Run.seq ?_
  refine Run.region ?_
  refine RL.val (x_moveSl rfl) ?_
  refine RL.val (x_lenSl Try.underlying35 rfl) ?_
  refine RL.val (x_moveSl rfl) ?_
  refine RL.val (x_lenSl Try.underlying35 rfl) ?_
  refine RL.val (x_neI rfl rfl) ?_
  refine RL.nil ?_
  refine Run.cond rfl (fun hc10 => ?_) (fun hc10 => ?_)
  · try simp only [br] at hc10
    refine Run.seq ?_
    refine Run.region ?_
    refine RL.val (x_assignB rfl) ?_
    refine RL.nil ?_
    refine Run.ret1 (v := .bool (false)) Try.func20 rfl rfl ?_
    exact ⟨_, rfl, by rw [decide_eq_false (fun h => hc10 (by rw [h]))], (Keeps.refl _ w)⟩
  · try simp only [br] at hc10
    have hlen : xs.length = ys.length := by omega
    refine Run.skip ?_
    refine Run.seq ?_
    refine Run.seq ?_
    refine Run.region ?_
    refine RL.val (x_moveSl rfl) ?_
    refine RL.val (x_lenSl Try.underlying35 rfl) ?_
    refine RL.val (x_moveI rfl) ?_
    refine RL.nil ?_
    refine Run.block ?_
    refine Run.loop (ι := Nat) (fun i ρ' w' => Holds ρ' [(0, .slice (a) (xs.length) (c)), (1, .slice (d) (ys.length) (e)), (12, .int .i64 (((xs.length : Nat) : Int))), (13, .int .i64 (((i : Nat) : Int)))] ∧ Ext w w' ∧ (i ≤ xs.length) ∧ (SameB xs ys i)) (fun i => xs.length - i) 0 ?_ ?_
    · refine ⟨⟨rfl, rfl, rfl, rfl, trivial⟩, (Keeps.refl _ w), ?_, ?_⟩
      · omega
      · exact SameB.zero _ _
    rintro i ρ_3 w_1 ⟨hH_2, K0, hi, hno⟩ ih1
    obtain ⟨ρ₀, rfl⟩ := hH_2.ex
    clear hH_2
    refine Run.seq ?_
    refine Run.region ?_
    refine RL.val (x_ltI rfl rfl) ?_
    refine RL.nil ?_
    refine Run.seq ?_
    refine Run.cond rfl (fun hc14 => ?_) (fun hc14 => ?_)
    · try simp only [br] at hc14
      refine Run.skip ?_
      refine Run.seq ?_
      refine Run.block ?_
      refine Run.seq ?_
      refine Run.region ?_
      refine RL.val (x_moveI rfl) ?_
      refine RL.val (x_assignI rfl) ?_
      refine RL.nil ?_
      refine Run.seq ?_
      obtain ⟨b_6, o_7, x, hx, ha_8, hc_9⟩ := hs.el (i := i) (by omega)
      have hc_9_lt := hc_9.lt
      replace hc_9 := hc_9.ext K0
      obtain ⟨b_12, o_13, y, hy, ha_14, hc_15⟩ := ht.el (i := i) (by omega)
      have hc_15_lt := hc_15.lt
      replace hc_15 := hc_15.ext K0
      refine Run.draw' (m := 9) (by kernel_rfl) rfl ?_
      intro w_4 K_5
      replace hc_9 := hc_9.ext K_5
      replace hc_15 := hc_15.ext K_5
      replace K0 := K0.ext K_5
      refine RA.take (v := .slice (a) (xs.length) (c)) 0 rfl (by kernel_rfl) rfl (by rintro _ rfl; exact (x_moveSl rfl)) ?_
      refine RA.take (v := .int .i64 (((i : Nat) : Int))) 1 rfl (by kernel_rfl) rfl (by rintro _ rfl; exact (x_moveI rfl)) ?_
      refine RA.take (v := .pointer (some ⟨b_6, o_7 + i * 2, none⟩)) 2 rfl (by kernel_rfl) rfl (by rintro _ rfl; exact (x_idxN Try.underlying35 ty42 rfl rfl ha_8 (by omega))) ?_
      refine RA.take (v := .agg #[.int .i64 ((x).owner), .string ((x).key)]) 3 rfl (by kernel_rfl) rfl (by rintro _ rfl; exact (x_ldV (v := .agg #[.int .i64 ((x).owner), .string ((x).key)]) (y := x) ty42 rfl hc_9 rfl)) ?_
      refine RA.take (v := .slice (d) (ys.length) (e)) 4 rfl (by kernel_rfl) rfl (by rintro _ rfl; exact (x_moveSl rfl)) ?_
      refine RA.take (v := .int .i64 (((i : Nat) : Int))) 5 rfl (by kernel_rfl) rfl (by rintro _ rfl; exact (x_moveI rfl)) ?_
      refine RA.take (v := .pointer (some ⟨b_12, o_13 + i * 2, none⟩)) 6 rfl (by kernel_rfl) rfl (by rintro _ rfl; exact (x_idxN Try.underlying35 ty42 rfl rfl ha_14 (by omega))) ?_
      refine RA.take (v := .agg #[.int .i64 ((y).owner), .string ((y).key)]) 7 rfl (by kernel_rfl) rfl (by rintro _ rfl; exact (x_ldV (v := .agg #[.int .i64 ((y).owner), .string ((y).key)]) (y := y) ty42 rfl hc_15 rfl)) ?_
      refine RA.take (v := .bool (!decide (x = y))) 8 rfl (by kernel_rfl) rfl (by rintro _ rfl; exact (x_neA (by kernel_rfl) rfl rfl (eq_Hint x y))) ?_
      refine RA.done (by kernel_rfl) ?_
      refine Run.cond rfl (fun hc24 => ?_) (fun hc24 => ?_)
      · try simp only [br] at hc24
        refine Run.seq ?_
        refine Run.region ?_
        refine RL.val (x_assignB rfl) ?_
        refine RL.nil ?_
        refine Run.ret1 (v := .bool (false)) Try.func20 rfl rfl ?_
        exact ⟨_, rfl, by rw [decide_eq_false (ne_of_at hx hy hc24)], K0⟩
      · try simp only [br] at hc24
        refine Run.skip ?_
        refine Run.inBlock ?_
        refine Run.region ?_
        refine RL.val (x_add rfl rfl (by omega) (by omega)) ?_
        refine RL.val (x_moveI rfl) ?_
        refine RL.nil ?_
        refine ih1 (i + 1) _ _ ?_ (by omega)
        refine ⟨⟨rfl, rfl, rfl, rfl, trivial⟩, K0, ?_, ?_⟩
        · omega
        · exact hno.step hx hy hc24
    · try simp only [br] at hc14
      refine Run.exit rfl ?_
      refine Run.seq ?_
      refine Run.region ?_
      refine RL.val (x_assignB rfl) ?_
      refine RL.nil ?_
      refine Run.ret1 (v := .bool (true)) Try.func20 rfl rfl ?_
      exact ⟨_, rfl, by rw [decide_eq_true (hno.all hlen (by omega))], K0⟩

set_option maxHeartbeats 4000000 in
theorem index_int (a : Option Addr) (xs : List Int) (c : Nat) (x : Int) (w : World) (hs : SlOf w a xs) (hl : xs.length ≤ 4294967295) :
    Calls Try.prog 39 #[.slice (a) (xs.length) (c), .int .i64 (x)] w (Ret (fun v w' => v = .int .i64 (findI (x == ·) xs) ∧ Ext w w')) := by
  refine calls_run (n := 19) Try.func39 rfl rfl rfl ?_
  refine Run.seq ?_
  refine Run.region ?_
  refine RL.val (x_assignI rfl) ?_
  refine RL.nil ?_
  refine Run.seq ?_
  refine Run.seq ?_
  refine Run.region ?_
  refine RL.val (x_moveSl rfl) ?_
  refine RL.val (x_lenSl Try.underlying22 rfl) ?_
  refine RL.val (x_moveI rfl) ?_
  refine RL.nil ?_
  refine Run.block ?_
  refine Run.loop (ι := Nat) (fun i ρ' w' => Holds ρ' [(0, .slice (a) (xs.length) (c)), (1, .int .i64 (x)), (7, .int .i64 (((xs.length : Nat) : Int))), (8, .int .i64 (((i : Nat) : Int)))] ∧ Ext w w' ∧ (i ≤ xs.length) ∧ (NoB (x == ·) xs i)) (fun i => xs.length - i) 0 ?_ ?_
  · refine ⟨⟨rfl, rfl, rfl, rfl, trivial⟩, (Keeps.refl _ w), ?_, ?_⟩
    · omega
    · exact NoB.zero _ _
  rintro i ρ_3 w_1 ⟨hH_2, K0, hi, hno⟩ ih1
  obtain ⟨ρ₀, rfl⟩ := hH_2.ex
  clear hH_2
  refine Run.seq ?_
  refine Run.region ?_
  refine RL.val (x_ltI rfl rfl) ?_
  refine RL.nil ?_
  refine Run.seq ?_
  refine Run.cond rfl (fun hc9 => ?_) (fun hc9 => ?_)
  · try simp only [br] at hc9
    refine Run.skip ?_
    refine Run.seq ?_
    refine Run.block ?_
    refine Run.seq ?_
    refine Run.region ?_
    refine RL.val (x_moveI rfl) ?_
    refine RL.val (x_assignI rfl) ?_
    refine RL.nil ?_
    refine Run.seq ?_
    refine Run.region ?_
    refine RL.val (x_moveI rfl) ?_
    refine RL.val (x_moveSl rfl) ?_
    refine RL.val (x_moveI rfl) ?_
    obtain ⟨b_4, o_5, e, hx, ha_6, hc_7⟩ := hs.el (i := i) (by omega)
    have hc_7_lt := hc_7.lt
    replace hc_7 := hc_7.ext K0
    refine RL.val (x_idxN Try.underlying22 ty3 rfl rfl ha_6 (by omega)) ?_
    refine RL.val (x_ldV (v := .int .i64 (e)) (y := e) ty3 rfl hc_7 rfl) ?_
    refine RL.val (x_eqI rfl rfl) ?_
    refine RL.nil ?_
    refine Run.cond rfl (fun hc16 => ?_) (fun hc16 => ?_)
    · try simp only [br] at hc16
      refine Run.seq ?_
      refine Run.region ?_
      refine RL.val (x_moveI rfl) ?_
      refine RL.val (x_assignI rfl) ?_
      refine RL.nil ?_
      refine Run.ret1 (v := .int .i64 (((i : Nat) : Int))) Try.func39 rfl rfl ?_
      exact ⟨_, rfl, by rw [findI_at hx (by simpa using hc16) hno], K0⟩
    · try simp only [br] at hc16
      refine Run.skip ?_
      refine Run.inBlock ?_
      refine Run.region ?_
      refine RL.val (x_add rfl rfl (by omega) (by omega)) ?_
      refine RL.val (x_moveI rfl) ?_
      refine RL.nil ?_
      refine ih1 (i + 1) _ _ ?_ (by omega)
      refine ⟨⟨rfl, rfl, rfl, rfl, trivial⟩, K0, ?_, ?_⟩
      · omega
      · exact hno.step hx (by simpa using hc16)
  · try simp only [br] at hc9
    refine Run.exit rfl ?_
    refine Run.seq ?_
    refine Run.region ?_
    refine RL.val (x_assignI rfl) ?_
    refine RL.nil ?_
    refine Run.ret1 (v := .int .i64 (-1)) Try.func39 rfl rfl ?_
    exact ⟨_, rfl, by rw [findI_no hno (by omega)], K0⟩

set_option maxHeartbeats 4000000 in
theorem contains_int (a : Option Addr) (xs : List Int) (c : Nat) (x : Int) (w : World) (hs : SlOf w a xs) (hl : xs.length ≤ 4294967295) :
    Calls Try.prog 15 #[.slice (a) (xs.length) (c), .int .i64 (x)] w (Ret (fun v w' => v = .bool (xs.any (x == ·)) ∧ Ext w w')) := by
  refine calls_run (n := 9) Try.func15 rfl rfl rfl ?_
  refine Run.seq ?_
  refine Run.region ?_
  refine RL.val (x_assignB rfl) ?_
  refine RL.nil ?_
  refine Run.seq ?_
  refine Run.region ?_
  refine RL.val (x_moveSl rfl) ?_
  refine RL.val (x_moveI rfl) ?_
  refine RL.st rfl <| St1.call (vals := [.slice (a) (xs.length) (c), .int .i64 (x)]) en39 rfl (index_int _ _ _ x _ hs (by omega)) ?_
  rintro _ w_1 ⟨rfl, K_2⟩
  have K0 := (K_2 : Ext w _)
  refine RL.val (x_geI rfl rfl) ?_
  refine RL.val (x_assignB rfl) ?_
  refine RL.nil ?_
  refine Run.ret1 (v := .bool (decide (0 ≤ (findI (x == ·) xs)))) Try.func15 rfl rfl ?_
  exact ⟨_, rfl, by rw [findI_ge], K0⟩

set_option maxHeartbeats 4000000 in
theorem equal_int (a : Option Addr) (xs : List Int) (c : Nat) (d : Option Addr) (ys : List Int) (e : Nat) (w : World) (hs : SlOf w a xs) (ht : SlOf w d ys) (hl : xs.length ≤ 4294967295) :
    Calls Try.prog 14 #[.slice (a) (xs.length) (c), .slice (d) (ys.length) (e)] w (Ret (fun v w' => v = .bool (decide (xs = ys)) ∧ Ext w w')) := by
  refine calls_run (n := 26) Try.func14 rfl rfl rfl ?_
  refine Run.seq ?_
  refine Run.region ?_
  refine RL.val (x_assignB rfl) ?_
  refine RL.nil ?_
  refine Run.seq ?_
  refine Run.seq ?_
  refine Run.region ?_
  refine RL.val (x_moveSl rfl) ?_
  refine RL.val (x_lenSl Try.underlying22 rfl) ?_
  refine RL.val (x_moveSl rfl) ?_
  refine RL.val (x_lenSl Try.underlying22 rfl) ?_
  refine RL.val (x_neI rfl rfl) ?_
  refine RL.nil ?_
  refine Run.cond rfl (fun hc10 => ?_) (fun hc10 => ?_)
  · try simp only [br] at hc10
    refine Run.seq ?_
    refine Run.region ?_
    refine RL.val (x_assignB rfl) ?_
    refine RL.nil ?_
    refine Run.ret1 (v := .bool (false)) Try.func14 rfl rfl ?_
    exact ⟨_, rfl, by rw [decide_eq_false (fun h => hc10 (by rw [h]))], (Keeps.refl _ w)⟩
  · try simp only [br] at hc10
    have hlen : xs.length = ys.length := by omega
    refine Run.skip ?_
    refine Run.seq ?_
    refine Run.seq ?_
    refine Run.region ?_
    refine RL.val (x_moveSl rfl) ?_
    refine RL.val (x_lenSl Try.underlying22 rfl) ?_
    refine RL.val (x_moveI rfl) ?_
    refine RL.nil ?_
    refine Run.block ?_
    refine Run.loop (ι := Nat) (fun i ρ' w' => Holds ρ' [(0, .slice (a) (xs.length) (c)), (1, .slice (d) (ys.length) (e)), (12, .int .i64 (((xs.length : Nat) : Int))), (13, .int .i64 (((i : Nat) : Int)))] ∧ Ext w w' ∧ (i ≤ xs.length) ∧ (SameB xs ys i)) (fun i => xs.length - i) 0 ?_ ?_
    · refine ⟨⟨rfl, rfl, rfl, rfl, trivial⟩, (Keeps.refl _ w), ?_, ?_⟩
      · omega
      · exact SameB.zero _ _
    rintro i ρ_3 w_1 ⟨hH_2, K0, hi, hno⟩ ih1
    obtain ⟨ρ₀, rfl⟩ := hH_2.ex
    clear hH_2
    refine Run.seq ?_
    refine Run.region ?_
    refine RL.val (x_ltI rfl rfl) ?_
    refine RL.nil ?_
    refine Run.seq ?_
    refine Run.cond rfl (fun hc14 => ?_) (fun hc14 => ?_)
    · try simp only [br] at hc14
      refine Run.skip ?_
      refine Run.seq ?_
      refine Run.block ?_
      refine Run.seq ?_
      refine Run.region ?_
      refine RL.val (x_moveI rfl) ?_
      refine RL.val (x_assignI rfl) ?_
      refine RL.nil ?_
      refine Run.seq ?_
      obtain ⟨b_6, o_7, x, hx, ha_8, hc_9⟩ := hs.el (i := i) (by omega)
      have hc_9_lt := hc_9.lt
      replace hc_9 := hc_9.ext K0
      obtain ⟨b_12, o_13, y, hy, ha_14, hc_15⟩ := ht.el (i := i) (by omega)
      have hc_15_lt := hc_15.lt
      replace hc_15 := hc_15.ext K0
      refine Run.draw' (m := 9) (by kernel_rfl) rfl ?_
      intro w_4 K_5
      replace hc_9 := hc_9.ext K_5
      replace hc_15 := hc_15.ext K_5
      replace K0 := K0.ext K_5
      refine RA.take (v := .slice (a) (xs.length) (c)) 0 rfl (by kernel_rfl) rfl (by rintro _ rfl; exact (x_moveSl rfl)) ?_
      refine RA.take (v := .int .i64 (((i : Nat) : Int))) 1 rfl (by kernel_rfl) rfl (by rintro _ rfl; exact (x_moveI rfl)) ?_
      refine RA.take (v := .pointer (some ⟨b_6, o_7 + i * 1, none⟩)) 2 rfl (by kernel_rfl) rfl (by rintro _ rfl; exact (x_idxN Try.underlying22 ty3 rfl rfl ha_8 (by omega))) ?_
      refine RA.take (v := .int .i64 (x)) 3 rfl (by kernel_rfl) rfl (by rintro _ rfl; exact (x_ldV (v := .int .i64 (x)) (y := x) ty3 rfl hc_9 rfl)) ?_
      refine RA.take (v := .slice (d) (ys.length) (e)) 4 rfl (by kernel_rfl) rfl (by rintro _ rfl; exact (x_moveSl rfl)) ?_
      refine RA.take (v := .int .i64 (((i : Nat) : Int))) 5 rfl (by kernel_rfl) rfl (by rintro _ rfl; exact (x_moveI rfl)) ?_
      refine RA.take (v := .pointer (some ⟨b_12, o_13 + i * 1, none⟩)) 6 rfl (by kernel_rfl) rfl (by rintro _ rfl; exact (x_idxN Try.underlying22 ty3 rfl rfl ha_14 (by omega))) ?_
      refine RA.take (v := .int .i64 (y)) 7 rfl (by kernel_rfl) rfl (by rintro _ rfl; exact (x_ldV (v := .int .i64 (y)) (y := y) ty3 rfl hc_15 rfl)) ?_
      refine RA.take (v := .bool (x != y)) 8 rfl (by kernel_rfl) rfl (by rintro _ rfl; exact (x_neI rfl rfl)) ?_
      refine RA.done (by kernel_rfl) ?_
      refine Run.cond rfl (fun hc24 => ?_) (fun hc24 => ?_)
      · try simp only [br] at hc24
        refine Run.seq ?_
        refine Run.region ?_
        refine RL.val (x_assignB rfl) ?_
        refine RL.nil ?_
        refine Run.ret1 (v := .bool (false)) Try.func14 rfl rfl ?_
        exact ⟨_, rfl, by rw [decide_eq_false (ne_of_at hx hy hc24)], K0⟩
      · try simp only [br] at hc24
        refine Run.skip ?_
        refine Run.inBlock ?_
        refine Run.region ?_
        refine RL.val (x_add rfl rfl (by omega) (by omega)) ?_
        refine RL.val (x_moveI rfl) ?_
        refine RL.nil ?_
        refine ih1 (i + 1) _ _ ?_ (by omega)
        refine ⟨⟨rfl, rfl, rfl, rfl, trivial⟩, K0, ?_, ?_⟩
        · omega
        · exact hno.step hx hy hc24
    · try simp only [br] at hc14
      refine Run.exit rfl ?_
      refine Run.seq ?_
      refine Run.region ?_
      refine RL.val (x_assignB rfl) ?_
      refine RL.nil ?_
      refine Run.ret1 (v := .bool (true)) Try.func14 rfl rfl ?_
      exact ⟨_, rfl, by rw [decide_eq_true (hno.all hlen (by omega))], K0⟩

set_option maxHeartbeats 4000000 in
theorem clone_int (a : Option Addr) (xs : List Int) (c : Nat) (w : World) (hs : SlOf w a xs) (hl : xs.length ≤ 4294967295) :
    Calls Try.prog 10 #[.slice (a) (xs.length) (c)] w (Ret (fun v w' => ∃ a' c', v = .slice a' xs.length c' ∧ OwnSl w' 3 a' c' xs ∧ (∀ b, own a' b → w.heap.size ≤ b) ∧ Ext w w')) := by
  refine calls_run (n := 8) Try.func10 rfl rfl rfl ?_
  refine Run.seq ?_
  refine Run.region ?_
  refine RL.val (x_assignSl rfl) ?_
  refine RL.nil ?_
  refine Run.seq ?_
  refine Run.seq ?_
  refine Run.region ?_
  refine RL.val (x_moveSl rfl) ?_
  refine RL.val (x_slNil Try.underlying22 rfl rfl) ?_
  refine RL.nil ?_
  refine Run.cond rfl (fun hc4 => ?_) (fun hc4 => ?_)
  · skip
    refine Run.seq ?_
    refine Run.region ?_
    refine RL.val (x_assignSl rfl) ?_
    refine RL.nil ?_
    refine Run.ret1 (v := .slice (none) (0) (0)) Try.func10 rfl rfl ?_
    have hx := hs.nil_of hc4; subst hx; exact ⟨_, rfl, none, 0, rfl, OwnSl.nil _ _, fun b h => absurd h (own_none b), (Keeps.refl _ w)⟩
  · skip
    refine Run.skip ?_
    refine Run.seq ?_
    refine Run.region ?_
    refine RL.st rfl <| St1.buildSlice ([] : List Int) Try.underlying22 ty3 rfl rfl (by first | decide | (simp [Enc.size])) ?_
    intro b_1 w_2 hl_5 ho_4 K_3
    have pg_6 : ∀ q_, own (some ⟨b_1, 0, none⟩) q_ → w.heap.size ≤ q_ := fun q_ h => Nat.le_trans (Nat.le_refl _) ((ge_new hl_5) q_ h)
    clear hl_5
    have K0 := (K_3 : Ext w _)
    refine RL.val (x_moveSl rfl) ?_
    refine RL.st rfl <| St1.append (xs := ([] : List Int)) (ys := xs) Try.underlying22 ty3 rfl rfl rfl ho_4 (hs.ext K0) (by first | omega | (simp only [lr]; omega)) (by decide) ?_
    intro a_7 c_8 w_9 ho_10 K_11 hm_12 hrm_13
    have pg_14 : ∀ q_, own a_7 q_ → w.heap.size ≤ q_ := hm_12.ge pg_6 K0.size
    replace K0 := K0.new K_11 pg_6
    clear hm_12
    clear hrm_13
    refine RL.val (x_assignSl rfl) ?_
    refine RL.nil ?_
    refine Run.ret1 (v := .slice (a_7) ((([] : List Int) ++ xs).length) (c_8)) Try.func10 rfl rfl ?_
    exact ⟨_, rfl, a_7, c_8, by rw [List.nil_append], by simpa using ho_10, pg_14, K0⟩

set_option maxHeartbeats 4000000 in
theorem indexFunc_int (a : Option Addr) (xs : List Int) (c : Nat) (gf : FuncId) (caps : List Value) (q : Int → Bool) (hen : Enters Try.prog gf) (w : World) (hs : SlOf w a xs) (hl : xs.length ≤ 4294967295) (hq : ∀ x ∈ xs, ∀ w', Ext w w' → Calls Try.prog gf (Enc.val x :: caps).toArray w' (Ret fun v w'' => v = .bool (q x) ∧ Ext w' w'')) :
    Calls Try.prog 35 #[.slice (a) (xs.length) (c), .func (.func gf) #[] caps.toArray] w (Ret (fun v w' => v = .int .i64 (findI q xs) ∧ Ext w w')) := by
  refine calls_run (n := 19) Try.func35 rfl rfl rfl ?_
  refine Run.seq ?_
  refine Run.region ?_
  refine RL.val (x_assignI rfl) ?_
  refine RL.nil ?_
  refine Run.seq ?_
  refine Run.seq ?_
  refine Run.region ?_
  refine RL.val (x_moveSl rfl) ?_
  refine RL.val (x_lenSl Try.underlying22 rfl) ?_
  refine RL.val (x_moveI rfl) ?_
  refine RL.nil ?_
  refine Run.block ?_
  refine Run.loop (ι := Nat) (fun i ρ' w' => Holds ρ' [(0, .slice (a) (xs.length) (c)), (1, .func (.func gf) #[] caps.toArray), (7, .int .i64 (((xs.length : Nat) : Int))), (8, .int .i64 (((i : Nat) : Int)))] ∧ Ext w w' ∧ (i ≤ xs.length) ∧ (NoB q xs i)) (fun i => xs.length - i) 0 ?_ ?_
  · refine ⟨⟨rfl, rfl, rfl, rfl, trivial⟩, (Keeps.refl _ w), ?_, ?_⟩
    · omega
    · exact NoB.zero _ _
  rintro i ρ_3 w_1 ⟨hH_2, K0, hi, hno⟩ ih1
  obtain ⟨ρ₀, rfl⟩ := hH_2.ex
  clear hH_2
  refine Run.seq ?_
  refine Run.region ?_
  refine RL.val (x_ltI rfl rfl) ?_
  refine RL.nil ?_
  refine Run.seq ?_
  refine Run.cond rfl (fun hc9 => ?_) (fun hc9 => ?_)
  · try simp only [br] at hc9
    refine Run.skip ?_
    refine Run.seq ?_
    refine Run.block ?_
    refine Run.seq ?_
    refine Run.region ?_
    refine RL.val (x_moveI rfl) ?_
    refine RL.val (x_assignI rfl) ?_
    refine RL.nil ?_
    refine Run.seq ?_
    refine Run.region ?_
    refine RL.val (x_moveF rfl) ?_
    refine RL.val (x_moveSl rfl) ?_
    refine RL.val (x_moveI rfl) ?_
    obtain ⟨b_4, o_5, e, hx, ha_6, hc_7⟩ := hs.el (i := i) (by omega)
    have hc_7_lt := hc_7.lt
    replace hc_7 := hc_7.ext K0
    refine RL.val (x_idxN Try.underlying22 ty3 rfl rfl ha_6 (by omega)) ?_
    refine RL.val (x_ldV (v := .int .i64 (e)) (y := e) ty3 rfl hc_7 rfl) ?_
    refine RL.st rfl <| St1.callV (first := []) (vals := .int .i64 (e) :: caps) hen rfl rfl (hq e (mem_of_at hx) _ K0) ?_
    rintro _ w_10 ⟨rfl, K_11⟩
    replace hc_7 := hc_7.ext K_11
    replace K0 := K0.ext K_11
    refine RL.nil ?_
    refine Run.cond rfl (fun hc16 => ?_) (fun hc16 => ?_)
    · skip
      refine Run.seq ?_
      refine Run.region ?_
      refine RL.val (x_moveI rfl) ?_
      refine RL.val (x_assignI rfl) ?_
      refine RL.nil ?_
      refine Run.ret1 (v := .int .i64 (((i : Nat) : Int))) Try.func35 rfl rfl ?_
      exact ⟨_, rfl, by rw [findI_at hx hc16 hno], K0⟩
    · skip
      refine Run.skip ?_
      refine Run.inBlock ?_
      refine Run.region ?_
      refine RL.val (x_add rfl rfl (by omega) (by omega)) ?_
      refine RL.val (x_moveI rfl) ?_
      refine RL.nil ?_
      refine ih1 (i + 1) _ _ ?_ (by omega)
      refine ⟨⟨rfl, rfl, rfl, rfl, trivial⟩, K0, ?_, ?_⟩
      · omega
      · exact hno.step hx hc16
  · try simp only [br] at hc9
    refine Run.exit rfl ?_
    refine Run.seq ?_
    refine Run.region ?_
    refine RL.val (x_assignI rfl) ?_
    refine RL.nil ?_
    refine Run.ret1 (v := .int .i64 (-1)) Try.func35 rfl rfl ?_
    exact ⟨_, rfl, by rw [findI_no hno (by omega)], K0⟩

set_option maxHeartbeats 4000000 in
theorem there (b : Nat) (m : Bool) (al : Option Addr) (n cl : Nat) (c : Nat → Int) (now : Int) (w : World) (hb : Blk w b (boxCells m al n cl c now) 51) :
    Calls Try.prog 42 #[.pointer (some ⟨b, 0, none⟩)] w (Ret (fun v w' => v = .bool m ∧ Ext w w')) := by
  refine calls_run (n := 11) Try.func42 rfl rfl rfl ?_
  refine Run.seq ?_
  refine Run.region ?_
  refine RL.val (x_assignB rfl) ?_
  refine RL.nil ?_
  refine Run.seq ?_
  refine Run.region ?_
  refine RL.val (x_moveP rfl) ?_
  refine RL.val (litT (x_ptrNotNil Try.underlying34 rfl rfl) rfl) ?_
  refine RL.val (x_moveB rfl) ?_
  refine RL.gst (wantedT1 rfl rfl rfl rfl) <| St1.val (x_moveP rfl) ?_
  refine RL.gst (wantedT1 rfl rfl rfl rfl) <| St1.val (x_nilCheck rfl) ?_
  refine RL.gst (wantedT1 rfl rfl rfl rfl) <| St1.val (x_fld (o' := 0) Try.underlying51 rfl ty4 rfl rfl rfl) ?_
  refine RL.gst (wantedT1 rfl rfl rfl rfl) <| St1.val (x_ld (v := .bool (m)) ty4 rfl rfl (hb.cl.field (i := 0) rfl)) ?_
  refine RL.val (x_andT rfl rfl rfl) ?_
  refine RL.val (x_assignB rfl) ?_
  refine RL.nil ?_
  refine Run.ret1 (v := .bool (m)) Try.func42 rfl rfl ?_
  exact ⟨_, rfl, rfl, (Keeps.refl _ w)⟩

set_option maxHeartbeats 4000000 in
theorem thereNil (w : World) :
    Calls Try.prog 42 #[.pointer none] w (Ret (fun v w' => v = .bool false ∧ Ext w w')) := by
  refine calls_run (n := 11) Try.func42 rfl rfl rfl ?_
  refine Run.seq ?_
  refine Run.region ?_
  refine RL.val (x_assignB rfl) ?_
  refine RL.nil ?_
  refine Run.seq ?_
  refine Run.region ?_
  refine RL.val (x_moveP rfl) ?_
  refine RL.val (litF (x_ptrNotNil Try.underlying34 rfl rfl) rfl) ?_
  refine RL.val (x_moveB rfl) ?_
  refine RL.guardF (wantedT0 rfl rfl rfl rfl) ?_
  refine RL.guardF (wantedT0 rfl rfl rfl rfl) ?_
  refine RL.guardF (wantedT0 rfl rfl rfl rfl) ?_
  refine RL.guardF (wantedT0 rfl rfl rfl rfl) ?_
  refine RL.val (x_and (b := false) (e := false) rfl rfl rfl) ?_
  refine RL.val (x_assignB rfl) ?_
  refine RL.nil ?_
  refine Run.ret1 (v := .bool (false)) Try.func42 rfl rfl ?_
  exact ⟨_, rfl, rfl, (Keeps.refl _ w)⟩

set_option maxHeartbeats 4000000 in
theorem waits (b : Nat) (k : KeptM) (al : Option Addr) (n cl : Nat) (c : Nat → Int) (now : Int) (w : World) (hb : Blk w b (boxCells true al n cl c now) 51) (hn : now ≤ 9223372036854775807) (h0 : 0 ≤ now) (hk : k.since ≤ now) :
    Calls Try.prog 43 #[.pointer (some ⟨b, 0, none⟩), .agg #[.int .i64 (((k).h).owner), .string (((k).h).key), .int .i64 ((k).since)]] w (Ret (fun v w' => v = .bool (waitsB now k) ∧ Ext w w')) := by
  refine calls_run (n := 18) Try.func43 rfl rfl rfl ?_
  refine Run.seq ?_
  refine Run.region ?_
  refine RL.st rfl <| St1.box (v := .agg #[.int .i64 (((k).h).owner), .string (((k).h).key), .int .i64 ((k).since)]) rfl ?_
  intro b_1 w_2 hl_5 hb_4 K_3
  replace hb_4 : Blk w_2 b_1 [.int .i64 (((k).h).owner), .string (((k).h).key), .int .i64 ((k).since)] 76 := hb_4
  have ne_6 : b < b_1 := Nat.lt_of_lt_of_le hb.lt hl_5
  have : w.heap.size ≤ b_1 := hl_5
  clear hl_5
  replace hb := hb.ext K_3
  have K0 := (K_3 : Ext w _)
  refine RL.val (x_assignB rfl) ?_
  refine RL.nil ?_
  refine Run.seq ?_
  refine Run.draw' (m := 14) (by kernel_rfl) rfl ?_
  intro w_7 K_8
  replace hb := hb.ext K_8
  replace hb_4 := hb_4.ext K_8
  replace K0 := K0.ext K_8
  refine RA.take (v := .pointer (some ⟨b_1, 2, none⟩)) 0 rfl (by kernel_rfl) rfl (by rintro _ rfl; exact (x_fld (o' := 2) Try.underlying76 rfl ty3 rfl rfl rfl)) ?_
  refine RA.take (v := .int .i64 ((k).since)) 1 rfl (by kernel_rfl) rfl (by rintro _ rfl; exact (x_ld (v := .int .i64 ((k).since)) ty3 rfl rfl (hb_4.cl.field (i := 2) rfl))) ?_
  refine RA.take (v := .bool (decide (0 ≤ ((k).since)))) 2 rfl (by kernel_rfl) rfl (by rintro _ rfl; exact (x_geI rfl rfl)) ?_
  refine RA.take (v := .bool (decide (0 ≤ ((k).since)))) 3 rfl (by kernel_rfl) rfl (by rintro _ rfl; exact (x_moveB rfl)) ?_
  refine RA.gtake (v := .pointer (some ⟨b, 0, none⟩)) 4 rfl (by kernel_rfl) rfl (wantedT rfl rfl rfl rfl) (fun hg => by rintro _ rfl; exact (x_moveP rfl)) ?_
  refine RA.gtake (v := .pointer (some ⟨b, 0, none⟩)) 5 rfl (by kernel_rfl) rfl (wantedT rfl rfl rfl rfl) (fun hg => by rintro _ rfl; exact (x_nilCheck (gvr hg))) ?_
  refine RA.gtake (v := .pointer (some ⟨b, 10, none⟩)) 6 rfl (by kernel_rfl) rfl (wantedT rfl rfl rfl rfl) (fun hg => by rintro _ rfl; exact (x_fld (o' := 10) Try.underlying51 rfl ty3 rfl (gvr hg) rfl)) ?_
  refine RA.gtake (v := .int .i64 (now)) 7 rfl (by kernel_rfl) rfl (wantedT rfl rfl rfl rfl) (fun hg => by rintro _ rfl; exact (x_ld (v := .int .i64 (now)) ty3 (gvr hg) rfl (hb.cl.field (i := 10) rfl))) ?_
  refine RA.gtake (v := .pointer (some ⟨b_1, 2, none⟩)) 8 rfl (by kernel_rfl) rfl (wantedT rfl rfl rfl rfl) (fun hg => by rintro _ rfl; exact (x_fld (o' := 2) Try.underlying76 rfl ty3 rfl rfl rfl)) ?_
  refine RA.gtake (v := .int .i64 ((k).since)) 9 rfl (by kernel_rfl) rfl (wantedT rfl rfl rfl rfl) (fun hg => by rintro _ rfl; exact (x_ld (v := .int .i64 ((k).since)) ty3 (gvr hg) rfl (hb_4.cl.field (i := 2) rfl))) ?_
  refine RA.gtake (v := .int .i64 (now - ((k).since))) 10 rfl (by kernel_rfl) rfl (wantedT rfl rfl rfl rfl) (fun hg => by rintro _ rfl; exact (x_sub (gvr hg) (gvr hg) (by have := of_decide_eq_true hg; omega) (by have := of_decide_eq_true hg; omega))) ?_
  refine RA.gtake (v := .bool (decide ((now - ((k).since)) < 1000))) 11 rfl (by kernel_rfl) rfl (wantedT rfl rfl rfl rfl) (fun hg => by rintro _ rfl; exact (x_ltI (gvr hg) rfl)) ?_
  refine RA.take (v := .bool ((decide (0 ≤ ((k).since))) && (decide ((now - ((k).since)) < 1000)))) 12 rfl (by kernel_rfl) rfl (by rintro _ rfl; exact (x_and rfl rfl rfl)) ?_
  refine RA.take (v := .bool ((decide (0 ≤ ((k).since))) && (decide ((now - ((k).since)) < 1000)))) 13 rfl (by kernel_rfl) rfl (by rintro _ rfl; exact (x_assignB rfl)) ?_
  refine RA.done (by kernel_rfl) ?_
  refine Run.ret1 (v := .bool ((decide (0 ≤ ((k).since))) && (decide ((now - ((k).since)) < 1000)))) Try.func43 rfl rfl ?_
  exact ⟨_, rfl, rfl, K0⟩

set_option maxHeartbeats 4000000 in
theorem find1 (k : KeptM) (bh : Nat) (h : Hint) (w : World) (hbh : Blk w bh [.int .i64 h.owner, .string h.key] 42) :
    Calls Try.prog 54 #[.agg #[.int .i64 (((k).h).owner), .string (((k).h).key), .int .i64 ((k).since)], .pointer (some ⟨bh, 0, none⟩)] w (Ret (fun v w' => v = .bool (isH h k) ∧ Ext w w')) := by
  refine calls_run (n := 8) Try.func54 rfl rfl rfl ?_
  refine Run.seq ?_
  refine Run.region ?_
  refine RL.st rfl <| St1.box (v := .agg #[.int .i64 (((k).h).owner), .string (((k).h).key), .int .i64 ((k).since)]) rfl ?_
  intro b_1 w_2 hl_5 hb_4 K_3
  replace hb_4 : Blk w_2 b_1 [.int .i64 (((k).h).owner), .string (((k).h).key), .int .i64 ((k).since)] 76 := hb_4
  have ne_6 : bh < b_1 := Nat.lt_of_lt_of_le hbh.lt hl_5
  have : w.heap.size ≤ b_1 := hl_5
  clear hl_5
  replace hbh := hbh.ext K_3
  have K0 := (K_3 : Ext w _)
  refine RL.val (x_assignB rfl) ?_
  refine RL.nil ?_
  refine Run.seq ?_
  refine Run.region ?_
  refine RL.val (x_fld (o' := 0) Try.underlying76 rfl ty42 rfl rfl rfl) ?_
  refine RL.val (x_lds (cs := #[.int .i64 (((k).h).owner), .string (((k).h).key)]) ty42 rfl rfl (hb_4.cl.drop 0 2)) ?_
  refine RL.val (x_lds (cs := #[.int .i64 ((h).owner), .string ((h).key)]) ty42 rfl rfl (hbh.cl.drop 0 2)) ?_
  refine RL.val (x_eqA (by kernel_rfl) rfl rfl (eq_Hint ((k).h) h)) ?_
  refine RL.val (x_assignB rfl) ?_
  refine RL.nil ?_
  refine Run.ret1 (v := .bool (decide ((k).h = h))) Try.func54 rfl rfl ?_
  exact ⟨_, rfl, rfl, K0⟩

set_option maxHeartbeats 4000000 in
theorem findB (b : Nat) (al : Option Addr) (cl : Nat) (l : List KeptM) (now : Int) (h : Hint) (w : World) (hb : Blk w b (boxCells true al l.length cl (cntO l) now) 51) (hs : SlOf w al l) (hll : l.length ≤ 4294967295) :
    Calls Try.prog 46 #[.pointer (some ⟨b, 0, none⟩), .agg #[.int .i64 ((h).owner), .string ((h).key)]] w (Ret (fun v w' => v = .int .i64 (findI (isH h) l) ∧ Ext w w')) := by
  replace hb : Blk w b [.bool (true), .slice (al) (l.length) (cl), .int .i64 (cntO l 0), .int .i64 (cntO l 1), .int .i64 (cntO l 2), .int .i64 (cntO l 3), .int .i64 (cntO l 4), .int .i64 (cntO l 5), .int .i64 (cntO l 6), .int .i64 (cntO l 7), .int .i64 (now)] 51 := hb
  refine calls_run (n := 11) Try.func46 rfl rfl rfl ?_
  refine Run.seq ?_
  refine Run.region ?_
  refine RL.st rfl <| St1.box (v := .agg #[.int .i64 ((h).owner), .string ((h).key)]) rfl ?_
  intro b_1 w_2 hl_5 hb_4 K_3
  replace hb_4 : Blk w_2 b_1 [.int .i64 ((h).owner), .string ((h).key)] 42 := hb_4
  have ne_6 : b < b_1 := Nat.lt_of_lt_of_le hb.lt hl_5
  have : w.heap.size ≤ b_1 := hl_5
  clear hl_5
  replace hb := hb.ext K_3
  have K0 := (K_3 : Ext w _)
  refine RL.val (x_assignI rfl) ?_
  refine RL.nil ?_
  refine Run.seq ?_
  refine Run.region ?_
  refine RL.val (x_moveP rfl) ?_
  refine RL.val (x_nilCheck rfl) ?_
  refine RL.val (x_fld (o' := 1) Try.underlying51 rfl ty48 rfl rfl rfl) ?_
  refine RL.val (x_ld (v := .slice (al) (l.length) (cl)) ty48 rfl rfl (hb.cl.field (i := 1) rfl)) ?_
  refine RL.val (x_mkFunc (a := []) (c := [.pointer (some ⟨b_1, 0, none⟩)]) rfl rfl) ?_
  refine RL.st rfl <| St1.call (vals := [.slice (al) (l.length) (cl), .func (.func 54) #[] #[.pointer (some ⟨b_1, 0, none⟩)]]) en53 rfl (indexFunc_kept _ _ _ 54 _ (isH h) en54 _ (hs.ext K0) (by omega) (fun x _ w' K' => find1 x b_1 h w' (hb_4.ext K'))) ?_
  rintro _ w_7 ⟨rfl, K_8⟩
  replace hb := hb.ext K_8
  replace hb_4 := hb_4.ext K_8
  replace K0 := K0.ext K_8
  refine RL.val (x_assignI rfl) ?_
  refine RL.nil ?_
  refine Run.ret1 (v := .int .i64 (findI (isH h) l)) Try.func46 rfl rfl ?_
  exact ⟨_, rfl, rfl, K0⟩

set_option maxHeartbeats 4000000 in
theorem look (b : Nat) (al : Option Addr) (cl : Nat) (l : List KeptM) (now : Int) (h : Hint) (w : World) (hb : Blk w b (boxCells true al l.length cl (cntO l) now) 51) (hs : SlOf w al l) (hll : l.length ≤ 4294967295) (hkl : h.key.size ≤ 4294967295) :
    Calls Try.prog 44 #[.pointer (some ⟨b, 0, none⟩), .agg #[.int .i64 ((h).owner), .string ((h).key)]] w (Ret (fun v w' => v = .tuple #[.int .i64 (if hE h = 0 then findI (isH h) l else -1), .int .i64 (hE h)] ∧ Ext w w')) := by
  replace hb : Blk w b [.bool (true), .slice (al) (l.length) (cl), .int .i64 (cntO l 0), .int .i64 (cntO l 1), .int .i64 (cntO l 2), .int .i64 (cntO l 3), .int .i64 (cntO l 4), .int .i64 (cntO l 5), .int .i64 (cntO l 6), .int .i64 (cntO l 7), .int .i64 (now)] 51 := hb
  refine calls_run (n := 28) Try.func44 rfl rfl rfl ?_
  refine Run.seq ?_
  refine Run.region ?_
  refine RL.st rfl <| St1.box (v := .agg #[.int .i64 ((h).owner), .string ((h).key)]) rfl ?_
  intro b_1 w_2 hl_5 hb_4 K_3
  replace hb_4 : Blk w_2 b_1 [.int .i64 ((h).owner), .string ((h).key)] 42 := hb_4
  have ne_6 : b < b_1 := Nat.lt_of_lt_of_le hb.lt hl_5
  have : w.heap.size ≤ b_1 := hl_5
  clear hl_5
  replace hb := hb.ext K_3
  have K0 := (K_3 : Ext w _)
  refine RL.val (x_assignI rfl) ?_
  refine RL.val (x_assignI rfl) ?_
  refine RL.nil ?_
  refine Run.scope ?_
  refine Run.seq ?_
  refine Run.region ?_
  refine RL.val (x_assignI rfl) ?_
  refine RL.val (x_assignI rfl) ?_
  refine RL.nil ?_
  refine Run.seq ?_
  refine Run.seq ?_
  refine Run.region ?_
  refine RL.val (x_moveP rfl) ?_
  refine RL.st rfl <| St1.call (vals := [.pointer (some ⟨b, 0, none⟩)]) en42 rfl (there _ true _ _ _ (cntO l) _ _ hb) ?_
  rintro _ w_7 ⟨rfl, K_8⟩
  replace hb := hb.ext K_8
  replace hb_4 := hb_4.ext K_8
  replace K0 := K0.ext K_8
  refine RL.val (x_not rfl) ?_
  refine RL.nil ?_
  refine Run.condF rfl ?_
  refine Run.skip ?_
  refine Run.seq ?_
  refine Run.seq ?_
  refine Run.region ?_
  refine RL.val (x_fld (o' := 0) Try.underlying42 rfl ty3 rfl rfl rfl) ?_
  refine RL.val (x_ld (v := .int .i64 ((h).owner)) ty3 rfl rfl (hb_4.cl.field (i := 0) rfl)) ?_
  refine RL.val (x_ltI rfl rfl) ?_
  refine RL.val (x_moveB rfl) ?_
  refine RL.gval (wantedF rfl rfl rfl rfl) (fun hg => (x_fld (o' := 0) Try.underlying42 rfl ty3 rfl rfl rfl)) ?_
  refine RL.gval (wantedF rfl rfl rfl rfl) (fun hg => (x_ld (v := .int .i64 ((h).owner)) ty3 (gvr hg) rfl (hb_4.cl.field (i := 0) rfl))) ?_
  refine RL.gval (wantedF rfl rfl rfl rfl) (fun hg => (x_geI (gvr hg) rfl)) ?_
  refine RL.val (x_or rfl rfl rfl) ?_
  refine RL.nil ?_
  refine Run.cond rfl (fun hc18 => ?_) (fun hc18 => ?_)
  · try simp only [br] at hc18
    refine Run.seq ?_
    refine Run.region ?_
    refine RL.val (x_assignI rfl) ?_
    refine RL.nil ?_
    refine Run.goto rfl ?_
    refine Run.seq ?_
    refine Run.skip ?_
    refine Run.seq ?_
    refine Run.region ?_
    refine RL.val (x_moveI rfl) ?_
    refine RL.val (x_moveI rfl) ?_
    refine RL.val (x_assignI rfl) ?_
    refine RL.val (x_assignI rfl) ?_
    refine RL.nil ?_
    refine Run.ret2 (v := .int .i64 (-1)) (x := .int .i64 (1)) Try.func44 rfl rfl rfl ?_
    exact ⟨_, rfl, by rw [hE1 hc18]; rfl, K0⟩
  · try simp only [br] at hc18
    refine Run.skip ?_
    refine Run.seq ?_
    refine Run.seq ?_
    refine Run.region ?_
    refine RL.val (x_fld (o' := 1) Try.underlying42 rfl ty9 rfl rfl rfl) ?_
    refine RL.val (x_ld (v := .string ((h).key)) ty9 rfl rfl (hb_4.cl.field (i := 1) rfl)) ?_
    refine RL.st rfl <| St1.call (vals := [.string ((h).key)]) en52 rfl (isKeyP _ _ (by omega)) ?_
    rintro _ w_9 ⟨rfl, K_10⟩
    replace hb := hb.ext K_10
    replace hb_4 := hb_4.ext K_10
    replace K0 := K0.ext K_10
    refine RL.val (x_not rfl) ?_
    refine RL.nil ?_
    refine Run.cond rfl (fun hc22 => ?_) (fun hc22 => ?_)
    · try simp only [br] at hc22
      refine Run.seq ?_
      refine Run.region ?_
      refine RL.val (x_assignI rfl) ?_
      refine RL.nil ?_
      refine Run.goto rfl ?_
      refine Run.seq ?_
      refine Run.skip ?_
      refine Run.seq ?_
      refine Run.region ?_
      refine RL.val (x_moveI rfl) ?_
      refine RL.val (x_moveI rfl) ?_
      refine RL.val (x_assignI rfl) ?_
      refine RL.val (x_assignI rfl) ?_
      refine RL.nil ?_
      refine Run.ret2 (v := .int .i64 (-1)) (x := .int .i64 (6)) Try.func44 rfl rfl rfl ?_
      exact ⟨_, rfl, by rw [hE6 hc18 hc22]; rfl, K0⟩
    · try simp only [br] at hc22
      refine Run.skip ?_
      refine Run.seq ?_
      refine Run.region ?_
      refine RL.val (x_moveP rfl) ?_
      refine RL.val (x_lds (cs := #[.int .i64 ((h).owner), .string ((h).key)]) ty42 rfl rfl (hb_4.cl.drop 0 2)) ?_
      refine RL.st rfl <| St1.call (vals := [.pointer (some ⟨b, 0, none⟩), .agg #[.int .i64 ((h).owner), .string ((h).key)]]) en46 rfl (findB _ _ _ l now h _ hb (hs.ext K0) (by omega)) ?_
      rintro _ w_11 ⟨rfl, K_12⟩
      replace hb := hb.ext K_12
      replace hb_4 := hb_4.ext K_12
      replace K0 := K0.ext K_12
      refine RL.val (x_assignI rfl) ?_
      refine RL.nil ?_
      refine Run.seq ?_
      refine Run.label ?_
      refine Run.seq ?_
      refine Run.region ?_
      refine RL.val (x_moveI rfl) ?_
      refine RL.val (x_moveI rfl) ?_
      refine RL.val (x_assignI rfl) ?_
      refine RL.val (x_assignI rfl) ?_
      refine RL.nil ?_
      refine Run.ret2 (v := .int .i64 (findI (isH h) l)) (x := .int .i64 (0)) Try.func44 rfl rfl rfl ?_
      exact ⟨_, rfl, by rw [hE0 hc18 hc22]; rfl, K0⟩

set_option maxHeartbeats 4000000 in
theorem putB (b : Nat) (al : Option Addr) (cl : Nat) (l : List KeptM) (now : Int) (h : Hint) (w : World) (hB : BoxAt w b al cl l now) (hll : l.length ≤ 4294967295) (hkl : h.key.size ≤ 4294967295) :
    Calls Try.prog 19 #[.pointer (some ⟨b, 0, none⟩), .agg #[.int .i64 ((h).owner), .string ((h).key)]] w (Ret (fun v w' => ∃ al' cl', v = .int .i64 (putE l h) ∧ BoxAt w' b al' cl' (putL l h) now ∧ MovedS w (boxS b al) (boxS b al') ∧ Keeps (boxS b al) w w')) := by
  obtain ⟨hb, ho, hap⟩ := hB
  replace hb : Blk w b [.bool (true), .slice (al) (l.length) (cl), .int .i64 (cntO l 0), .int .i64 (cntO l 1), .int .i64 (cntO l 2), .int .i64 (cntO l 3), .int .i64 (cntO l 4), .int .i64 (cntO l 5), .int .i64 (cntO l 6), .int .i64 (cntO l 7), .int .i64 (now)] 51 := hb
  refine calls_run (n := 56) Try.func19 rfl rfl rfl ?_
  refine Run.seq ?_
  refine Run.region ?_
  refine RL.st rfl <| St1.box (v := .agg #[.int .i64 ((h).owner), .string ((h).key)]) rfl ?_
  intro b_1 w_2 hl_5 hb_4 K_3
  replace hb_4 : Blk w_2 b_1 [.int .i64 ((h).owner), .string ((h).key)] 42 := hb_4
  have ne_6 : b < b_1 := Nat.lt_of_lt_of_le hb.lt hl_5
  have pr_7 : ¬ own al b_1 := fun h => absurd (ho.own_lt _ h) (by omega)
  have : w.heap.size ≤ b_1 := hl_5
  clear hl_5
  replace hb := hb.ext K_3
  replace ho := ho.ext K_3
  have K0 := (K_3 : Ext w _).to (S := (boxS b al))
  refine RL.val (x_assignI rfl) ?_
  refine RL.nil ?_
  refine Run.seq ?_
  refine Run.region ?_
  refine RL.val (x_moveP rfl) ?_
  refine RL.val (x_lds (cs := #[.int .i64 ((h).owner), .string ((h).key)]) ty42 rfl rfl (hb_4.cl.drop 0 2)) ?_
  refine RL.st rfl <| St1.call (vals := [.pointer (some ⟨b, 0, none⟩), .agg #[.int .i64 ((h).owner), .string ((h).key)]]) en44 rfl (look _ _ _ l now h _ hb ho.sl (by omega) (by omega)) ?_
  rintro _ w_8 ⟨rfl, K_9⟩
  replace hb := hb.ext K_9
  replace ho := ho.ext K_9
  replace hb_4 := hb_4.ext K_9
  replace K0 := K0.ext K_9
  refine RL.val (x_moveT rfl) ?_
  refine RL.val (x_extract rfl rfl) ?_
  refine RL.val (x_extract rfl rfl) ?_
  refine RL.val (x_assignI rfl) ?_
  refine RL.val (x_assignI rfl) ?_
  refine RL.nil ?_
  refine Run.seq ?_
  refine Run.block ?_
  refine Run.seq ?_
  refine Run.region ?_
  refine RL.val (x_moveI rfl) ?_
  refine RL.val (x_neI rfl rfl) ?_
  refine RL.val (x_assignB rfl) ?_
  refine RL.nil ?_
  refine Run.cond rfl (fun hc13 => ?_) (fun hc13 => ?_)
  · try simp only [br] at hc13
    refine Run.seq ?_
    refine Run.region ?_
    refine RL.val (x_moveI rfl) ?_
    refine RL.val (x_assignI rfl) ?_
    refine RL.nil ?_
    refine Run.ret1 (v := .int .i64 (hE h)) Try.func19 rfl rfl ?_
    exact ⟨_, rfl, al, cl, by rw [putE_bad hc13], by rw [putL_bad hc13]; exact ⟨hb, ho, hap⟩, MovedS.refl _ _, K0⟩
  · try simp only [br] at hc13
    rw [if_pos hc13]
    refine Run.seq ?_
    refine Run.region ?_
    refine RL.val (x_moveI rfl) ?_
    refine RL.val (x_geI rfl rfl) ?_
    refine RL.val (x_assignB rfl) ?_
    refine RL.nil ?_
    refine Run.cond rfl (fun hc17 => ?_) (fun hc17 => ?_)
    · try simp only [br] at hc17
      obtain ⟨k, hk, hkl', hkp, hkn⟩ := findI_some (p := isH h) (xs := l) rfl hc17
      rw [hk]
      refine Run.seq ?_
      refine Run.region ?_
      refine RL.val (x_moveP rfl) ?_
      refine RL.val (x_nilCheck rfl) ?_
      refine RL.val (x_fld (o' := 1) Try.underlying51 rfl ty48 rfl rfl rfl) ?_
      refine RL.val (x_ld (v := .slice (al) (l.length) (cl)) ty48 rfl rfl (hb.cl.field (i := 1) rfl)) ?_
      refine RL.val (x_moveI rfl) ?_
      obtain ⟨b_10, o_11, x, hx, ha_12, hc_13⟩ := ho.sl.el (i := k) (by omega)
      refine RL.val (x_idxN Try.underlying48 ty76 rfl rfl ha_12 (by omega)) ?_
      refine RL.val (x_fld (o' := o_11 + k * 3 + 2) Try.underlying76 rfl ty3 rfl rfl rfl) ?_
      refine RL.st rfl <| St1.storeEl (v := .int .i64 (-1)) (off := 2) (i := k) ({ x with since := -1 }) ty3 rfl rfl rfl (by simp [Value.cells, Value.oneCell']) ho ha_12 hx rfl (by decide) rfl ?_
      intro w_16 ho_18 K_17
      clear hc_13
      replace hb := hb.keep K_17 hap
      replace hb_4 := hb_4.keep K_17 pr_7
      replace K0 := K0.trans K_17 (fun x hlt hx => (fun x h _ => Or.inr h) x hx hlt)
      replace ho := ho_18
      clear ho_18
      refine RL.nil ?_
      refine Run.seq ?_
      refine Run.region ?_
      refine RL.val (x_assignI rfl) ?_
      refine RL.nil ?_
      refine Run.ret1 (v := .int .i64 (0)) Try.func19 rfl rfl ?_
      exact ⟨_, rfl, al, cl, by rw [putE_in hc13 hx (hkp x hx)], by rw [putL_in hc13 hx (hkp x hx) hkn]; exact BoxAt.of hb ho hap (by simp) (fun j _ => (cntO_set (y := { x with since := -1 }) hx rfl j).symm), MovedS.refl _ _, K0⟩
    · try simp only [br] at hc17
      have hno := findI_none (p := isH h) (xs := l) rfl hc17
      refine Run.seq ?_
      refine Run.region ?_
      refine RL.val (x_moveP rfl) ?_
      refine RL.val (x_nilCheck rfl) ?_
      refine RL.val (x_fld (o' := 1) Try.underlying51 rfl ty48 rfl rfl rfl) ?_
      refine RL.val (x_ld (v := .slice (al) (l.length) (cl)) ty48 rfl rfl (hb.cl.field (i := 1) rfl)) ?_
      refine RL.val (x_lenSl Try.underlying48 rfl) ?_
      refine RL.val (x_geI rfl rfl) ?_
      refine RL.val (x_assignB rfl) ?_
      refine RL.nil ?_
      refine Run.cond rfl (fun hc27 => ?_) (fun hc27 => ?_)
      · try simp only [br] at hc27
        refine Run.seq ?_
        refine Run.region ?_
        refine RL.val (x_assignI rfl) ?_
        refine RL.nil ?_
        refine Run.ret1 (v := .int .i64 (7)) Try.func19 rfl rfl ?_
        exact ⟨_, rfl, al, cl, by rw [putE_full hc13 hno (by omega)], by rw [putL_full hc13 hno (by omega)]; exact ⟨hb, ho, hap⟩, MovedS.refl _ _, K0⟩
      · try simp only [br] at hc27
        refine Run.skip ?_
        refine Run.inBlock ?_
        refine Run.seq ?_
        refine Run.drawT [11] (m := 12) (by kernel_rfl) rfl ?_
        intro w_19 K_20
        replace hb := hb.ext K_20
        replace ho := ho.ext K_20
        replace hb_4 := hb_4.ext K_20
        replace K0 := K0.ext K_20
        refine ⟨fun w' => Blk w' b [.bool (true), .slice (al) (l.length) (cl), .int .i64 (cntO l 0), .int .i64 (cntO l 1), .int .i64 (cntO l 2), .int .i64 (cntO l 3), .int .i64 (cntO l 4), .int .i64 (cntO l 5), .int .i64 (cntO l 6), .int .i64 (cntO l 7), .int .i64 (now)] 51 ∧ Blk w' b_1 [.int .i64 ((h).owner), .string ((h).key)] 42 ∧ True, ?_⟩
        refine RT.takeP (v := .pointer (some ⟨b, 0, none⟩)) 0 rfl (by kernel_rfl) (.inr ⟨hb, hb_4, trivial⟩) (fun _ => (x_moveP rfl)) ?_
        refine RT.takeP (v := .pointer (some ⟨b, 0, none⟩)) 1 rfl (by kernel_rfl) (.inr ⟨hb, hb_4, trivial⟩) (fun _ => (x_moveP rfl)) ?_
        refine RT.takeP (v := .pointer (some ⟨b, 0, none⟩)) 2 rfl (by kernel_rfl) (.inr ⟨hb, hb_4, trivial⟩) (fun _ => (x_nilCheck rfl)) ?_
        refine RT.takeP (v := .pointer (some ⟨b, 1, none⟩)) 3 rfl (by kernel_rfl) (.inr ⟨hb, hb_4, trivial⟩) (fun _ => (x_fld (o' := 1) Try.underlying51 rfl ty48 rfl rfl rfl)) ?_
        refine RT.take (v := .slice (al) (l.length) (cl)) 4 rfl (by kernel_rfl) ⟨hb, hb_4, trivial⟩ (by rintro _ ⟨hb, hb_4, -⟩; exact (x_ld (v := .slice (al) (l.length) (cl)) ty48 rfl rfl (hb.cl.field (i := 1) rfl))) ?_
        refine RT.take (v := .agg #[.int .i64 ((h).owner), .string ((h).key)]) 5 rfl (by kernel_rfl) ⟨hb, hb_4, trivial⟩ (by rintro _ ⟨hb, hb_4, -⟩; exact (x_lds (cs := #[.int .i64 ((h).owner), .string ((h).key)]) ty42 rfl rfl (hb_4.cl.drop 0 2))) ?_
        refine RT.takeP (v := .agg #[.int .i64 ((h).owner), .string ((h).key), .int .i64 (-1)]) 6 rfl (by kernel_rfl) (.inr ⟨hb, hb_4, trivial⟩) (fun _ => (x_build (cells := #[.int .i64 ((h).owner), .string ((h).key), .int .i64 (-1)]) (by kernel_rfl))) ?_
        refine RT.st 7 rfl (by kernel_rfl) rfl <| St1.buildSlice ([(⟨h, -1⟩ : KeptM)] : List KeptM) Try.underlying48 ty76 rfl rfl (by first | decide | (simp [Enc.size])) ?_
        intro b_21 w_22 hl_25 ho_24 K_23
        have pr_26 : ¬ own (some ⟨b_21, 0, none⟩) b := notNew (ge_new hl_25) hb.lt
        have pr_27 : ∀ q_, own (some ⟨b_21, 0, none⟩) q_ → ¬ own al q_ := apartNew (ge_new hl_25) ho.own_lt
        have pr_28 : ¬ own (some ⟨b_21, 0, none⟩) b_1 := notNew (ge_new hl_25) hb_4.lt
        have pg_29 : ∀ q_, own (some ⟨b_21, 0, none⟩) q_ → q_ < w.heap.size → (boxS b al) q_ := fun q_ h hlt => absurd (Nat.le_trans K0.size ((ge_new hl_25) q_ h)) (by omega)
        clear hl_25
        replace hb := hb.ext K_23
        replace ho := ho.ext K_23
        replace hb_4 := hb_4.ext K_23
        replace K0 := K0.ext K_23
        refine ⟨.inr ⟨hb, hb_4, trivial⟩, ?_⟩
        refine RT.st 8 rfl (by kernel_rfl) rfl <| St1.append (xs := l) (ys := ([(⟨h, -1⟩ : KeptM)] : List KeptM)) Try.underlying48 ty76 rfl rfl rfl ho ho_24.sl (by first | omega | (simp only [lr]; omega)) (by decide) ?_
        intro a_30 c_31 w_32 ho_33 K_34 hm_35 hrm_36
        have pr_37 : ¬ own a_30 b := hm_35.not hap hb.lt
        have pr_38 : ¬ own a_30 b_1 := hm_35.not pr_7 hb_4.lt
        have pr_39 : ∀ q_, own a_30 q_ → ¬ own (some ⟨b_21, 0, none⟩) q_ := hm_35.apart (fun q_ h1 h2 => pr_27 q_ h2 h1) ho_24.own_lt
        have pg_40 : ∀ q_, own a_30 q_ → q_ < w.heap.size → (boxS b al) q_ := hm_35.inS (fun x h _ => Or.inr h) K0.size
        replace hb := hb.keep K_34 hap
        replace hb_4 := hb_4.keep K_34 pr_7
        replace ho_24 := ho_24.keepO K_34 pr_27
        replace K0 := K0.trans K_34 (fun x hlt hx => (fun x h _ => Or.inr h) x hx hlt)
        clear hm_35
        clear hrm_36
        refine ⟨.inr ⟨hb, hb_4, trivial⟩, ?_⟩
        refine RT.takeP (v := .pointer (some ⟨b, 0, none⟩)) 9 rfl (by kernel_rfl) (.inr ⟨hb, hb_4, trivial⟩) (fun _ => (x_nilCheck rfl)) ?_
        refine RT.takeP (v := .pointer (some ⟨b, 1, none⟩)) 10 rfl (by kernel_rfl) (.inr ⟨hb, hb_4, trivial⟩) (fun _ => (x_fld (o' := 1) Try.underlying51 rfl ty48 rfl rfl rfl)) ?_
        refine RT.st 11 rfl (by kernel_rfl) rfl <| St1.store (v := .slice (a_30) ((l ++ ([(⟨h, -1⟩ : KeptM)] : List KeptM)).length) (c_31)) ty48 rfl rfl rfl (by simp [Value.cells, Value.oneCell']) hb (by simp) ?_
        intro w_41 hb_ K_42
        have hb' : Blk w_41 b [.bool (true), .slice (a_30) ((l ++ ([(⟨h, -1⟩ : KeptM)] : List KeptM)).length) (c_31), .int .i64 (cntO l 0), .int .i64 (cntO l 1), .int .i64 (cntO l 2), .int .i64 (cntO l 3), .int .i64 (cntO l 4), .int .i64 (cntO l 5), .int .i64 (cntO l 6), .int .i64 (cntO l 7), .int .i64 (now)] 51 := hb_
        clear hb_
        replace hb_4 := hb_4.keep K_42 (by simp only [one]; omega)
        replace ho_24 := ho_24.keepO K_42 (fun q_ hq_ eq_ => pr_26 (by simp only [one] at eq_; rw [← eq_]; exact hq_))
        replace ho_33 := ho_33.keepO K_42 (fun q_ hq_ eq_ => pr_37 (by simp only [one] at eq_; rw [← eq_]; exact hq_))
        replace K0 := K0.trans K_42 (fun x _ hx => by simp only [one] at hx; subst hx; exact (Or.inl rfl))
        replace hb := hb'
        clear hb'
        refine ⟨.inl (by kernel_rfl), ?_⟩
        refine RT.done (by kernel_rfl) ?_
        refine Run.seq ?_
        have hr := hE_range hc13
        have hcn := cntO_range l (h.owner).toNat
        refine Run.drawT [11] (m := 12) (by kernel_rfl) rfl ?_
        intro w_43 K_44
        replace hb := hb.ext K_44
        replace hb_4 := hb_4.ext K_44
        replace ho_24 := ho_24.ext K_44
        replace ho_33 := ho_33.ext K_44
        replace K0 := K0.ext K_44
        refine ⟨fun w' => Blk w' b [.bool (true), .slice (a_30) ((l ++ ([(⟨h, -1⟩ : KeptM)] : List KeptM)).length) (c_31), .int .i64 (cntO l 0), .int .i64 (cntO l 1), .int .i64 (cntO l 2), .int .i64 (cntO l 3), .int .i64 (cntO l 4), .int .i64 (cntO l 5), .int .i64 (cntO l 6), .int .i64 (cntO l 7), .int .i64 (now)] 51 ∧ Blk w' b_1 [.int .i64 ((h).owner), .string ((h).key)] 42 ∧ True, ?_⟩
        refine RT.takeP (v := .pointer (some ⟨b, 0, none⟩)) 0 rfl (by kernel_rfl) (.inr ⟨hb, hb_4, trivial⟩) (fun _ => (x_moveP rfl)) ?_
        refine RT.takeP (v := .pointer (some ⟨b_1, 0, none⟩)) 1 rfl (by kernel_rfl) (.inr ⟨hb, hb_4, trivial⟩) (fun _ => (x_fld (o' := 0) Try.underlying42 rfl ty3 rfl rfl rfl)) ?_
        refine RT.take (v := .int .i64 ((h).owner)) 2 rfl (by kernel_rfl) ⟨hb, hb_4, trivial⟩ (by rintro _ ⟨hb, hb_4, -⟩; exact (x_ld (v := .int .i64 ((h).owner)) ty3 rfl rfl (hb_4.cl.field (i := 0) rfl))) ?_
        refine RT.takeP (v := .pointer (some ⟨b, 0, none⟩)) 3 rfl (by kernel_rfl) (.inr ⟨hb, hb_4, trivial⟩) (fun _ => (x_nilCheck rfl)) ?_
        refine RT.takeP (v := .pointer (some ⟨b, 2, none⟩)) 4 rfl (by kernel_rfl) (.inr ⟨hb, hb_4, trivial⟩) (fun _ => (x_fld (o' := 2) Try.underlying51 rfl ty49 rfl rfl rfl)) ?_
        refine RT.takeP (v := .pointer (some ⟨b, 2 + ((h).owner).toNat * 1, none⟩)) 5 rfl (by kernel_rfl) (.inr ⟨hb, hb_4, trivial⟩) (fun _ => (x_idxA Try.underlying49 ty3 rfl rfl (by omega) (by omega))) ?_
        refine RT.take (v := .int .i64 (cntO l (h.owner).toNat)) 6 rfl (by kernel_rfl) ⟨hb, hb_4, trivial⟩ (by rintro _ ⟨hb, hb_4, -⟩; exact (x_ld (v := .int .i64 (cntO l (h.owner).toNat)) ty3 rfl rfl (hb.at (box_at _ _ _ (cntO l) _ _ (by omega))))) ?_
        refine RT.takeP (v := .int .i64 ((cntO l (h.owner).toNat) + 1)) 7 rfl (by kernel_rfl) (.inr ⟨hb, hb_4, trivial⟩) (fun _ => (x_add rfl rfl (by omega) (by omega))) ?_
        refine RT.takeP (v := .pointer (some ⟨b, 0, none⟩)) 8 rfl (by kernel_rfl) (.inr ⟨hb, hb_4, trivial⟩) (fun _ => (x_nilCheck rfl)) ?_
        refine RT.takeP (v := .pointer (some ⟨b, 2, none⟩)) 9 rfl (by kernel_rfl) (.inr ⟨hb, hb_4, trivial⟩) (fun _ => (x_fld (o' := 2) Try.underlying51 rfl ty49 rfl rfl rfl)) ?_
        refine RT.takeP (v := .pointer (some ⟨b, 2 + ((h).owner).toNat * 1, none⟩)) 10 rfl (by kernel_rfl) (.inr ⟨hb, hb_4, trivial⟩) (fun _ => (x_idxA Try.underlying49 ty3 rfl rfl (by omega) (by omega))) ?_
        refine RT.st 11 rfl (by kernel_rfl) rfl <| St1.store (v := .int .i64 ((cntO l (h.owner).toNat) + 1)) ty3 rfl rfl rfl (by simp [Value.cells, Value.oneCell']) hb (by simp only [List.length_cons, List.length_nil]; omega) ?_
        intro w_45 hb_ K_46
        have hb' : Blk w_45 b [.bool (true), .slice (a_30) ((l ++ ([(⟨h, -1⟩ : KeptM)] : List KeptM)).length) (c_31), .int .i64 (updI (cntO l) (h.owner).toNat ((cntO l (h.owner).toNat) + 1) 0), .int .i64 (updI (cntO l) (h.owner).toNat ((cntO l (h.owner).toNat) + 1) 1), .int .i64 (updI (cntO l) (h.owner).toNat ((cntO l (h.owner).toNat) + 1) 2), .int .i64 (updI (cntO l) (h.owner).toNat ((cntO l (h.owner).toNat) + 1) 3), .int .i64 (updI (cntO l) (h.owner).toNat ((cntO l (h.owner).toNat) + 1) 4), .int .i64 (updI (cntO l) (h.owner).toNat ((cntO l (h.owner).toNat) + 1) 5), .int .i64 (updI (cntO l) (h.owner).toNat ((cntO l (h.owner).toNat) + 1) 6), .int .i64 (updI (cntO l) (h.owner).toNat ((cntO l (h.owner).toNat) + 1) 7), .int .i64 (now)] 51 := box_store (c := cntO l) hb_ (by omega)
        clear hb_
        replace hb_4 := hb_4.keep K_46 (by simp only [one]; omega)
        replace ho_24 := ho_24.keepO K_46 (fun q_ hq_ eq_ => pr_26 (by simp only [one] at eq_; rw [← eq_]; exact hq_))
        replace ho_33 := ho_33.keepO K_46 (fun q_ hq_ eq_ => pr_37 (by simp only [one] at eq_; rw [← eq_]; exact hq_))
        replace K0 := K0.trans K_46 (fun x _ hx => by simp only [one] at hx; subst hx; exact (Or.inl rfl))
        replace hb := hb'
        clear hb'
        refine ⟨.inl (by kernel_rfl), ?_⟩
        refine RT.done (by kernel_rfl) ?_
        refine Run.seq ?_
        refine Run.region ?_
        refine RL.val (x_assignI rfl) ?_
        refine RL.nil ?_
        refine Run.ret1 (v := .int .i64 (0)) Try.func19 rfl rfl ?_
        exact ⟨_, rfl, a_30, c_31, by rw [putE_new hc13 hno (by omega)], by rw [putL_new hc13 hno (by omega)]; exact BoxAt.of hb ho_33 pr_37 rfl (fun j _ => ((cntO_push l ⟨h, -1⟩ j).resolve_right (by show ¬ h.owner < 0; omega)).symm), boxMoved' pg_40, K0⟩

set_option maxHeartbeats 4000000 in
theorem deleteK (al : Option Addr) (l : List KeptM) (cl k : Nat) (w : World) (ho : OwnSl w 76 al cl l) (hk : k < l.length) (hl : l.length ≤ 4294967295) :
    Calls Try.prog 45 #[.slice (al) (l.length) (cl), .int .i64 (((k : Nat) : Int)), .int .i64 (((k + 1 : Nat) : Int))] w (Ret (fun v w' => v = .slice al (l.take k ++ l.drop (k + 1)).length cl ∧ OwnSl w' 76 al cl (l.take k ++ l.drop (k + 1)) ∧ Keeps (own al) w w')) := by
  have hcap := ho.le_cap
  refine calls_run (n := 33) Try.func45 rfl rfl rfl ?_
  refine Run.seq ?_
  refine Run.region ?_
  refine RL.val (x_assignSl rfl) ?_
  refine RL.nil ?_
  refine Run.seq ?_
  refine Run.region ?_
  refine RL.val (x_moveSl rfl) ?_
  refine RL.val (x_moveI rfl) ?_
  refine RL.val (x_moveI rfl) ?_
  refine RL.val (x_moveSl rfl) ?_
  refine RL.val (x_lenSl Try.underlying48 rfl) ?_
  refine RL.val (x_slice3 Try.underlying48 ty76 rfl rfl rfl rfl (by omega) (by omega) (by omega)) ?_
  refine RL.nil ?_
  refine Run.seq ?_
  refine Run.seq ?_
  refine Run.region ?_
  refine RL.val (x_moveI rfl) ?_
  refine RL.val (x_moveI rfl) ?_
  refine RL.val (x_eqI rfl rfl) ?_
  refine RL.nil ?_
  refine Run.cond rfl (fun hc16 => ?_) (fun hc16 => ?_)
  · try simp only [br] at hc16
    exact absurd hc16 (by omega)
  · try simp only [br] at hc16
    refine Run.skip ?_
    refine Run.seq ?_
    refine Run.region ?_
    refine RL.val (x_moveSl rfl) ?_
    refine RL.val (x_lenSl Try.underlying48 rfl) ?_
    refine RL.val (x_assignI rfl) ?_
    refine RL.nil ?_
    refine Run.seq ?_
    refine Run.drawT [] (m := 8) (by kernel_rfl) rfl ?_
    intro w_1 K_2
    replace ho := ho.ext K_2
    have K0 := (K_2 : Ext w _).to (S := (own al))
    refine ⟨fun w' => True, ?_⟩
    refine RT.takeP (v := .slice (al) (l.length) (cl)) 0 rfl (by kernel_rfl) (.inr trivial) (fun _ => (x_moveSl rfl)) ?_
    refine RT.takeP (v := .int .i64 (((k : Nat) : Int))) 1 rfl (by kernel_rfl) (.inr trivial) (fun _ => (x_moveI rfl)) ?_
    refine RT.takeP (v := .slice (al) (k) (cl)) 2 rfl (by kernel_rfl) (.inr trivial) (fun _ => (x_sliceTo Try.underlying48 ty76 rfl rfl (by omega))) ?_
    refine RT.takeP (v := .slice (al) (l.length) (cl)) 3 rfl (by kernel_rfl) (.inr trivial) (fun _ => (x_moveSl rfl)) ?_
    refine RT.takeP (v := .int .i64 (((k + 1 : Nat) : Int))) 4 rfl (by kernel_rfl) (.inr trivial) (fun _ => (x_moveI rfl)) ?_
    refine RT.takeP (v := .slice (advA al cl (k + 1) 3) ((l.drop (k + 1)).length) (cl - (k + 1))) 5 rfl (by kernel_rfl) (.inr trivial) (fun _ => (x_sliceFrom (xs := l) Try.underlying48 ty76 rfl rfl (by omega))) ?_
    have ho_3 := ho.take k
    have hsx_4 := (ho.sl.from (k + 1) cl (ho.le_cap))
    refine RT.st 6 rfl (by kernel_rfl) rfl <| St1.append (xs := l.take k) (ys := l.drop (k + 1)) Try.underlying48 ty76 rfl (slLen rfl (List.length_take_of_le (by omega))) rfl ho_3 hsx_4 (by simp only [List.length_append, List.length_take, List.length_drop]; omega) (by decide) ?_
    intro a_5 c_6 w_7 ho_8 K_9 hm_10 hrm_11
    have pg_12 : ∀ q_, own a_5 q_ → q_ < w.heap.size → (own al) q_ := hm_10.inS (fun x h _ => h) K0.size
    replace K0 := K0.trans K_9 (fun x hlt hx => (fun x h _ => h) x hx hlt)
    clear hm_10
    have e1 := (hrm_11 (by simp only [List.length_take, List.length_drop]; omega)).1.symm
    have e2 := (hrm_11 (by simp only [List.length_take, List.length_drop]; omega)).2.symm
    clear hrm_11
    subst e1; subst e2
    refine ⟨.inr trivial, ?_⟩
    refine RT.takeP (v := .slice (al) (((l.take k) ++ l.drop (k + 1)).length) (cl)) 7 rfl (by kernel_rfl) (.inr trivial) (fun _ => (x_assignSl rfl)) ?_
    refine RT.done (by kernel_rfl) ?_
    refine Run.seq ?_
    refine Run.region ?_
    refine RL.val (x_moveSl rfl) ?_
    refine RL.val (x_moveSl rfl) ?_
    refine RL.val (x_lenSl Try.underlying48 rfl) ?_
    refine RL.val (x_moveI rfl) ?_
    refine RL.val (x_sliceFT Try.underlying48 ty76 rfl rfl rfl (by simp only [List.length_append, List.length_take, List.length_drop]; omega) (by omega)) ?_
    refine RL.st rfl <| St1.clearTail (xs := (l.take k) ++ l.drop (k + 1)) Try.underlying48 ty76 rfl (by simp [Value.cells, Value.oneCell']) rfl ho_8 (by simp only [List.length_append, List.length_take, List.length_drop]; omega) ?_
    intro w_13 ho_15 K_14
    replace K0 := K0.trans K_14 (fun x hlt hx => pg_12 x hx hlt)
    replace ho_8 := ho_15
    clear ho_15
    refine RL.nil ?_
    refine Run.seq ?_
    refine Run.region ?_
    refine RL.val (x_moveSl rfl) ?_
    refine RL.val (x_assignSl rfl) ?_
    refine RL.nil ?_
    refine Run.ret1 (v := .slice (al) (((l.take k) ++ l.drop (k + 1)).length) (cl)) Try.func45 rfl rfl ?_
    exact ⟨_, rfl, rfl, ho_8, K0⟩

set_option maxHeartbeats 4000000 in
theorem dropB (b : Nat) (al : Option Addr) (cl : Nat) (l : List KeptM) (now : Int) (h : Hint) (w : World) (hB : BoxAt w b al cl l now) (hll : l.length ≤ 4294967295) (hkl : h.key.size ≤ 4294967295) :
    Calls Try.prog 22 #[.pointer (some ⟨b, 0, none⟩), .agg #[.int .i64 ((h).owner), .string ((h).key)]] w (Ret (fun v w' => ∃ al' cl', v = .int .i64 (dropE l h) ∧ BoxAt w' b al' cl' (dropL l h) now ∧ MovedS w (boxS b al) (boxS b al') ∧ Keeps (boxS b al) w w')) := by
  obtain ⟨hb, ho, hap⟩ := hB
  replace hb : Blk w b [.bool (true), .slice (al) (l.length) (cl), .int .i64 (cntO l 0), .int .i64 (cntO l 1), .int .i64 (cntO l 2), .int .i64 (cntO l 3), .int .i64 (cntO l 4), .int .i64 (cntO l 5), .int .i64 (cntO l 6), .int .i64 (cntO l 7), .int .i64 (now)] 51 := hb
  refine calls_run (n := 40) Try.func22 rfl rfl rfl ?_
  refine Run.seq ?_
  refine Run.region ?_
  refine RL.st rfl <| St1.box (v := .agg #[.int .i64 ((h).owner), .string ((h).key)]) rfl ?_
  intro b_1 w_2 hl_5 hb_4 K_3
  replace hb_4 : Blk w_2 b_1 [.int .i64 ((h).owner), .string ((h).key)] 42 := hb_4
  have ne_6 : b < b_1 := Nat.lt_of_lt_of_le hb.lt hl_5
  have pr_7 : ¬ own al b_1 := fun h => absurd (ho.own_lt _ h) (by omega)
  have : w.heap.size ≤ b_1 := hl_5
  clear hl_5
  replace hb := hb.ext K_3
  replace ho := ho.ext K_3
  have K0 := (K_3 : Ext w _).to (S := (boxS b al))
  refine RL.val (x_assignI rfl) ?_
  refine RL.nil ?_
  refine Run.seq ?_
  refine Run.region ?_
  refine RL.val (x_moveP rfl) ?_
  refine RL.val (x_lds (cs := #[.int .i64 ((h).owner), .string ((h).key)]) ty42 rfl rfl (hb_4.cl.drop 0 2)) ?_
  refine RL.st rfl <| St1.call (vals := [.pointer (some ⟨b, 0, none⟩), .agg #[.int .i64 ((h).owner), .string ((h).key)]]) en44 rfl (look _ _ _ l now h _ hb ho.sl (by omega) (by omega)) ?_
  rintro _ w_8 ⟨rfl, K_9⟩
  replace hb := hb.ext K_9
  replace ho := ho.ext K_9
  replace hb_4 := hb_4.ext K_9
  replace K0 := K0.ext K_9
  refine RL.val (x_moveT rfl) ?_
  refine RL.val (x_extract rfl rfl) ?_
  refine RL.val (x_extract rfl rfl) ?_
  refine RL.val (x_assignI rfl) ?_
  refine RL.val (x_assignI rfl) ?_
  refine RL.nil ?_
  refine Run.seq ?_
  refine Run.seq ?_
  refine Run.region ?_
  refine RL.val (x_moveI rfl) ?_
  refine RL.val (x_neI rfl rfl) ?_
  refine RL.nil ?_
  refine Run.cond rfl (fun hc14 => ?_) (fun hc14 => ?_)
  · try simp only [br] at hc14
    refine Run.seq ?_
    refine Run.region ?_
    refine RL.val (x_moveI rfl) ?_
    refine RL.val (x_assignI rfl) ?_
    refine RL.nil ?_
    refine Run.ret1 (v := .int .i64 (hE h)) Try.func22 rfl rfl ?_
    exact ⟨_, rfl, al, cl, by rw [dropE_bad hc14], by rw [dropL_bad hc14]; exact ⟨hb, ho, hap⟩, MovedS.refl _ _, K0⟩
  · try simp only [br] at hc14
    rw [if_pos hc14]
    refine Run.skip ?_
    refine Run.seq ?_
    refine Run.seq ?_
    refine Run.region ?_
    refine RL.val (x_moveI rfl) ?_
    refine RL.val (x_ltI rfl rfl) ?_
    refine RL.nil ?_
    refine Run.cond rfl (fun hc17 => ?_) (fun hc17 => ?_)
    · try simp only [br] at hc17
      have hno := findI_none (p := isH h) (xs := l) rfl hc17
      refine Run.seq ?_
      refine Run.region ?_
      refine RL.val (x_assignI rfl) ?_
      refine RL.nil ?_
      refine Run.ret1 (v := .int .i64 (160)) Try.func22 rfl rfl ?_
      exact ⟨_, rfl, al, cl, by rw [dropE_no hc14 hno], by rw [dropL_no hc14 hno]; exact ⟨hb, ho, hap⟩, MovedS.refl _ _, K0⟩
    · try simp only [br] at hc17
      obtain ⟨k, hk, hkl', hkp, hkn⟩ := findI_some (p := isH h) (xs := l) rfl hc17
      rw [hk]
      obtain ⟨x, hx⟩ : ∃ x, l[k]? = some x := ⟨l[k], by simp⟩
      refine Run.skip ?_
      refine Run.seq ?_
      refine Run.region ?_
      refine RL.val (x_moveP rfl) ?_
      refine RL.val (x_moveP rfl) ?_
      refine RL.val (x_nilCheck rfl) ?_
      refine RL.val (x_fld (o' := 1) Try.underlying51 rfl ty48 rfl rfl rfl) ?_
      refine RL.val (x_ld (v := .slice (al) (l.length) (cl)) ty48 rfl rfl (hb.cl.field (i := 1) rfl)) ?_
      refine RL.val (x_moveI rfl) ?_
      refine RL.val (x_moveI rfl) ?_
      refine RL.val (x_add rfl rfl (by omega) (by omega)) ?_
      refine RL.st rfl <| St1.call (vals := [.slice (al) (l.length) (cl), .int .i64 (((k : Nat) : Int)), .int .i64 (((k : Nat) : Int) + 1)]) en45 rfl (deleteK _ _ _ k _ ho (by omega) (by omega)) ?_
      rintro _ w_10 ⟨rfl, ho_11, K_12⟩
      replace hb := hb.keep K_12 hap
      replace hb_4 := hb_4.keep K_12 pr_7
      replace K0 := K0.trans K_12 (fun x hlt hx => (fun x h _ => Or.inr h) x hx hlt)
      replace ho := ho_11
      clear ho_11
      refine RL.val (x_nilCheck rfl) ?_
      refine RL.val (x_fld (o' := 1) Try.underlying51 rfl ty48 rfl rfl rfl) ?_
      refine RL.st rfl <| St1.store (v := .slice (al) ((l.take k ++ l.drop (k + 1)).length) (cl)) ty48 rfl rfl rfl (by simp [Value.cells, Value.oneCell']) hb (by simp) ?_
      intro w_13 hb_ K_14
      have hb' : Blk w_13 b [.bool (true), .slice (al) ((l.take k ++ l.drop (k + 1)).length) (cl), .int .i64 (cntO l 0), .int .i64 (cntO l 1), .int .i64 (cntO l 2), .int .i64 (cntO l 3), .int .i64 (cntO l 4), .int .i64 (cntO l 5), .int .i64 (cntO l 6), .int .i64 (cntO l 7), .int .i64 (now)] 51 := hb_
      clear hb_
      replace ho := ho.keepO K_14 (fun q_ hq_ eq_ => hap (by simp only [one] at eq_; rw [← eq_]; exact hq_))
      replace hb_4 := hb_4.keep K_14 (by simp only [one]; omega)
      replace K0 := K0.trans K_14 (fun x _ hx => by simp only [one] at hx; subst hx; exact (Or.inl rfl))
      replace hb := hb'
      clear hb'
      refine RL.nil ?_
      refine Run.seq ?_
      have hr := hE_range hc14
      have hcn := cntO_range l (h.owner).toNat
      refine Run.drawT [11] (m := 12) (by kernel_rfl) rfl ?_
      intro w_15 K_16
      replace hb := hb.ext K_16
      replace ho := ho.ext K_16
      replace hb_4 := hb_4.ext K_16
      replace K0 := K0.ext K_16
      refine ⟨fun w' => Blk w' b [.bool (true), .slice (al) ((l.take k ++ l.drop (k + 1)).length) (cl), .int .i64 (cntO l 0), .int .i64 (cntO l 1), .int .i64 (cntO l 2), .int .i64 (cntO l 3), .int .i64 (cntO l 4), .int .i64 (cntO l 5), .int .i64 (cntO l 6), .int .i64 (cntO l 7), .int .i64 (now)] 51 ∧ Blk w' b_1 [.int .i64 ((h).owner), .string ((h).key)] 42 ∧ True, ?_⟩
      refine RT.takeP (v := .pointer (some ⟨b, 0, none⟩)) 0 rfl (by kernel_rfl) (.inr ⟨hb, hb_4, trivial⟩) (fun _ => (x_moveP rfl)) ?_
      refine RT.takeP (v := .pointer (some ⟨b_1, 0, none⟩)) 1 rfl (by kernel_rfl) (.inr ⟨hb, hb_4, trivial⟩) (fun _ => (x_fld (o' := 0) Try.underlying42 rfl ty3 rfl rfl rfl)) ?_
      refine RT.take (v := .int .i64 ((h).owner)) 2 rfl (by kernel_rfl) ⟨hb, hb_4, trivial⟩ (by rintro _ ⟨hb, hb_4, -⟩; exact (x_ld (v := .int .i64 ((h).owner)) ty3 rfl rfl (hb_4.cl.field (i := 0) rfl))) ?_
      refine RT.takeP (v := .pointer (some ⟨b, 0, none⟩)) 3 rfl (by kernel_rfl) (.inr ⟨hb, hb_4, trivial⟩) (fun _ => (x_nilCheck rfl)) ?_
      refine RT.takeP (v := .pointer (some ⟨b, 2, none⟩)) 4 rfl (by kernel_rfl) (.inr ⟨hb, hb_4, trivial⟩) (fun _ => (x_fld (o' := 2) Try.underlying51 rfl ty49 rfl rfl rfl)) ?_
      refine RT.takeP (v := .pointer (some ⟨b, 2 + ((h).owner).toNat * 1, none⟩)) 5 rfl (by kernel_rfl) (.inr ⟨hb, hb_4, trivial⟩) (fun _ => (x_idxA Try.underlying49 ty3 rfl rfl (by omega) (by omega))) ?_
      refine RT.take (v := .int .i64 (cntO l (h.owner).toNat)) 6 rfl (by kernel_rfl) ⟨hb, hb_4, trivial⟩ (by rintro _ ⟨hb, hb_4, -⟩; exact (x_ld (v := .int .i64 (cntO l (h.owner).toNat)) ty3 rfl rfl (hb.at (box_at _ _ _ (cntO l) _ _ (by omega))))) ?_
      refine RT.takeP (v := .int .i64 ((cntO l (h.owner).toNat) - 1)) 7 rfl (by kernel_rfl) (.inr ⟨hb, hb_4, trivial⟩) (fun _ => (x_sub rfl rfl (by omega) (by omega))) ?_
      refine RT.takeP (v := .pointer (some ⟨b, 0, none⟩)) 8 rfl (by kernel_rfl) (.inr ⟨hb, hb_4, trivial⟩) (fun _ => (x_nilCheck rfl)) ?_
      refine RT.takeP (v := .pointer (some ⟨b, 2, none⟩)) 9 rfl (by kernel_rfl) (.inr ⟨hb, hb_4, trivial⟩) (fun _ => (x_fld (o' := 2) Try.underlying51 rfl ty49 rfl rfl rfl)) ?_
      refine RT.takeP (v := .pointer (some ⟨b, 2 + ((h).owner).toNat * 1, none⟩)) 10 rfl (by kernel_rfl) (.inr ⟨hb, hb_4, trivial⟩) (fun _ => (x_idxA Try.underlying49 ty3 rfl rfl (by omega) (by omega))) ?_
      refine RT.st 11 rfl (by kernel_rfl) rfl <| St1.store (v := .int .i64 ((cntO l (h.owner).toNat) - 1)) ty3 rfl rfl rfl (by simp [Value.cells, Value.oneCell']) hb (by simp only [List.length_cons, List.length_nil]; omega) ?_
      intro w_17 hb_ K_18
      have hb' : Blk w_17 b [.bool (true), .slice (al) ((l.take k ++ l.drop (k + 1)).length) (cl), .int .i64 (updI (cntO l) (h.owner).toNat ((cntO l (h.owner).toNat) - 1) 0), .int .i64 (updI (cntO l) (h.owner).toNat ((cntO l (h.owner).toNat) - 1) 1), .int .i64 (updI (cntO l) (h.owner).toNat ((cntO l (h.owner).toNat) - 1) 2), .int .i64 (updI (cntO l) (h.owner).toNat ((cntO l (h.owner).toNat) - 1) 3), .int .i64 (updI (cntO l) (h.owner).toNat ((cntO l (h.owner).toNat) - 1) 4), .int .i64 (updI (cntO l) (h.owner).toNat ((cntO l (h.owner).toNat) - 1) 5), .int .i64 (updI (cntO l) (h.owner).toNat ((cntO l (h.owner).toNat) - 1) 6), .int .i64 (updI (cntO l) (h.owner).toNat ((cntO l (h.owner).toNat) - 1) 7), .int .i64 (now)] 51 := box_store (c := cntO l) hb_ (by omega)
      clear hb_
      replace ho := ho.keepO K_18 (fun q_ hq_ eq_ => hap (by simp only [one] at eq_; rw [← eq_]; exact hq_))
      replace hb_4 := hb_4.keep K_18 (by simp only [one]; omega)
      replace K0 := K0.trans K_18 (fun x _ hx => by simp only [one] at hx; subst hx; exact (Or.inl rfl))
      replace hb := hb'
      clear hb'
      refine ⟨.inl (by kernel_rfl), ?_⟩
      refine RT.done (by kernel_rfl) ?_
      refine Run.seq ?_
      refine Run.region ?_
      refine RL.val (x_assignI rfl) ?_
      refine RL.nil ?_
      refine Run.ret1 (v := .int .i64 (0)) Try.func22 rfl rfl ?_
      exact ⟨_, rfl, al, cl, by rw [dropE_in hc14 hx (hkp x hx)], by rw [dropL_in hc14 hx (hkp x hx) hkn]; exact BoxAt.of hb ho hap rfl (fun j _ => (cntO_del' hx (hkp x hx) (by omega) j).symm), MovedS.refl _ _, K0⟩

set_option maxHeartbeats 4000000 in
theorem hasB (b : Nat) (al : Option Addr) (cl : Nat) (l : List KeptM) (now : Int) (h : Hint) (w : World) (hb : Blk w b (boxCells true al l.length cl (cntO l) now) 51) (hs : SlOf w al l) (hll : l.length ≤ 4294967295) :
    Calls Try.prog 23 #[.pointer (some ⟨b, 0, none⟩), .agg #[.int .i64 ((h).owner), .string ((h).key)]] w (Ret (fun v w' => v = .bool (l.any (isH h)) ∧ Ext w w')) := by
  replace hb : Blk w b [.bool (true), .slice (al) (l.length) (cl), .int .i64 (cntO l 0), .int .i64 (cntO l 1), .int .i64 (cntO l 2), .int .i64 (cntO l 3), .int .i64 (cntO l 4), .int .i64 (cntO l 5), .int .i64 (cntO l 6), .int .i64 (cntO l 7), .int .i64 (now)] 51 := hb
  refine calls_run (n := 13) Try.func23 rfl rfl rfl ?_
  refine Run.seq ?_
  refine Run.region ?_
  refine RL.st rfl <| St1.box (v := .agg #[.int .i64 ((h).owner), .string ((h).key)]) rfl ?_
  intro b_1 w_2 hl_5 hb_4 K_3
  replace hb_4 : Blk w_2 b_1 [.int .i64 ((h).owner), .string ((h).key)] 42 := hb_4
  have ne_6 : b < b_1 := Nat.lt_of_lt_of_le hb.lt hl_5
  have : w.heap.size ≤ b_1 := hl_5
  clear hl_5
  replace hb := hb.ext K_3
  have K0 := (K_3 : Ext w _)
  refine RL.val (x_assignB rfl) ?_
  refine RL.nil ?_
  refine Run.seq ?_
  refine Run.region ?_
  refine RL.val (x_moveP rfl) ?_
  refine RL.st rfl <| St1.call (vals := [.pointer (some ⟨b, 0, none⟩)]) en42 rfl (there _ true _ _ _ (cntO l) _ _ hb) ?_
  rintro _ w_7 ⟨rfl, K_8⟩
  replace hb := hb.ext K_8
  replace hb_4 := hb_4.ext K_8
  replace K0 := K0.ext K_8
  refine RL.val (x_moveB rfl) ?_
  refine RL.gst (wantedT1 rfl rfl rfl rfl) <| St1.val (x_moveP rfl) ?_
  refine RL.gst (wantedT1 rfl rfl rfl rfl) <| St1.val (x_lds (cs := #[.int .i64 ((h).owner), .string ((h).key)]) ty42 rfl rfl (hb_4.cl.drop 0 2)) ?_
  refine RL.gst (wantedT1 rfl rfl rfl rfl) <| St1.call (vals := [.pointer (some ⟨b, 0, none⟩), .agg #[.int .i64 ((h).owner), .string ((h).key)]]) en46 rfl (findB _ _ _ l now h _ hb (hs.ext K0) (by omega)) ?_
  rintro _ w_9 ⟨rfl, K_10⟩
  replace hb := hb.ext K_10
  replace hb_4 := hb_4.ext K_10
  replace K0 := K0.ext K_10
  refine RL.gst (wantedT1 rfl rfl rfl rfl) <| St1.val (x_geI rfl rfl) ?_
  refine RL.val (x_andT rfl rfl rfl) ?_
  refine RL.val (x_assignB rfl) ?_
  refine RL.nil ?_
  refine Run.ret1 (v := .bool (decide (0 ≤ (findI (isH h) l)))) Try.func23 rfl rfl ?_
  exact ⟨_, rfl, by rw [findI_ge], K0⟩

set_option maxHeartbeats 4000000 in
theorem countP16 (b : Nat) (al : Option Addr) (cl : Nat) (l : List KeptM) (now : Int) (o : Int) (w : World) (hb : Blk w b (boxCells true al l.length cl (cntO l) now) 51) (hs : SlOf w al l) (hll : l.length ≤ 4294967295) :
    Calls Try.prog 21 #[.pointer (some ⟨b, 0, none⟩), .int .i64 (o)] w (Ret (fun v w' => v = .int .i64 (countB l o) ∧ Ext w w')) := by
  replace hb : Blk w b [.bool (true), .slice (al) (l.length) (cl), .int .i64 (cntO l 0), .int .i64 (cntO l 1), .int .i64 (cntO l 2), .int .i64 (cntO l 3), .int .i64 (cntO l 4), .int .i64 (cntO l 5), .int .i64 (cntO l 6), .int .i64 (cntO l 7), .int .i64 (now)] 51 := hb
  refine calls_run (n := 22) Try.func21 rfl rfl rfl ?_
  refine Run.seq ?_
  refine Run.region ?_
  refine RL.val (x_assignI rfl) ?_
  refine RL.nil ?_
  refine Run.seq ?_
  refine Run.seq ?_
  refine Run.region ?_
  refine RL.val (x_moveP rfl) ?_
  refine RL.st rfl <| St1.call (vals := [.pointer (some ⟨b, 0, none⟩)]) en42 rfl (there _ true _ _ _ (cntO l) _ _ hb) ?_
  rintro _ w_1 ⟨rfl, K_2⟩
  replace hb := hb.ext K_2
  have K0 := (K_2 : Ext w _)
  refine RL.val (x_not rfl) ?_
  refine RL.val (x_moveB rfl) ?_
  refine RL.gst (wantedF1 rfl rfl rfl rfl) <| St1.val (x_moveI rfl) ?_
  refine RL.gst (wantedF1 rfl rfl rfl rfl) <| St1.val (x_ltI rfl rfl) ?_
  refine RL.val (x_orF rfl rfl rfl) ?_
  refine RL.val (x_moveB rfl) ?_
  refine RL.gval (wantedF rfl rfl rfl rfl) (fun hg => (x_moveI rfl)) ?_
  refine RL.gval (wantedF rfl rfl rfl rfl) (fun hg => (x_geI (gvr hg) rfl)) ?_
  refine RL.val (x_or rfl rfl rfl) ?_
  refine RL.nil ?_
  refine Run.cond rfl (fun hc15 => ?_) (fun hc15 => ?_)
  · try simp only [br] at hc15
    refine Run.seq ?_
    refine Run.region ?_
    refine RL.val (x_assignI rfl) ?_
    refine RL.nil ?_
    refine Run.ret1 (v := .int .i64 (0)) Try.func21 rfl rfl ?_
    exact ⟨_, rfl, by rw [countB, if_pos (by simpa using hc15)], K0⟩
  · try simp only [br] at hc15
    refine Run.skip ?_
    refine Run.seq ?_
    refine Run.region ?_
    refine RL.val (x_moveP rfl) ?_
    refine RL.val (x_moveI rfl) ?_
    refine RL.val (x_nilCheck rfl) ?_
    refine RL.val (x_fld (o' := 2) Try.underlying51 rfl ty49 rfl rfl rfl) ?_
    refine RL.val (x_idxA Try.underlying49 ty3 rfl rfl (by omega) (by omega)) ?_
    refine RL.val (x_ld (v := .int .i64 (cntO l (o).toNat)) ty3 rfl rfl (hb.at (box_at _ _ _ (cntO l) _ _ (by omega)))) ?_
    refine RL.val (x_assignI rfl) ?_
    refine RL.nil ?_
    refine Run.ret1 (v := .int .i64 (cntO l (o).toNat)) Try.func21 rfl rfl ?_
    exact ⟨_, rfl, by rw [countB, if_neg (by omega)], K0⟩

set_option maxHeartbeats 4000000 in
theorem hintsB (b : Nat) (al : Option Addr) (cl : Nat) (l : List KeptM) (now : Int) (w : World) (hb : Blk w b (boxCells true al l.length cl (cntO l) now) 51) (hs : SlOf w al l) (hll : l.length ≤ 4294967295) :
    Calls Try.prog 24 #[.pointer (some ⟨b, 0, none⟩)] w (Ret (fun v w' => ∃ a' c', v = .slice a' (l.map (·.h)).length c' ∧ OwnSl w' 42 a' c' (l.map (·.h)) ∧ (∀ b, own a' b → w.heap.size ≤ b) ∧ Ext w w')) := by
  replace hb : Blk w b [.bool (true), .slice (al) (l.length) (cl), .int .i64 (cntO l 0), .int .i64 (cntO l 1), .int .i64 (cntO l 2), .int .i64 (cntO l 3), .int .i64 (cntO l 4), .int .i64 (cntO l 5), .int .i64 (cntO l 6), .int .i64 (cntO l 7), .int .i64 (now)] 51 := hb
  refine calls_run (n := 25) Try.func24 rfl rfl rfl ?_
  refine Run.seq ?_
  refine Run.region ?_
  refine RL.val (x_assignSl rfl) ?_
  refine RL.nil ?_
  refine Run.seq ?_
  refine Run.seq ?_
  refine Run.region ?_
  refine RL.val (x_moveP rfl) ?_
  refine RL.st rfl <| St1.call (vals := [.pointer (some ⟨b, 0, none⟩)]) en42 rfl (there _ true _ _ _ (cntO l) _ _ hb) ?_
  rintro _ w_1 ⟨rfl, K_2⟩
  replace hb := hb.ext K_2
  have K0 := (K_2 : Ext w _)
  refine RL.val (x_not rfl) ?_
  refine RL.nil ?_
  refine Run.condF rfl ?_
  refine Run.skip ?_
  refine Run.seq ?_
  refine Run.region ?_
  refine RL.val (x_assignSl rfl) ?_
  refine RL.nil ?_
  refine Run.seq ?_
  refine Run.seq ?_
  refine Run.region ?_
  refine RL.val (x_moveP rfl) ?_
  refine RL.val (x_nilCheck rfl) ?_
  refine RL.val (x_fld (o' := 1) Try.underlying51 rfl ty48 rfl rfl rfl) ?_
  refine RL.val (x_ld (v := .slice (al) (l.length) (cl)) ty48 rfl rfl (hb.cl.field (i := 1) rfl)) ?_
  refine RL.val (x_lenSl Try.underlying48 rfl) ?_
  refine RL.val (x_moveI rfl) ?_
  refine RL.nil ?_
  refine Run.block ?_
  refine Run.loop (ι := Nat) (fun i ρ' w' => ∃ ah : Option Addr, ∃ ch : Nat, Holds ρ' [(3, .slice (ah) (((l.take i).map (·.h)).length) (ch)), (12, .slice (al) (l.length) (cl)), (13, .int .i64 (((l.length : Nat) : Int))), (14, .int .i64 (((i : Nat) : Int)))] ∧ Ext w w' ∧ (Blk w' b [.bool (true), .slice (al) (l.length) (cl), .int .i64 (cntO l 0), .int .i64 (cntO l 1), .int .i64 (cntO l 2), .int .i64 (cntO l 3), .int .i64 (cntO l 4), .int .i64 (cntO l 5), .int .i64 (cntO l 6), .int .i64 (cntO l 7), .int .i64 (now)] 51) ∧ (OwnSl w' 42 ah ch ((l.take i).map (·.h))) ∧ (¬ own ah b) ∧ (∀ q_, own ah q_ → w.heap.size ≤ q_) ∧ (i ≤ l.length)) (fun i => l.length - i) 0 ?_ ?_
  · rw [List.take_zero, List.map_nil]
    have ho_8 := OwnSl.nil (α := Hint) w_1 42
    refine ⟨_, _, ⟨rfl, rfl, rfl, rfl, trivial⟩, K0, hb, ho_8, (own_none _), (fun q_ h1 => absurd h1 (own_none q_)), ?_⟩
    · omega
  clear hb
  clear K0
  rintro i ρ_9 w_3 ⟨ah, ch, hH_4, K0, hb, ho_5, pr_6, pr_7, hi⟩ ih1
  obtain ⟨ρ₀, rfl⟩ := hH_4.ex
  clear hH_4
  refine Run.seq ?_
  refine Run.region ?_
  refine RL.val (x_ltI rfl rfl) ?_
  refine RL.nil ?_
  refine Run.seq ?_
  refine Run.cond rfl (fun hc15 => ?_) (fun hc15 => ?_)
  · try simp only [br] at hc15
    refine Run.skip ?_
    refine Run.seq ?_
    refine Run.block ?_
    refine Run.seq ?_
    refine Run.region ?_
    obtain ⟨b_10, o_11, x, hx, ha_12, hc_13⟩ := hs.el (i := i) (by omega)
    have hc_13_lt := hc_13.lt
    replace hc_13 := hc_13.ext K0
    refine RL.val (x_idxN Try.underlying48 ty76 rfl rfl ha_12 (by omega)) ?_
    refine RL.val (x_ldV (v := .agg #[.int .i64 (((x).h).owner), .string (((x).h).key), .int .i64 ((x).since)]) (y := x) ty76 rfl hc_13 rfl) ?_
    refine RL.st rfl <| St1.alloc ty76 ?_
    intro b_16 w_17 hl_20 hb_19 K_18
    replace hb_19 : Blk w_17 b_16 [.int .i64 (0), .string (⟨#[]⟩), .int .i64 (0)] 76 := hb_19
    have ne_21 : b < b_16 := Nat.lt_of_lt_of_le hb.lt hl_20
    have ne_22 : b_10 < b_16 := Nat.lt_of_lt_of_le hc_13.lt hl_20
    have pr_23 : ¬ own ah b_16 := fun h => absurd (ho_5.own_lt _ h) (by omega)
    have : w.heap.size ≤ b_16 := Nat.le_trans K0.size hl_20
    clear hl_20
    replace hb := hb.ext K_18
    replace ho_5 := ho_5.ext K_18
    replace hc_13 := hc_13.ext K_18
    replace K0 := K0.ext K_18
    refine RL.st rfl <| St1.store (v := .agg #[.int .i64 (((x).h).owner), .string (((x).h).key), .int .i64 ((x).since)]) ty76 rfl rfl rfl (by simp [Value.cells, Value.oneCell']) hb_19 (by simp) ?_
    intro w_24 hb_19_ K_25
    have hb_19' : Blk w_24 b_16 [.int .i64 (((x).h).owner), .string (((x).h).key), .int .i64 ((x).since)] 76 := hb_19_
    clear hb_19_
    replace hb := hb.keep K_25 (by simp only [one]; omega)
    replace ho_5 := ho_5.keepO K_25 (fun q_ hq_ eq_ => pr_23 (by simp only [one] at eq_; rw [← eq_]; exact hq_))
    replace hc_13 := hc_13.keep K_25 (by simp only [one]; omega)
    replace K0 := K0.new K_25 (fun x hx => by simp only [one] at hx; omega)
    replace hb_19 := hb_19'
    clear hb_19'
    refine RL.nil ?_
    have hlen : ((l.take i).map (·.h)).length ≤ i := by simp; omega
    refine Run.region ?_
    refine RL.val (x_moveSl rfl) ?_
    refine RL.val (x_fld (o' := 0) Try.underlying76 rfl ty42 rfl rfl rfl) ?_
    refine RL.val (x_lds (cs := #[.int .i64 (((x).h).owner), .string (((x).h).key)]) ty42 rfl rfl (hb_19.cl.drop 0 2)) ?_
    refine RL.st rfl <| St1.buildSlice ([(x).h] : List Hint) Try.underlying35 ty42 rfl rfl (by first | decide | (simp [Enc.size])) ?_
    intro b_26 w_27 hl_30 ho_29 K_28
    have pr_31 : ¬ own (some ⟨b_26, 0, none⟩) b := notNew (ge_new hl_30) hb.lt
    have pr_32 : ∀ q_, own (some ⟨b_26, 0, none⟩) q_ → ¬ own ah q_ := apartNew (ge_new hl_30) ho_5.own_lt
    have pr_33 : ¬ own (some ⟨b_26, 0, none⟩) b_16 := notNew (ge_new hl_30) hb_19.lt
    have pg_34 : ∀ q_, own (some ⟨b_26, 0, none⟩) q_ → w.heap.size ≤ q_ := fun q_ h => Nat.le_trans K0.size ((ge_new hl_30) q_ h)
    clear hl_30
    replace hb := hb.ext K_28
    replace ho_5 := ho_5.ext K_28
    replace hb_19 := hb_19.ext K_28
    replace K0 := K0.ext K_28
    refine RL.st rfl <| St1.append (xs := (l.take i).map (·.h)) (ys := ([(x).h] : List Hint)) Try.underlying35 ty42 rfl rfl rfl ho_5 ho_29.sl (by first | omega | (simp only [lr]; omega)) (by decide) ?_
    intro a_35 c_36 w_37 ho_38 K_39 hm_40 hrm_41
    have pr_42 : ¬ own a_35 b := hm_40.not pr_6 hb.lt
    have pr_43 : ¬ own a_35 b_16 := hm_40.not pr_23 hb_19.lt
    have pr_44 : ∀ q_, own a_35 q_ → ¬ own (some ⟨b_26, 0, none⟩) q_ := hm_40.apart (fun q_ h1 h2 => pr_32 q_ h2 h1) ho_29.own_lt
    have pg_45 : ∀ q_, own a_35 q_ → w.heap.size ≤ q_ := hm_40.ge pr_7 K0.size
    replace hb := hb.keep K_39 pr_6
    replace hb_19 := hb_19.keep K_39 pr_23
    replace ho_29 := ho_29.keepO K_39 pr_32
    replace K0 := K0.new K_39 pr_7
    clear hm_40
    clear hrm_41
    refine RL.val (x_assignSl rfl) ?_
    refine RL.nil ?_
    refine Run.inBlock ?_
    refine Run.region ?_
    refine RL.val (x_add rfl rfl (by omega) (by omega)) ?_
    refine RL.val (x_moveI rfl) ?_
    refine RL.nil ?_
    have e : (l.take (i + 1)).map (·.h) = (l.take i).map (·.h) ++ [x.h] := by obtain ⟨h1, rfl⟩ := List.getElem?_eq_some_iff.1 hx; rw [List.take_succ_eq_append_getElem h1, List.map_append]; rfl
    refine ih1 (i + 1) _ _ ?_ (by omega)
    rw [e]
    refine ⟨_, _, ⟨rfl, rfl, rfl, rfl, trivial⟩, K0, hb, ho_38, pr_42, pg_45, ?_⟩
    · omega
  · try simp only [br] at hc15
    refine Run.exit rfl ?_
    refine Run.seq ?_
    refine Run.region ?_
    refine RL.val (x_moveSl rfl) ?_
    refine RL.val (x_assignSl rfl) ?_
    refine RL.nil ?_
    refine Run.ret1 (v := .slice (ah) (((l.take i).map (·.h)).length) (ch)) Try.func24 rfl rfl ?_
    obtain rfl : i = l.length := by omega
    rw [List.take_length] at *
    exact ⟨_, rfl, ah, ch, rfl, ho_5, pr_7, K0⟩

set_option maxHeartbeats 4000000 in
theorem newB (w : World) :
    Calls Try.prog 25 #[] w (Ret (fun v w' => ∃ b, v = .pointer (some ⟨b, 0, none⟩) ∧ BoxAt w' b none 0 [] 0 ∧ w.heap.size ≤ b ∧ Ext w w')) := by
  refine calls_run (n := 3) Try.func25 rfl rfl rfl ?_
  refine Run.seq ?_
  refine Run.region ?_
  refine RL.val (x_assignP rfl) ?_
  refine RL.nil ?_
  refine Run.seq ?_
  refine Run.region ?_
  refine RL.val (x_build (cells := #[.bool (true), .slice (none) (0) (0), .int .i64 (0), .int .i64 (0), .int .i64 (0), .int .i64 (0), .int .i64 (0), .int .i64 (0), .int .i64 (0), .int .i64 (0), .int .i64 (0)]) (by kernel_rfl)) ?_
  refine RL.st rfl <| St1.box (v := .agg #[.bool (true), .slice (none) (0) (0), .int .i64 (0), .int .i64 (0), .int .i64 (0), .int .i64 (0), .int .i64 (0), .int .i64 (0), .int .i64 (0), .int .i64 (0), .int .i64 (0)]) rfl ?_
  intro b_1 w_2 hl_5 hb_4 K_3
  replace hb_4 : Blk w_2 b_1 [.bool (true), .slice (none) (0) (0), .int .i64 (0), .int .i64 (0), .int .i64 (0), .int .i64 (0), .int .i64 (0), .int .i64 (0), .int .i64 (0), .int .i64 (0), .int .i64 (0)] 51 := hb_4
  have : w.heap.size ≤ b_1 := hl_5
  clear hl_5
  have K0 := (K_3 : Ext w _)
  refine RL.val (x_assignP rfl) ?_
  refine RL.nil ?_
  refine Run.ret1 (v := .pointer (some ⟨b_1, 0, none⟩)) Try.func25 rfl rfl ?_
  exact ⟨_, rfl, b_1, rfl, ⟨hb_4, OwnSl.nil _ _, own_none _⟩, by omega, K0⟩

set_option maxHeartbeats 4000000 in
theorem dueB (b : Nat) (al : Option Addr) (cl : Nat) (l : List KeptM) (now : Int) (t : Int) (au : Option Addr) (up : List Int) (cu : Nat) (w : World) (hB : BoxAt w b al cl l now) (hll : l.length ≤ 4294967295) (hu : SlOf w au up) (hdu : ∀ x, au = some x → ¬ boxS b al x.block) (hul : up.length ≤ 1048576) (hll2 : l.length ≤ 1048576) (hp : Past l now) (h0 : 0 ≤ now) (hn1 : now ≤ 9223372036854775807) (ht1 : t ≤ 9223372036854775807) :
    Calls Try.prog 18 #[.pointer (some ⟨b, 0, none⟩), .int .i64 (t), .slice (au) (up.length) (cu)] w (Ret (fun v w' => ∃ a' c', v = .slice a' (due (max now t) l up).T.length c' ∧ OwnSl w' 42 a' c' (due (max now t) l up).T ∧ (∀ x, own a' x → w.heap.size ≤ x) ∧ BoxAt w' b al cl (due (max now t) l up).L (max now t) ∧ Keeps (boxS b al) w w')) := by
  obtain ⟨hb, ho, hap⟩ := hB
  replace hb : Blk w b [.bool (true), .slice (al) (l.length) (cl), .int .i64 (cntO l 0), .int .i64 (cntO l 1), .int .i64 (cntO l 2), .int .i64 (cntO l 3), .int .i64 (cntO l 4), .int .i64 (cntO l 5), .int .i64 (cntO l 6), .int .i64 (cntO l 7), .int .i64 (now)] 51 := hb
  refine calls_run (n := 115) Try.func18 rfl rfl rfl ?_
  refine Run.seq ?_
  refine Run.region ?_
  refine RL.val (x_assignSl rfl) ?_
  refine RL.nil ?_
  refine Run.seq ?_
  refine Run.seq ?_
  refine Run.region ?_
  refine RL.val (x_moveP rfl) ?_
  refine RL.st rfl <| St1.call (vals := [.pointer (some ⟨b, 0, none⟩)]) en42 rfl (there _ true _ _ _ (cntO l) _ _ hb) ?_
  rintro _ w_1 ⟨rfl, K_2⟩
  replace hb := hb.ext K_2
  replace ho := ho.ext K_2
  have K0 := (K_2 : Ext w _).to (S := (boxS b al))
  refine RL.val (x_not rfl) ?_
  refine RL.nil ?_
  refine Run.condF rfl ?_
  refine Run.skip ?_
  refine Run.seq ?_
  refine Run.region ?_
  refine RL.val (x_moveP rfl) ?_
  refine RL.val (x_moveP rfl) ?_
  refine RL.val (x_nilCheck rfl) ?_
  refine RL.val (x_fld (o' := 10) Try.underlying51 rfl ty3 rfl rfl rfl) ?_
  refine RL.val (x_ld (v := .int .i64 (now)) ty3 rfl rfl (hb.cl.field (i := 10) rfl)) ?_
  refine RL.val (x_moveI rfl) ?_
  refine RL.val (x_maxI rfl rfl) ?_
  refine RL.val (x_nilCheck rfl) ?_
  refine RL.val (x_fld (o' := 10) Try.underlying51 rfl ty3 rfl rfl rfl) ?_
  refine RL.st rfl <| St1.store (v := .int .i64 (max now t)) ty3 rfl rfl rfl (by simp [Value.cells, Value.oneCell']) hb (by simp) ?_
  intro w_3 hb_ K_4
  have hb' : Blk w_3 b [.bool (true), .slice (al) (l.length) (cl), .int .i64 (cntO l 0), .int .i64 (cntO l 1), .int .i64 (cntO l 2), .int .i64 (cntO l 3), .int .i64 (cntO l 4), .int .i64 (cntO l 5), .int .i64 (cntO l 6), .int .i64 (cntO l 7), .int .i64 (max now t)] 51 := hb_
  clear hb_
  replace ho := ho.keepO K_4 (fun q_ hq_ eq_ => hap (by simp only [one] at eq_; rw [← eq_]; exact hq_))
  replace K0 := K0.trans K_4 (fun x _ hx => by simp only [one] at hx; subst hx; exact (Or.inl rfl))
  replace hb := hb'
  clear hb'
  refine RL.nil ?_
  refine Run.seq ?_
  refine Run.region ?_
  refine RL.val (x_assignSl rfl) ?_
  refine RL.nil ?_
  refine Run.seq ?_
  refine Run.region ?_
  refine RL.st rfl <| St1.alloc ty74 ?_
  intro b_5 w_6 hl_9 hb_8 K_7
  replace hb_8 : Blk w_6 b_5 [.bool (false), .bool (false), .bool (false), .bool (false), .bool (false), .bool (false), .bool (false), .bool (false)] 74 := hb_8
  have ne_10 : b < b_5 := Nat.lt_of_lt_of_le hb.lt hl_9
  have pr_11 : ¬ own al b_5 := fun h => absurd (ho.own_lt _ h) (by omega)
  have : w.heap.size ≤ b_5 := Nat.le_trans K0.size hl_9
  clear hl_9
  replace hb := hb.ext K_7
  replace ho := ho.ext K_7
  replace K0 := K0.ext K_7
  refine RL.nil ?_
  refine Run.seq ?_
  refine Run.seq ?_
  refine Run.region ?_
  refine RL.val (x_moveSl rfl) ?_
  refine RL.val (x_lenSl Try.underlying22 rfl) ?_
  refine RL.val (x_moveI rfl) ?_
  refine RL.nil ?_
  refine Run.block ?_
  refine Run.loop (ι := Nat) (fun i ρ' w' => ∃ at1 : Option Addr, ∃ ct1 : Nat, Holds ρ' [(0, .pointer (some ⟨b, 0, none⟩)), (7, .slice (at1) (((dueI (max now t) l up i).T).length) (ct1)), (8, .pointer (some ⟨b_5, 0, none⟩)), (28, .slice (au) (up.length) (cu)), (29, .int .i64 (((up.length : Nat) : Int))), (30, .int .i64 (((i : Nat) : Int)))] ∧ Keeps (boxS b al) w w' ∧ (Blk w' b [.bool (true), .slice (al) (((dueI (max now t) l up i).L).length) (cl), .int .i64 (cntO l 0), .int .i64 (cntO l 1), .int .i64 (cntO l 2), .int .i64 (cntO l 3), .int .i64 (cntO l 4), .int .i64 (cntO l 5), .int .i64 (cntO l 6), .int .i64 (cntO l 7), .int .i64 (max now t)] 51) ∧ (Blk w' b_5 [.bool ((dueI (max now t) l up i).met 0), .bool ((dueI (max now t) l up i).met 1), .bool ((dueI (max now t) l up i).met 2), .bool ((dueI (max now t) l up i).met 3), .bool ((dueI (max now t) l up i).met 4), .bool ((dueI (max now t) l up i).met 5), .bool ((dueI (max now t) l up i).met 6), .bool ((dueI (max now t) l up i).met 7)] 74) ∧ (OwnSl w' 76 al cl ((dueI (max now t) l up i).L)) ∧ (OwnSl w' 42 at1 ct1 ((dueI (max now t) l up i).T)) ∧ (¬ own al b) ∧ (¬ own al b_5) ∧ (∀ q_, own al q_ → ¬ own at1 q_) ∧ (∀ q_, own al q_ → q_ < w.heap.size → (boxS b al) q_) ∧ (¬ own at1 b) ∧ (¬ own at1 b_5) ∧ (∀ q_, own at1 q_ → q_ < w.heap.size → (boxS b al) q_) ∧ (i ≤ up.length)) (fun i => up.length - i) 0 ?_ ?_
  · rw [dueI_zero]
    have ho_23 := OwnSl.nil (α := Hint) w_6 42
    refine ⟨_, _, ⟨rfl, rfl, rfl, rfl, rfl, rfl, trivial⟩, K0, hb, hb_8, ho, ho_23, hap, pr_11, (fun q_ h1 h2 => (fun q_ h1 _ => own_none q_ h1) q_ h2 h1), (fun x h _ => Or.inr h), (own_none _), (own_none _), (fun q_ h1 _ => absurd h1 (own_none q_)), ?_⟩
    · omega
  clear hb ho hb_8
  clear K0
  rintro i ρ_24 w_12 ⟨at1, ct1, hH_13, K0, hb, hb_8, ho_14, ho_15, pr_16, pr_17, pr_18, pr_19, pr_20, pr_21, pr_22, hi⟩ ih1
  obtain ⟨ρ₀, rfl⟩ := hH_13.ex
  clear hH_13
  refine Run.seq ?_
  refine Run.region ?_
  refine RL.val (x_ltI rfl rfl) ?_
  refine RL.nil ?_
  refine Run.seq ?_
  refine Run.cond rfl (fun hc31 => ?_) (fun hc31 => ?_)
  · try simp only [br] at hc31
    refine Run.skip ?_
    refine Run.seq ?_
    refine Run.block ?_
    refine Run.seq ?_
    obtain ⟨hd1, hd2, hd3⟩ := dueI_len (max now t) l up i (by omega)
    have hd4 := hd3 (hp.mono (by omega))
    refine Run.region ?_
    obtain ⟨b_25, o_26, n, hx, ha_27, hc_28⟩ := hu.el (i := i) (by omega)
    have hc_28_lt := hc_28.lt
    replace hc_28 := hc_28.keep K0 (hdu _ ha_27)
    refine RL.val (x_idxN Try.underlying22 ty3 rfl rfl ha_27 (by omega)) ?_
    refine RL.val (x_ldV (v := .int .i64 (n)) (y := n) ty3 rfl hc_28 rfl) ?_
    refine RL.val (x_assignI rfl) ?_
    refine RL.nil ?_
    refine Run.seq ?_
    refine Run.seq ?_
    refine Run.region ?_
    refine RL.val (x_moveI rfl) ?_
    refine RL.val (x_ltI rfl rfl) ?_
    refine RL.val (x_moveB rfl) ?_
    refine RL.gval (wantedF rfl rfl rfl rfl) (fun hg => (x_moveI rfl)) ?_
    refine RL.gval (wantedF rfl rfl rfl rfl) (fun hg => (x_geI (gvr hg) rfl)) ?_
    refine RL.val (x_or rfl rfl rfl) ?_
    refine RL.val (x_moveB rfl) ?_
    refine RL.gval (wantedF rfl rfl rfl rfl) (fun hg => (x_moveI rfl)) ?_
    refine RL.gval (wantedF rfl rfl rfl rfl) (fun hg => (x_idxA Try.underlying74 ty4 rfl (gvr hg) (by simp only [br] at hg; omega) (by simp only [br] at hg; omega))) ?_
    refine RL.gval (wantedF rfl rfl rfl rfl) (fun hg => (x_ld (v := .bool ((dueI (max now t) l up i).met (n).toNat)) ty4 (gvr hg) rfl (hb_8.at (bools8_at (dueI (max now t) l up i).met _ (by simp only [br] at hg; omega))))) ?_
    refine RL.val (x_or rfl rfl rfl) ?_
    refine RL.nil ?_
    refine Run.cond rfl (fun hc44 => ?_) (fun hc44 => ?_)
    · try simp only [br] at hc44
      refine Run.exit rfl ?_
      refine Run.region ?_
      refine RL.val (x_add rfl rfl (by omega) (by omega)) ?_
      refine RL.val (x_moveI rfl) ?_
      refine RL.nil ?_
      have e := (dueI_step (now := (max now t)) (l := l) hx).trans (dStep_no hc44)
      refine ih1 (i + 1) _ _ ?_ (by omega)
      rw [e]
      refine ⟨_, _, ⟨rfl, rfl, rfl, rfl, rfl, rfl, trivial⟩, K0, hb, hb_8, ho_14, ho_15, pr_16, pr_17, pr_18, pr_19, pr_20, pr_21, pr_22, ?_⟩
      · omega
    · try simp only [br] at hc44
      refine Run.skip ?_
      refine Run.seq ?_
      refine Run.region ?_
      refine RL.val (x_moveI rfl) ?_
      refine RL.val (x_idxA Try.underlying74 ty4 rfl rfl (by omega) (by omega)) ?_
      refine RL.st rfl <| St1.store (v := .bool (true)) ty4 rfl rfl rfl (by simp [Value.cells, Value.oneCell']) hb_8 (by simp only [List.length_cons, List.length_nil]; omega) ?_
      intro w_31 hb_8_ K_32
      have hb_8' : Blk w_31 b_5 [.bool (updB (dueI (max now t) l up i).met (n).toNat true 0), .bool (updB (dueI (max now t) l up i).met (n).toNat true 1), .bool (updB (dueI (max now t) l up i).met (n).toNat true 2), .bool (updB (dueI (max now t) l up i).met (n).toNat true 3), .bool (updB (dueI (max now t) l up i).met (n).toNat true 4), .bool (updB (dueI (max now t) l up i).met (n).toNat true 5), .bool (updB (dueI (max now t) l up i).met (n).toNat true 6), .bool (updB (dueI (max now t) l up i).met (n).toNat true 7)] 74 := bools_store (m := (dueI (max now t) l up i).met) hb_8_ (by omega)
      clear hb_8_
      replace hb := hb.keep K_32 (by simp only [one]; omega)
      replace ho_14 := ho_14.keepO K_32 (fun q_ hq_ eq_ => pr_17 (by simp only [one] at eq_; rw [← eq_]; exact hq_))
      replace ho_15 := ho_15.keepO K_32 (fun q_ hq_ eq_ => pr_21 (by simp only [one] at eq_; rw [← eq_]; exact hq_))
      replace K0 := K0.trans K_32 (fun x hlt hx => absurd hlt (by simp only [one] at hx; omega))
      replace hb_8 := hb_8'
      clear hb_8'
      refine RL.nil ?_
      refine Run.seq ?_
      refine Run.region ?_
      refine RL.val (x_assignI rfl) ?_
      refine RL.nil ?_
      refine Run.seq ?_
      refine Run.seq ?_
      refine Run.region ?_
      refine RL.val (x_moveP rfl) ?_
      refine RL.val (x_nilCheck rfl) ?_
      refine RL.val (x_fld (o' := 1) Try.underlying51 rfl ty48 rfl rfl rfl) ?_
      refine RL.val (x_ld (v := .slice (al) (((dueI (max now t) l up i).L).length) (cl)) ty48 rfl rfl (hb.cl.field (i := 1) rfl)) ?_
      refine RL.val (x_lenSl Try.underlying48 rfl) ?_
      refine RL.val (x_moveI rfl) ?_
      refine RL.nil ?_
      refine Run.block ?_
      refine Run.loop (ι := Nat) (fun j ρ' w' => Holds ρ' [(0, .pointer (some ⟨b, 0, none⟩)), (7, .slice (at1) (((dueI (max now t) l up i).T).length) (ct1)), (8, .pointer (some ⟨b_5, 0, none⟩)), (10, .int .i64 (n)), (11, .int .i64 ((((((dueI (max now t) l up i).L).take j).countP (onWay (max now t) n) : Nat) : Int))), (28, .slice (au) (up.length) (cu)), (29, .int .i64 (((up.length : Nat) : Int))), (30, .int .i64 (((i : Nat) : Int))), (31, .bool (decide (((i : Nat) : Int) < ((up.length : Nat) : Int)))), (50, .slice (al) (((dueI (max now t) l up i).L).length) (cl)), (51, .int .i64 (((((dueI (max now t) l up i).L).length : Nat) : Int))), (52, .int .i64 (((j : Nat) : Int)))] ∧ Keeps (boxS b al) w w' ∧ (Blk w' b [.bool (true), .slice (al) (((dueI (max now t) l up i).L).length) (cl), .int .i64 (cntO l 0), .int .i64 (cntO l 1), .int .i64 (cntO l 2), .int .i64 (cntO l 3), .int .i64 (cntO l 4), .int .i64 (cntO l 5), .int .i64 (cntO l 6), .int .i64 (cntO l 7), .int .i64 (max now t)] 51) ∧ (Blk w' b_5 [.bool (updB (dueI (max now t) l up i).met (n).toNat true 0), .bool (updB (dueI (max now t) l up i).met (n).toNat true 1), .bool (updB (dueI (max now t) l up i).met (n).toNat true 2), .bool (updB (dueI (max now t) l up i).met (n).toNat true 3), .bool (updB (dueI (max now t) l up i).met (n).toNat true 4), .bool (updB (dueI (max now t) l up i).met (n).toNat true 5), .bool (updB (dueI (max now t) l up i).met (n).toNat true 6), .bool (updB (dueI (max now t) l up i).met (n).toNat true 7)] 74) ∧ (OwnSl w' 76 (al) (cl) ((dueI (max now t) l up i).L)) ∧ (OwnSl w' 42 (at1) (ct1) ((dueI (max now t) l up i).T)) ∧ (j ≤ ((dueI (max now t) l up i).L).length)) (fun j => ((dueI (max now t) l up i).L).length - j) 0 ?_ ?_
      · rw [List.take_zero, List.countP_nil]
        refine ⟨⟨rfl, rfl, rfl, rfl, rfl, rfl, rfl, rfl, rfl, rfl, rfl, rfl, trivial⟩, K0, hb, hb_8, ho_14, ho_15, ?_⟩
        · omega
      clear hb hb_8 ho_14 ho_15
      clear K0
      rintro j ρ_35 w_33 ⟨hH_34, K0, hb, hb_8, ho_14, ho_15, hj⟩ ih2
      obtain ⟨ρ₀, rfl⟩ := hH_34.ex
      clear hH_34
      refine Run.seq ?_
      refine Run.region ?_
      refine RL.val (x_ltI rfl rfl) ?_
      refine RL.nil ?_
      refine Run.seq ?_
      refine Run.cond rfl (fun hc53 => ?_) (fun hc53 => ?_)
      · try simp only [br] at hc53
        refine Run.skip ?_
        refine Run.seq ?_
        refine Run.block ?_
        refine Run.seq ?_
        refine Run.region ?_
        obtain ⟨b_36, o_37, x, hx2, ha_38, hc_39⟩ := ho_14.sl.el (i := j) (by omega)
        refine RL.val (x_idxN Try.underlying48 ty76 rfl rfl ha_38 (by omega)) ?_
        refine RL.val (x_ldV (v := .agg #[.int .i64 (((x).h).owner), .string (((x).h).key), .int .i64 ((x).since)]) (y := x) ty76 rfl hc_39 rfl) ?_
        refine RL.st rfl <| St1.alloc ty76 ?_
        intro b_42 w_43 hl_46 hb_45 K_44
        replace hb_45 : Blk w_43 b_42 [.int .i64 (0), .string (⟨#[]⟩), .int .i64 (0)] 76 := hb_45
        have ne_47 : b < b_42 := Nat.lt_of_lt_of_le hb.lt hl_46
        have ne_48 : b_5 < b_42 := Nat.lt_of_lt_of_le hb_8.lt hl_46
        have ne_49 : b_36 < b_42 := Nat.lt_of_lt_of_le hc_39.lt hl_46
        have pr_50 : ¬ own al b_42 := fun h => absurd (ho_14.own_lt _ h) (by omega)
        have pr_51 : ¬ own at1 b_42 := fun h => absurd (ho_15.own_lt _ h) (by omega)
        have : w.heap.size ≤ b_42 := Nat.le_trans K0.size hl_46
        clear hl_46
        replace hb := hb.ext K_44
        replace hb_8 := hb_8.ext K_44
        replace ho_14 := ho_14.ext K_44
        replace ho_15 := ho_15.ext K_44
        replace hc_39 := hc_39.ext K_44
        replace K0 := K0.ext K_44
        refine RL.st rfl <| St1.store (v := .agg #[.int .i64 (((x).h).owner), .string (((x).h).key), .int .i64 ((x).since)]) ty76 rfl rfl rfl (by simp [Value.cells, Value.oneCell']) hb_45 (by simp) ?_
        intro w_52 hb_45_ K_53
        have hb_45' : Blk w_52 b_42 [.int .i64 (((x).h).owner), .string (((x).h).key), .int .i64 ((x).since)] 76 := hb_45_
        clear hb_45_
        replace hb := hb.keep K_53 (by simp only [one]; omega)
        replace hb_8 := hb_8.keep K_53 (by simp only [one]; omega)
        replace ho_14 := ho_14.keepO K_53 (fun q_ hq_ eq_ => pr_50 (by simp only [one] at eq_; rw [← eq_]; exact hq_))
        replace ho_15 := ho_15.keepO K_53 (fun q_ hq_ eq_ => pr_51 (by simp only [one] at eq_; rw [← eq_]; exact hq_))
        replace hc_39 := hc_39.keep K_53 (fun e => pr_50 (by simp only [one] at e; rw [← e]; exact ⟨_, ha_38, rfl⟩))
        replace K0 := K0.trans K_53 (fun x hlt hx => absurd hlt (by simp only [one] at hx; omega))
        replace hb_45 := hb_45'
        clear hb_45'
        refine RL.nil ?_
        refine Run.seq ?_
        refine Run.region ?_
        refine RL.val (x_fld (o' := 0) Try.underlying76 rfl ty42 rfl rfl rfl) ?_
        refine RL.val (x_fld (o' := 0) Try.underlying42 rfl ty3 rfl rfl rfl) ?_
        refine RL.val (x_ld (v := .int .i64 (((x).h).owner)) ty3 rfl rfl (hb_45.cl.field (i := 0) rfl)) ?_
        refine RL.val (x_moveI rfl) ?_
        refine RL.val (x_eqI rfl rfl) ?_
        refine RL.val (x_moveB rfl) ?_
        refine RL.gval (wantedT rfl rfl rfl rfl) (fun hg => (x_moveP rfl)) ?_
        refine RL.gval (wantedT rfl rfl rfl rfl) (fun hg => (x_lds (cs := #[.int .i64 (((x).h).owner), .string (((x).h).key), .int .i64 ((x).since)]) ty76 rfl rfl (hb_45.cl.drop 0 3))) ?_
        refine RL.gcall (vals := [.pointer (some ⟨b, 0, none⟩), .agg #[.int .i64 (((x).h).owner), .string (((x).h).key), .int .i64 ((x).since)]]) (wantedT rfl rfl rfl rfl) en43 (fun hg => (mcons (gvr hg) (mcons (gvr hg) mnil))) (fun hg => (waits b x al _ cl (cntO l) (max now t) _ hb (by omega) (by omega) (hd4 x (mem_of_at hx2)))) ?_
        intro w_54 K_55
        replace hb := hb.ext K_55
        replace hb_8 := hb_8.ext K_55
        replace ho_14 := ho_14.ext K_55
        replace ho_15 := ho_15.ext K_55
        replace hb_45 := hb_45.ext K_55
        replace K0 := K0.ext K_55
        refine RL.val (x_and rfl rfl rfl) ?_
        refine RL.nil ?_
        refine Run.cond rfl (fun hc65 => ?_) (fun hc65 => ?_)
        · try simp only [br] at hc65
          have hcp := List.countP_le_length (p := onWay (max now t) n) (l := ((dueI (max now t) l up i).L).take j)
          have hlt := List.length_take_le j ((dueI (max now t) l up i).L)
          refine Run.region ?_
          refine RL.val (x_moveI rfl) ?_
          refine RL.val (x_add rfl rfl (by omega) (by omega)) ?_
          refine RL.val (x_assignI rfl) ?_
          refine RL.nil ?_
          refine Run.inBlock ?_
          refine Run.region ?_
          refine RL.val (x_add rfl rfl (by omega) (by omega)) ?_
          refine RL.val (x_moveI rfl) ?_
          refine RL.nil ?_
          have e := countP_take (onWay (max now t) n) hx2
          rw [if_pos (by simp [onWay, hc65])] at e
          refine ih2 (j + 1) _ _ ?_ (by omega)
          rw [e]
          refine ⟨⟨rfl, rfl, rfl, rfl, rfl, rfl, rfl, rfl, rfl, rfl, rfl, rfl, trivial⟩, K0, hb, hb_8, ho_14, ho_15, ?_⟩
          · omega
        · try simp only [br] at hc65
          refine Run.skip ?_
          refine Run.inBlock ?_
          refine Run.region ?_
          refine RL.val (x_add rfl rfl (by omega) (by omega)) ?_
          refine RL.val (x_moveI rfl) ?_
          refine RL.nil ?_
          have e := countP_take (onWay (max now t) n) hx2
          rw [if_neg (by rcases hc65 with h | h <;> simp [onWay, h])] at e
          refine ih2 (j + 1) _ _ ?_ (by omega)
          rw [e]
          refine ⟨⟨rfl, rfl, rfl, rfl, rfl, rfl, rfl, rfl, rfl, rfl, rfl, rfl, trivial⟩, K0, hb, hb_8, ho_14, ho_15, ?_⟩
          · omega
      · try simp only [br] at hc53
        refine Run.exit rfl ?_
        refine Run.seq ?_
        have hjl : j = ((dueI (max now t) l up i).L).length := by omega
        subst hjl
        rw [List.take_length]
        show Run _ _ _ _ _ _ _
        refine Run.region ?_
        refine RL.val (x_moveP rfl) ?_
        refine RL.val (x_nilCheck rfl) ?_
        refine RL.val (x_fld (o' := 1) Try.underlying51 rfl ty48 rfl rfl rfl) ?_
        refine RL.val (x_ld (v := .slice (al) (((dueI (max now t) l up i).L).length) (cl)) ty48 rfl rfl (hb.cl.field (i := 1) rfl)) ?_
        refine RL.val (x_lenSl Try.underlying48 rfl) ?_
        refine RL.val (x_moveI rfl) ?_
        refine RL.nil ?_
        refine Run.block ?_
        refine Run.loop (ι := Nat) (fun q ρ' w' => ∃ at2 : Option Addr, ∃ ct2 : Nat, Holds ρ' [(0, .pointer (some ⟨b, 0, none⟩)), (7, .slice (at2) (((dueI (max now t) l up i).T ++ (sndI (max now t) n (dueI (max now t) l up i).L q).T).length) (ct2)), (8, .pointer (some ⟨b_5, 0, none⟩)), (10, .int .i64 (n)), (11, .int .i64 ((((sndI (max now t) n (dueI (max now t) l up i).L q).c : Nat) : Int))), (28, .slice (au) (up.length) (cu)), (29, .int .i64 (((up.length : Nat) : Int))), (30, .int .i64 (((i : Nat) : Int))), (31, .bool (decide (((i : Nat) : Int) < ((up.length : Nat) : Int)))), (72, .slice (al) (((dueI (max now t) l up i).L).length) (cl)), (73, .int .i64 (((((dueI (max now t) l up i).L).length : Nat) : Int))), (74, .int .i64 (((q : Nat) : Int)))] ∧ Keeps (boxS b al) w w' ∧ (Blk w' b [.bool (true), .slice (al) ((mixL (max now t) n ((dueI (max now t) l up i).L) q).length) (cl), .int .i64 (cntO l 0), .int .i64 (cntO l 1), .int .i64 (cntO l 2), .int .i64 (cntO l 3), .int .i64 (cntO l 4), .int .i64 (cntO l 5), .int .i64 (cntO l 6), .int .i64 (cntO l 7), .int .i64 (max now t)] 51) ∧ (Blk w' b_5 [.bool (updB (dueI (max now t) l up i).met (n).toNat true 0), .bool (updB (dueI (max now t) l up i).met (n).toNat true 1), .bool (updB (dueI (max now t) l up i).met (n).toNat true 2), .bool (updB (dueI (max now t) l up i).met (n).toNat true 3), .bool (updB (dueI (max now t) l up i).met (n).toNat true 4), .bool (updB (dueI (max now t) l up i).met (n).toNat true 5), .bool (updB (dueI (max now t) l up i).met (n).toNat true 6), .bool (updB (dueI (max now t) l up i).met (n).toNat true 7)] 74) ∧ (OwnSl w' 76 al cl (mixL (max now t) n ((dueI (max now t) l up i).L) q)) ∧ (OwnSl w' 42 at2 ct2 ((dueI (max now t) l up i).T ++ (sndI (max now t) n (dueI (max now t) l up i).L q).T)) ∧ (¬ own al b) ∧ (¬ own al b_5) ∧ (∀ q_, own al q_ → ¬ own at2 q_) ∧ (∀ q_, own al q_ → q_ < w.heap.size → (boxS b al) q_) ∧ (¬ own at2 b) ∧ (¬ own at2 b_5) ∧ (∀ q_, own at2 q_ → q_ < w.heap.size → (boxS b al) q_) ∧ (q ≤ ((dueI (max now t) l up i).L).length)) (fun q => ((dueI (max now t) l up i).L).length - q) 0 ?_ ?_
        · rw [mixL_zero, show (sndI (max now t) n (dueI (max now t) l up i).L 0).T = [] from rfl, List.append_nil]
          refine ⟨_, _, ⟨rfl, rfl, rfl, rfl, rfl, rfl, rfl, rfl, rfl, rfl, rfl, rfl, trivial⟩, K0, hb, hb_8, ho_14, ho_15, pr_16, pr_17, pr_18, pr_19, pr_20, pr_21, pr_22, ?_⟩
          · omega
        clear hb hb_8 ho_14 ho_15
        clear K0
        rintro q ρ_67 w_56 ⟨at2, ct2, hH_57, K0, hb, hb_8, ho_58, ho_59, pr_60, pr_61, pr_62, pr_63, pr_64, pr_65, pr_66, hq⟩ ih3
        obtain ⟨ρ₀, rfl⟩ := hH_57.ex
        clear hH_57
        refine Run.seq ?_
        refine Run.region ?_
        refine RL.val (x_ltI rfl rfl) ?_
        refine RL.nil ?_
        refine Run.seq ?_
        refine Run.cond rfl (fun hc75 => ?_) (fun hc75 => ?_)
        · try simp only [br] at hc75
          refine Run.skip ?_
          refine Run.seq ?_
          refine Run.block ?_
          refine Run.seq ?_
          refine Run.region ?_
          refine RL.val (x_moveI rfl) ?_
          obtain ⟨b_68, o_69, y, hx3, ha_70, hc_71⟩ := ho_58.sl.el (i := q) (by first | omega | (rw [mixL_len _ _ _ _ (by omega)]; omega))
          refine RL.val (x_idxN Try.underlying48 ty76 rfl rfl ha_70 (by first | omega | (rw [mixL_len _ _ _ _ (by omega)]; omega))) ?_
          refine RL.val (x_ldV (v := .agg #[.int .i64 (((y).h).owner), .string (((y).h).key), .int .i64 ((y).since)]) (y := y) ty76 rfl hc_71 rfl) ?_
          refine RL.st rfl <| St1.alloc ty76 ?_
          intro b_74 w_75 hl_78 hb_77 K_76
          replace hb_77 : Blk w_75 b_74 [.int .i64 (0), .string (⟨#[]⟩), .int .i64 (0)] 76 := hb_77
          have ne_79 : b < b_74 := Nat.lt_of_lt_of_le hb.lt hl_78
          have ne_80 : b_5 < b_74 := Nat.lt_of_lt_of_le hb_8.lt hl_78
          have ne_81 : b_68 < b_74 := Nat.lt_of_lt_of_le hc_71.lt hl_78
          have pr_82 : ¬ own al b_74 := fun h => absurd (ho_58.own_lt _ h) (by omega)
          have pr_83 : ¬ own at2 b_74 := fun h => absurd (ho_59.own_lt _ h) (by omega)
          have : w.heap.size ≤ b_74 := Nat.le_trans K0.size hl_78
          clear hl_78
          replace hb := hb.ext K_76
          replace hb_8 := hb_8.ext K_76
          replace ho_58 := ho_58.ext K_76
          replace ho_59 := ho_59.ext K_76
          replace hc_71 := hc_71.ext K_76
          replace K0 := K0.ext K_76
          refine RL.val (x_assignI rfl) ?_
          refine RL.st rfl <| St1.store (v := .agg #[.int .i64 (((y).h).owner), .string (((y).h).key), .int .i64 ((y).since)]) ty76 rfl rfl rfl (by simp [Value.cells, Value.oneCell']) hb_77 (by simp) ?_
          intro w_84 hb_77_ K_85
          have hb_77' : Blk w_84 b_74 [.int .i64 (((y).h).owner), .string (((y).h).key), .int .i64 ((y).since)] 76 := hb_77_
          clear hb_77_
          replace hb := hb.keep K_85 (by simp only [one]; omega)
          replace hb_8 := hb_8.keep K_85 (by simp only [one]; omega)
          replace ho_58 := ho_58.keepO K_85 (fun q_ hq_ eq_ => pr_82 (by simp only [one] at eq_; rw [← eq_]; exact hq_))
          replace ho_59 := ho_59.keepO K_85 (fun q_ hq_ eq_ => pr_83 (by simp only [one] at eq_; rw [← eq_]; exact hq_))
          replace hc_71 := hc_71.keep K_85 (fun e => pr_82 (by simp only [one] at e; rw [← e]; exact ⟨_, ha_70, rfl⟩))
          replace K0 := K0.trans K_85 (fun x hlt hx => absurd hlt (by simp only [one] at hx; omega))
          replace hb_77 := hb_77'
          clear hb_77'
          refine RL.nil ?_
          have hL3 : ((dueI (max now t) l up i).L)[q]? = some y := by rw [← mixL_get (max now t) n ((dueI (max now t) l up i).L) q (by omega)]; exact hx3
          refine Run.seq ?_
          refine Run.region ?_
          refine RL.val (x_fld (o' := 0) Try.underlying76 rfl ty42 rfl rfl rfl) ?_
          refine RL.val (x_fld (o' := 0) Try.underlying42 rfl ty3 rfl rfl rfl) ?_
          refine RL.val (x_ld (v := .int .i64 (((y).h).owner)) ty3 rfl rfl (hb_77.cl.field (i := 0) rfl)) ?_
          refine RL.val (x_moveI rfl) ?_
          refine RL.val (x_eqI rfl rfl) ?_
          refine RL.val (x_moveB rfl) ?_
          refine RL.gval (wantedT rfl rfl rfl rfl) (fun hg => (x_moveP rfl)) ?_
          refine RL.gval (wantedT rfl rfl rfl rfl) (fun hg => (x_lds (cs := #[.int .i64 (((y).h).owner), .string (((y).h).key), .int .i64 ((y).since)]) ty76 rfl rfl (hb_77.cl.drop 0 3))) ?_
          refine RL.gcall (vals := [.pointer (some ⟨b, 0, none⟩), .agg #[.int .i64 (((y).h).owner), .string (((y).h).key), .int .i64 ((y).since)]]) (wantedT rfl rfl rfl rfl) en43 (fun hg => (mcons (gvr hg) (mcons (gvr hg) mnil))) (fun hg => (waits b y al _ cl (cntO l) (max now t) _ hb (by omega) (by omega) (hd4 y (mem_of_at hL3)))) ?_
          intro w_86 K_87
          replace hb := hb.ext K_87
          replace hb_8 := hb_8.ext K_87
          replace ho_58 := ho_58.ext K_87
          replace ho_59 := ho_59.ext K_87
          replace hb_77 := hb_77.ext K_87
          replace K0 := K0.ext K_87
          refine RL.gval (wantedT rfl rfl rfl rfl) (fun hg => (x_not (gvr hg))) ?_
          refine RL.val (x_and rfl rfl rfl) ?_
          refine RL.val (x_moveB rfl) ?_
          refine RL.gval (wantedT rfl rfl rfl rfl) (fun hg => (x_moveI rfl)) ?_
          refine RL.gval (wantedT rfl rfl rfl rfl) (fun hg => (x_ltI (gvr hg) rfl)) ?_
          refine RL.val (x_and rfl rfl rfl) ?_
          refine RL.nil ?_
          refine Run.cond rfl (fun hc93 => ?_) (fun hc93 => ?_)
          · try simp only [br] at hc93
            refine Run.seq ?_
            obtain ⟨b_90, o_91, z, hz, ha_92, hc_93⟩ := ho_58.sl.el (i := q) (by first | omega | (rw [mixL_len _ _ _ _ (by omega)]; omega))
            refine Run.drawT [11] (m := 12) (by kernel_rfl) rfl ?_
            intro w_88 K_89
            replace hb := hb.ext K_89
            replace hb_8 := hb_8.ext K_89
            replace ho_58 := ho_58.ext K_89
            replace ho_59 := ho_59.ext K_89
            replace hb_77 := hb_77.ext K_89
            replace hc_93 := hc_93.ext K_89
            replace K0 := K0.ext K_89
            refine ⟨fun w' => Blk w' b [.bool (true), .slice (al) ((mixL (max now t) n ((dueI (max now t) l up i).L) q).length) (cl), .int .i64 (cntO l 0), .int .i64 (cntO l 1), .int .i64 (cntO l 2), .int .i64 (cntO l 3), .int .i64 (cntO l 4), .int .i64 (cntO l 5), .int .i64 (cntO l 6), .int .i64 (cntO l 7), .int .i64 (max now t)] 51 ∧ Cl w' b_90 (o_91 + q * 3) (cellsOf z) ∧ True, ?_⟩
            refine RT.takeP (v := .pointer (some ⟨b, 0, none⟩)) 0 rfl (by kernel_rfl) (.inr ⟨hb, hc_93, trivial⟩) (fun _ => (x_moveP rfl)) ?_
            refine RT.takeP (v := .pointer (some ⟨b, 0, none⟩)) 1 rfl (by kernel_rfl) (.inr ⟨hb, hc_93, trivial⟩) (fun _ => (x_nilCheck rfl)) ?_
            refine RT.takeP (v := .pointer (some ⟨b, 1, none⟩)) 2 rfl (by kernel_rfl) (.inr ⟨hb, hc_93, trivial⟩) (fun _ => (x_fld (o' := 1) Try.underlying51 rfl ty48 rfl rfl rfl)) ?_
            refine RT.take (v := .slice (al) ((mixL (max now t) n ((dueI (max now t) l up i).L) q).length) (cl)) 3 rfl (by kernel_rfl) ⟨hb, hc_93, trivial⟩ (by rintro _ ⟨hb, hc_93, -⟩; exact (x_ld (v := .slice (al) ((mixL (max now t) n ((dueI (max now t) l up i).L) q).length) (cl)) ty48 rfl rfl (hb.cl.field (i := 1) rfl))) ?_
            refine RT.takeP (v := .int .i64 (((q : Nat) : Int))) 4 rfl (by kernel_rfl) (.inr ⟨hb, hc_93, trivial⟩) (fun _ => (x_moveI rfl)) ?_
            refine RT.takeP (v := .pointer (some ⟨b, 0, none⟩)) 5 rfl (by kernel_rfl) (.inr ⟨hb, hc_93, trivial⟩) (fun _ => (x_moveP rfl)) ?_
            refine RT.takeP (v := .pointer (some ⟨b, 0, none⟩)) 6 rfl (by kernel_rfl) (.inr ⟨hb, hc_93, trivial⟩) (fun _ => (x_nilCheck rfl)) ?_
            refine RT.takeP (v := .pointer (some ⟨b, 10, none⟩)) 7 rfl (by kernel_rfl) (.inr ⟨hb, hc_93, trivial⟩) (fun _ => (x_fld (o' := 10) Try.underlying51 rfl ty3 rfl rfl rfl)) ?_
            refine RT.take (v := .int .i64 (max now t)) 8 rfl (by kernel_rfl) ⟨hb, hc_93, trivial⟩ (by rintro _ ⟨hb, hc_93, -⟩; exact (x_ld (v := .int .i64 (max now t)) ty3 rfl rfl (hb.cl.field (i := 10) rfl))) ?_
            refine RT.takeP (v := .pointer (some ⟨b_90, o_91 + q * 3, none⟩)) 9 rfl (by kernel_rfl) (.inr ⟨hb, hc_93, trivial⟩) (fun _ => (x_idxN Try.underlying48 ty76 rfl rfl ha_92 (by first | omega | (rw [mixL_len _ _ _ _ (by omega)]; omega)))) ?_
            refine RT.takeP (v := .pointer (some ⟨b_90, o_91 + q * 3 + 2, none⟩)) 10 rfl (by kernel_rfl) (.inr ⟨hb, hc_93, trivial⟩) (fun _ => (x_fld (o' := o_91 + q * 3 + 2) Try.underlying76 rfl ty3 rfl rfl rfl)) ?_
            refine RT.st 11 rfl (by kernel_rfl) rfl <| St1.storeEl (v := .int .i64 (max now t)) (off := 2) (i := q) ({ z with since := max now t }) ty3 rfl rfl rfl (by simp [Value.cells, Value.oneCell']) ho_58 ha_92 hz rfl (by decide) rfl ?_
            intro w_96 ho_98 K_97
            clear hc_93
            replace hb := hb.keep K_97 pr_60
            replace hb_8 := hb_8.keep K_97 pr_61
            replace ho_59 := ho_59.keepO K_97 (fun q_ h1 h2 => pr_62 q_ h2 h1)
            replace hb_77 := hb_77.keep K_97 pr_82
            replace K0 := K0.trans K_97 (fun x hlt hx => pr_63 x hx hlt)
            replace ho_58 := ho_98
            clear ho_98
            refine ⟨.inl (by kernel_rfl), ?_⟩
            refine RT.done (by kernel_rfl) ?_
            refine Run.seq ?_
            have hsc := sndI_c (max now t) n ((dueI (max now t) l up i).L) q (by omega)
            refine Run.region ?_
            refine RL.val (x_moveI rfl) ?_
            refine RL.val (x_add rfl rfl (by omega) (by omega)) ?_
            refine RL.val (x_assignI rfl) ?_
            refine RL.nil ?_
            have hst := sndI_T (max now t) n ((dueI (max now t) l up i).L) q (by omega)
            refine Run.region ?_
            refine RL.val (x_moveSl rfl) ?_
            refine RL.val (x_fld (o' := 0) Try.underlying76 rfl ty42 rfl rfl rfl) ?_
            refine RL.val (x_lds (cs := #[.int .i64 (((y).h).owner), .string (((y).h).key)]) ty42 rfl rfl (hb_77.cl.drop 0 2)) ?_
            refine RL.st rfl <| St1.buildSlice ([(y).h] : List Hint) Try.underlying35 ty42 rfl rfl (by first | decide | (simp [Enc.size])) ?_
            intro b_99 w_100 hl_103 ho_102 K_101
            have pr_104 : ¬ own (some ⟨b_99, 0, none⟩) b := notNew (ge_new hl_103) hb.lt
            have pr_105 : ¬ own (some ⟨b_99, 0, none⟩) b_5 := notNew (ge_new hl_103) hb_8.lt
            have pr_106 : ∀ q_, own (some ⟨b_99, 0, none⟩) q_ → ¬ own al q_ := apartNew (ge_new hl_103) ho_58.own_lt
            have pr_107 : ∀ q_, own (some ⟨b_99, 0, none⟩) q_ → ¬ own at2 q_ := apartNew (ge_new hl_103) ho_59.own_lt
            have pr_108 : ¬ own (some ⟨b_99, 0, none⟩) b_74 := notNew (ge_new hl_103) hb_77.lt
            have pg_109 : ∀ q_, own (some ⟨b_99, 0, none⟩) q_ → q_ < w.heap.size → (boxS b al) q_ := fun q_ h hlt => absurd (Nat.le_trans K0.size ((ge_new hl_103) q_ h)) (by omega)
            clear hl_103
            replace hb := hb.ext K_101
            replace hb_8 := hb_8.ext K_101
            replace ho_58 := ho_58.ext K_101
            replace ho_59 := ho_59.ext K_101
            replace hb_77 := hb_77.ext K_101
            replace K0 := K0.ext K_101
            refine RL.st rfl <| St1.append (xs := (dueI (max now t) l up i).T ++ (sndI (max now t) n (dueI (max now t) l up i).L q).T) (ys := ([(y).h] : List Hint)) Try.underlying35 ty42 rfl rfl rfl ho_59 ho_102.sl (by first | omega | (simp only [lr]; omega)) (by decide) ?_
            intro a_110 c_111 w_112 ho_113 K_114 hm_115 hrm_116
            have pr_117 : ¬ own a_110 b := hm_115.not pr_64 hb.lt
            have pr_118 : ¬ own a_110 b_5 := hm_115.not pr_65 hb_8.lt
            have pr_119 : ∀ q_, own a_110 q_ → ¬ own al q_ := hm_115.apart (fun q_ h1 h2 => pr_62 q_ h2 h1) ho_58.own_lt
            have pr_120 : ¬ own a_110 b_74 := hm_115.not pr_83 hb_77.lt
            have pr_121 : ∀ q_, own a_110 q_ → ¬ own (some ⟨b_99, 0, none⟩) q_ := hm_115.apart (fun q_ h1 h2 => pr_107 q_ h2 h1) ho_102.own_lt
            have pg_122 : ∀ q_, own a_110 q_ → q_ < w.heap.size → (boxS b al) q_ := hm_115.inS pr_66 K0.size
            replace hb := hb.keep K_114 pr_64
            replace hb_8 := hb_8.keep K_114 pr_65
            replace ho_58 := ho_58.keepO K_114 pr_62
            replace hb_77 := hb_77.keep K_114 pr_83
            replace ho_102 := ho_102.keepO K_114 pr_107
            replace K0 := K0.trans K_114 (fun x hlt hx => pr_66 x hx hlt)
            clear hm_115
            clear hrm_116
            refine RL.val (x_assignSl rfl) ?_
            refine RL.nil ?_
            refine Run.inBlock ?_
            refine Run.region ?_
            refine RL.val (x_add rfl rfl (by omega) (by omega)) ?_
            refine RL.val (x_moveI rfl) ?_
            refine RL.nil ?_
            have e0 := (sndI_step (now := (max now t)) (n := n) hL3).trans (sStep_yes hc93.1.1 hc93.1.2 (by omega))
            have eM := mixL_set (y := { z with since := (max now t) }) hL3 (by rw [e0, Option.some.inj (hx3.symm.trans hz)])
            have eT : (sndI (max now t) n (dueI (max now t) l up i).L (q + 1)).T = (sndI (max now t) n (dueI (max now t) l up i).L q).T ++ [y.h] := by rw [e0]
            have eC : (sndI (max now t) n (dueI (max now t) l up i).L (q + 1)).c = (sndI (max now t) n (dueI (max now t) l up i).L q).c + 1 := by rw [e0]
            refine ih3 (q + 1) _ _ ?_ (by omega)
            rw [eM, eT, eC, ← List.append_assoc, List.length_set]
            refine ⟨_, _, ⟨rfl, rfl, rfl, rfl, rfl, rfl, rfl, rfl, rfl, rfl, rfl, rfl, trivial⟩, K0, hb, hb_8, ho_58, ho_113, pr_60, pr_61, (fun q_ h1 h2 => pr_119 q_ h2 h1), pr_63, pr_117, pr_118, pg_122, ?_⟩
            · omega
          · try simp only [br] at hc93
            refine Run.skip ?_
            refine Run.inBlock ?_
            refine Run.region ?_
            refine RL.val (x_add rfl rfl (by omega) (by omega)) ?_
            refine RL.val (x_moveI rfl) ?_
            refine RL.nil ?_
            have e0 := (sndI_step (now := (max now t)) (n := n) hL3).trans (sStep_no' hc93)
            have eM := mixL_same hL3 (by rw [e0])
            have eT : (sndI (max now t) n (dueI (max now t) l up i).L (q + 1)).T = (sndI (max now t) n (dueI (max now t) l up i).L q).T := by rw [e0]
            have eC : (sndI (max now t) n (dueI (max now t) l up i).L (q + 1)).c = (sndI (max now t) n (dueI (max now t) l up i).L q).c := by rw [e0]
            refine ih3 (q + 1) _ _ ?_ (by omega)
            rw [eM, eT, eC]
            refine ⟨_, _, ⟨rfl, rfl, rfl, rfl, rfl, rfl, rfl, rfl, rfl, rfl, rfl, rfl, trivial⟩, K0, hb, hb_8, ho_58, ho_59, pr_60, pr_61, pr_62, pr_63, pr_64, pr_65, pr_66, ?_⟩
            · omega
        · try simp only [br] at hc75
          refine Run.exit rfl ?_
          refine Run.inBlock ?_
          refine Run.region ?_
          refine RL.val (x_add rfl rfl (by omega) (by omega)) ?_
          refine RL.val (x_moveI rfl) ?_
          refine RL.nil ?_
          have hql : q = ((dueI (max now t) l up i).L).length := by omega
          have e := (dueI_step (now := (max now t)) (l := l) hx).trans (dStep_yes hc44.1 hc44.2)
          have e1 : (dueI (max now t) l up (i + 1)).L = mixL (max now t) n ((dueI (max now t) l up i).L) q := by rw [e, hql, mixL_end]
          have e2 : (dueI (max now t) l up (i + 1)).T = (dueI (max now t) l up i).T ++ (sndI (max now t) n (dueI (max now t) l up i).L q).T := by rw [e, hql]
          have e3 : (dueI (max now t) l up (i + 1)).met = updB (dueI (max now t) l up i).met (n).toNat true := by rw [e]
          refine ih1 (i + 1) _ _ ?_ (by omega)
          rw [e1, e2, e3]
          refine ⟨_, _, ⟨rfl, rfl, rfl, rfl, rfl, rfl, trivial⟩, K0, hb, hb_8, ho_58, ho_59, pr_60, pr_61, pr_62, pr_63, pr_64, pr_65, pr_66, ?_⟩
          · omega
  · try simp only [br] at hc31
    refine Run.exit rfl ?_
    refine Run.seq ?_
    refine Run.region ?_
    refine RL.val (x_moveSl rfl) ?_
    refine RL.val (x_assignSl rfl) ?_
    refine RL.nil ?_
    refine Run.ret1 (v := .slice (at1) (((dueI (max now t) l up i).T).length) (ct1)) Try.func18 rfl rfl ?_
    have hil : i = up.length := by omega
    subst hil
    exact ⟨_, rfl, at1, ct1, rfl, ho_15, fun x hx => Nat.le_of_not_lt fun hlt => (pr_22 x hx hlt).elim (fun e => pr_20 (e ▸ hx)) (fun h => (fun q_ h1 h2 => pr_18 q_ h2 h1) x hx h), BoxAt.of hb ho_14 pr_16 rfl (fun k _ => dueI_cnt _ _ _ _ _ (Nat.le_refl _)), K0⟩

end Go.Proofs.Ytlediffjclploaa
