/-
  Layer 1: the reference's Unframe.
-/
import Derived.Test.YtlhepanmdchjoaaGreatDoorRows
import Derived.Test.YtlhepanmdchjoaaGreatDoorXc
namespace Go.Proofs.YtlhepanmdchjoaaGreatDoor
attribute [local irreducible] St1 RL RA RT RT1 Run

attribute [local irreducible] crcN crcL crcS crcB numL leL unfR

theorem en107 : Enters Tryz.prog 107 := enters_of Tryz.func107 rfl (by kernel_rfl)

set_option maxRecDepth 100000 in
set_option maxHeartbeats 4000000 in
theorem ruint_ (a : Option Addr) (xs : List UInt8) (c : Nat) (w : World) (hs : SlOf w a xs) (hl : xs.length ≤ 1073741824) :
    Calls Tryz.prog 107 #[.slice (a) (xs.length) (c)] w (Ret (fun v w' => (∃ n k, numL 0 0 xs = .ok (n, k) ∧ v = .tuple #[.int .i64 ((n : Nat) : Int), .int .i64 ((k : Nat) : Int), .int .i64 0] ∧ Ext w w') ∨ (∃ e, numL 0 0 xs = .error e ∧ v = .tuple #[.int .i64 0, .int .i64 0, .int .i64 e] ∧ Ext w w'))) := by
  refine calls_run (n := 43) Tryz.func107 rfl rfl rfl ?_
  refine Run.seq ?_
  refine Run.region ?_
  refine RL.val (x_assignI rfl) ?_
  refine RL.val (x_assignI rfl) ?_
  refine RL.val (x_assignI rfl) ?_
  refine RL.nil ?_
  refine Run.seq ?_
  refine Run.region ?_
  refine RL.val (x_assignI rfl) ?_
  refine RL.val (x_assignI rfl) ?_
  refine RL.nil ?_
  refine Run.seq ?_
  refine Run.seq ?_
  refine Run.region ?_
  refine RL.val (x_moveSl rfl) ?_
  refine RL.val (x_lenSl Tryz.underlying32 rfl) ?_
  refine RL.val (x_moveI rfl) ?_
  refine RL.nil ?_
  refine Run.block ?_
  refine Run.loop (ι := Nat) (fun i ρ' w' => ∃ n : Nat, Holds ρ' [(5, .int .i64 (((n : Nat) : Int))), (6, .int .i64 (((2 ^ (7 * i) : Nat) : Int))), (9, .slice (a) (xs.length) (c)), (10, .int .i64 (((xs.length : Nat) : Int))), (11, .int .i64 (((i : Nat) : Int)))] ∧ Ext w w' ∧ (i ≤ 8) ∧ (i ≤ xs.length) ∧ (n < 2 ^ (7 * i)) ∧ (numL 0 0 xs = numL i n (xs.drop i))) (fun i => xs.length - i) 0 ?_ ?_
  · rw [show 2 ^ (7 * 0) = 1 from rfl]
    refine ⟨0, ⟨rfl, rfl, rfl, rfl, rfl, trivial⟩, (Keeps.refl _ w), ?_, ?_, ?_, ?_⟩
    · omega
    · omega
    · decide
    · rfl
  rintro i ρ_3 w_1 ⟨n, hH_2, K0, hi, hpi, hn, hN⟩ ih1
  obtain ⟨ρ₀, rfl⟩ := hH_2.ex
  clear hH_2
  refine Run.seq ?_
  refine Run.region ?_
  refine RL.val (x_ltI rfl rfl) ?_
  refine RL.nil ?_
  refine Run.seq ?_
  refine Run.cond rfl (fun hc12 => ?_) (fun hc12 => ?_)
  · try simp only [br] at hc12
    refine Run.skip ?_
    refine Run.seq ?_
    refine Run.block ?_
    refine Run.seq ?_
    refine Run.region ?_
    refine RL.val (x_moveI rfl) ?_
    obtain ⟨b_4, o_5, x, hx, ha_6, hc_7⟩ := hs.el (i := i) (by first | omega | (simp only [List.length_set]; omega))
    have hc_7_lt := hc_7.lt
    replace hc_7 := hc_7.ext K0
    refine RL.val (x_idxN Tryz.underlying32 ty5 rfl rfl ha_6 (by first | omega | (simp only [List.length_set]; omega))) ?_
    refine RL.val (x_ldV (v := .int .u8 (((x).toNat : Int))) (y := x) ty5 rfl hc_7 rfl) ?_
    refine RL.val (x_assignI rfl) ?_
    refine RL.val (x_assignI rfl) ?_
    refine RL.nil ?_
    refine Run.seq ?_
    refine Run.seq ?_
    refine Run.region ?_
    refine RL.val (x_moveI rfl) ?_
    refine RL.val (x_eqI rfl rfl) ?_
    refine RL.val (x_moveB rfl) ?_
    refine RL.gval (wantedT rfl rfl rfl rfl) (fun hg => (x_moveI rfl)) ?_
    refine RL.gval (wantedT rfl rfl rfl rfl) (fun hg => (x_geI (gvr hg) rfl)) ?_
    refine RL.val (x_and rfl rfl rfl) ?_
    refine RL.nil ?_
    refine Run.cond rfl (fun hc21 => ?_) (fun hc21 => ?_)
    · try simp only [br] at hc21
      refine Run.seq ?_
      refine Run.region ?_
      refine RL.val (x_assignI rfl) ?_
      refine RL.val (x_assignI rfl) ?_
      refine RL.val (x_assignI rfl) ?_
      refine RL.nil ?_
      refine Run.ret3 (v := .int .i64 (0)) (x := .int .i64 (0)) (y := .int .i64 (5)) Tryz.func107 rfl rfl rfl rfl ?_
      exact ⟨_, rfl, .inr ⟨5, hN.trans (numL_range hx (by omega) (by omega)), rfl, K0⟩⟩
    · try simp only [br] at hc21
      refine Run.skip ?_
      refine Run.seq ?_
      have hp7 := pow7_le (i := i) (by omega)
      have hd7 := dig7_le x.toNat i
      have hs7 := pow7_step i
      have hx8 := x.toNat_lt
      refine Run.region ?_
      refine RL.val (x_moveI rfl) ?_
      refine RL.val (x_moveI rfl) ?_
      refine RL.val (litI (c := ((((x).toNat) % 128 : Nat) : Int)) (x_rem rfl rfl (by decide)) (tmodN ((x).toNat) 128)) ?_
      refine RL.val (x_convN (kd := .i64) (a := ((x).toNat) % 128) rfl ⟨_, Tryz.underlying5⟩ Tryz.underlying3 (show ((x).toNat) % 128 < 9223372036854775808 by have := UInt8.toNat_lt x; omega)) ?_
      refine RL.val (x_moveI rfl) ?_
      refine RL.val (litI (c := (((((x).toNat) % 128) * (2 ^ (7 * i)) : Nat) : Int)) (x_mul rfl rfl (by have : (0 : Int) ≤ ((x.toNat % 128 * 2 ^ (7 * i) : Nat) : Int) := Int.natCast_nonneg _; rw [Int.natCast_mul] at this; omega) (by rw [← Int.natCast_mul]; omega)) rfl) ?_
      refine RL.val (litI (c := ((n + ((((x).toNat) % 128) * (2 ^ (7 * i))) : Nat) : Int)) (x_add rfl rfl (by omega) (by omega)) rfl) ?_
      refine RL.val (x_assignI rfl) ?_
      refine RL.nil ?_
      refine Run.seq ?_
      refine Run.seq ?_
      refine Run.region ?_
      refine RL.val (x_moveI rfl) ?_
      refine RL.val (x_ltI rfl rfl) ?_
      refine RL.nil ?_
      refine Run.cond rfl (fun hc30 => ?_) (fun hc30 => ?_)
      · try simp only [br] at hc30
        refine Run.seq ?_
        refine Run.seq ?_
        refine Run.region ?_
        refine RL.val (x_moveI rfl) ?_
        refine RL.val (x_eqI rfl rfl) ?_
        refine RL.val (x_moveB rfl) ?_
        refine RL.gval (wantedT rfl rfl rfl rfl) (fun hg => (x_moveI rfl)) ?_
        refine RL.gval (wantedT rfl rfl rfl rfl) (fun hg => (x_gtI (gvr hg) rfl)) ?_
        refine RL.val (x_and rfl rfl rfl) ?_
        refine RL.nil ?_
        refine Run.cond rfl (fun hc36 => ?_) (fun hc36 => ?_)
        · try simp only [br] at hc36
          refine Run.seq ?_
          refine Run.region ?_
          refine RL.val (x_assignI rfl) ?_
          refine RL.val (x_assignI rfl) ?_
          refine RL.val (x_assignI rfl) ?_
          refine RL.nil ?_
          refine Run.ret3 (v := .int .i64 (0)) (x := .int .i64 (0)) (y := .int .i64 (10)) Tryz.func107 rfl rfl rfl rfl ?_
          exact ⟨_, rfl, .inr ⟨10, hN.trans (numL_form hx (by omega) (by omega)), rfl, K0⟩⟩
        · try simp only [br] at hc36
          refine Run.skip ?_
          refine Run.seq ?_
          refine Run.region ?_
          refine RL.val (x_moveI rfl) ?_
          refine RL.val (x_moveI rfl) ?_
          refine RL.val (litI (c := ((i + 1 : Nat) : Int)) (x_add rfl rfl (by omega) (by omega)) rfl) ?_
          refine RL.val (x_assignI rfl) ?_
          refine RL.val (x_assignI rfl) ?_
          refine RL.val (x_assignI rfl) ?_
          refine RL.nil ?_
          refine Run.ret3 (v := .int .i64 (((n + ((((x).toNat) % 128) * (2 ^ (7 * i))) : Nat) : Int))) (x := .int .i64 (((i + 1 : Nat) : Int))) (y := .int .i64 (0)) Tryz.func107 rfl rfl rfl rfl ?_
          exact ⟨_, rfl, .inl ⟨_, _, hN.trans (numL_ok hx (by omega) (by omega)), rfl, K0⟩⟩
      · try simp only [br] at hc30
        refine Run.skip ?_
        have hp7 := pow7_le (i := i) (by omega)
        have hd7 := dig7_le x.toNat i
        have hs7 := pow7_step i
        have hx8 := x.toNat_lt
        have hs6 : 2 ^ (7 * i) ≤ 562949953421312 := Nat.le_trans (Nat.pow_le_pow_right (by decide) (show 7 * i ≤ 49 by omega)) (by decide)
        refine Run.region ?_
        refine RL.val (x_moveI rfl) ?_
        refine RL.val (litI (c := (((2 ^ (7 * i)) * 128 : Nat) : Int)) (x_mul rfl rfl (by omega) (by omega)) rfl) ?_
        refine RL.val (x_assignI rfl) ?_
        refine RL.nil ?_
        refine Run.inBlock ?_
        refine Run.region ?_
        refine RL.val (litI (c := ((i + 1 : Nat) : Int)) (x_add rfl rfl (by omega) (by omega)) rfl) ?_
        refine RL.val (x_moveI rfl) ?_
        refine RL.nil ?_
        have e : 2 ^ (7 * (i + 1)) = 2 ^ (7 * i) * 128 := by rw [pow7_step, Nat.mul_comm]
        refine ih1 (i + 1) _ _ ?_ (by omega)
        rw [e]
        refine ⟨n + x.toNat % 128 * 2 ^ (7 * i), ⟨rfl, rfl, rfl, rfl, rfl, trivial⟩, K0, ?_, ?_, ?_, ?_⟩
        · omega
        · omega
        · omega
        · exact hN.trans (numL_more hx (by omega) (by omega))
  · try simp only [br] at hc12
    refine Run.exit rfl ?_
    refine Run.seq ?_
    refine Run.region ?_
    refine RL.val (x_assignI rfl) ?_
    refine RL.val (x_assignI rfl) ?_
    refine RL.val (x_assignI rfl) ?_
    refine RL.nil ?_
    refine Run.ret3 (v := .int .i64 (0)) (x := .int .i64 (0)) (y := .int .i64 (2)) Tryz.func107 rfl rfl rfl rfl ?_
    exact ⟨_, rfl, .inr ⟨2, hN.trans (numL_end (by omega)), rfl, K0⟩⟩

set_option maxRecDepth 100000 in
set_option maxHeartbeats 4000000 in
theorem runframe_ (a : Option Addr) (xs : List UInt8) (c : Nat) (w : World) (hs : SlOf w a xs) (hl : xs.length ≤ 1073741824) (hc : xs.length ≤ c) :
    Calls Tryz.prog 96 #[.slice (a) (xs.length) (c)] w (Ret (fun v w' => (∃ P R a1 c1 a2 c2, unfR xs = .ok (P, R) ∧ v = .tuple #[.slice a1 P.length c1, .slice a2 R.length c2, .int .i64 0] ∧ OwnSl w' 5 a1 c1 P ∧ OwnSl w' 5 a2 c2 R ∧ (∀ x, own a1 x → ¬ own a2 x) ∧ (∀ x, own a1 x → w.heap.size ≤ x) ∧ (∀ x, own a2 x → w.heap.size ≤ x) ∧ Ext w w') ∨ (∃ e, unfR xs = .error e ∧ v = .tuple #[.slice none 0 0, .slice none 0 0, .int .i64 e] ∧ Ext w w'))) := by
  refine calls_run (n := 68) Tryz.func96 rfl rfl rfl ?_
  refine Run.seq ?_
  refine Run.region ?_
  refine RL.val (x_assignSl rfl) ?_
  refine RL.val (x_assignSl rfl) ?_
  refine RL.val (x_assignI rfl) ?_
  refine RL.nil ?_
  refine Run.seq ?_
  refine Run.region ?_
  refine RL.val (x_moveSl rfl) ?_
  refine RL.st rfl <| St1.call (vals := [.slice (a) (xs.length) (c)]) en107 rfl (ruint_ _ _ _ _ hs (by omega)) ?_
  rintro _ wU hUi
  rcases hUi with hUi | hUi
  · obtain ⟨nn, kk, hN, rfl, K_1⟩ := hUi
    have hN3 := numL_0 hN
    have K0 := (K_1 : Ext w _)
    refine RL.val (x_moveT rfl) ?_
    refine RL.val (x_extract rfl rfl) ?_
    refine RL.val (x_extract rfl rfl) ?_
    refine RL.val (x_extract rfl rfl) ?_
    refine RL.val (x_assignI rfl) ?_
    refine RL.val (x_assignI rfl) ?_
    refine RL.val (x_assignI rfl) ?_
    refine RL.nil ?_
    refine Run.seq ?_
    refine Run.seq ?_
    refine Run.region ?_
    refine RL.val (x_moveI rfl) ?_
    refine RL.val (litF (x_neI rfl rfl) (by decide)) ?_
    refine RL.nil ?_
    refine Run.condF rfl ?_
    refine Run.skip ?_
    refine Run.seq ?_
    refine Run.seq ?_
    refine Run.region ?_
    refine RL.val (x_moveI rfl) ?_
    refine RL.val (x_gtI rfl rfl) ?_
    refine RL.nil ?_
    refine Run.cond rfl (fun hc21 => ?_) (fun hc21 => ?_)
    · try simp only [br] at hc21
      refine Run.seq ?_
      refine Run.region ?_
      refine RL.val (x_assignSl rfl) ?_
      refine RL.val (x_assignSl rfl) ?_
      refine RL.val (x_assignI rfl) ?_
      refine RL.nil ?_
      refine Run.ret3 (v := .slice (none) (0) (0)) (x := .slice (none) (0) (0)) (y := .int .i64 (4)) Tryz.func96 rfl rfl rfl rfl ?_
      exact ⟨_, rfl, .inr ⟨_, unfR_long hN (by omega), rfl, K0⟩⟩
    · try simp only [br] at hc21
      refine Run.skip ?_
      refine Run.seq ?_
      refine Run.seq ?_
      refine Run.region ?_
      refine RL.val (x_moveSl rfl) ?_
      refine RL.val (x_lenSl Tryz.underlying32 rfl) ?_
      refine RL.val (x_moveI rfl) ?_
      refine RL.val (litI (c := ((xs.length - kk : Nat) : Int)) (x_sub rfl rfl (by omega) (by omega)) (by omega)) ?_
      refine RL.val (x_moveI rfl) ?_
      refine RL.val (litI (c := ((nn + 4 : Nat) : Int)) (x_add rfl rfl (by omega) (by omega)) rfl) ?_
      refine RL.val (x_ltI rfl rfl) ?_
      refine RL.nil ?_
      refine Run.cond rfl (fun hc28 => ?_) (fun hc28 => ?_)
      · try simp only [br] at hc28
        refine Run.seq ?_
        refine Run.region ?_
        refine RL.val (x_assignSl rfl) ?_
        refine RL.val (x_assignSl rfl) ?_
        refine RL.val (x_assignI rfl) ?_
        refine RL.nil ?_
        refine Run.ret3 (v := .slice (none) (0) (0)) (x := .slice (none) (0) (0)) (y := .int .i64 (2)) Tryz.func96 rfl rfl rfl rfl ?_
        exact ⟨_, rfl, .inr ⟨_, unfR_short hN (by omega) (by omega), rfl, K0⟩⟩
      · try simp only [br] at hc28
        refine Run.skip ?_
        refine Run.seq ?_
        refine Run.region ?_
        refine RL.val (x_moveSl rfl) ?_
        refine RL.val (x_moveI rfl) ?_
        refine RL.val (x_moveI rfl) ?_
        refine RL.val (x_moveI rfl) ?_
        refine RL.val (litI (c := ((kk + nn : Nat) : Int)) (x_add rfl rfl (by omega) (by omega)) rfl) ?_
        refine RL.val (litSl (m' := ((xs.take (kk + nn)).drop kk).length) (x_sliceFT Tryz.underlying32 ty5 rfl rfl rfl (by omega) (by omega)) (by rw [List.length_drop, List.length_take]; omega)) ?_
        refine RL.val (x_assignSl rfl) ?_
        refine RL.nil ?_
        refine Run.seq ?_
        refine Run.region ?_
        refine RL.val (x_assignI rfl) ?_
        refine RL.nil ?_
        refine Run.seq ?_
        refine Run.seq ?_
        refine Run.region ?_
        refine RL.val (x_moveI rfl) ?_
        refine RL.nil ?_
        refine Run.block ?_
        refine Run.loop (ι := Nat) (fun i ρ' w' => Holds ρ' [(0, .slice (a) (xs.length) (c)), (5, .int .i64 (((nn : Nat) : Int))), (6, .int .i64 (((kk : Nat) : Int))), (8, .slice (advA a c kk 1) (((xs.take (kk + nn)).drop kk).length) (c - kk)), (9, .int .i64 (((leL ((xs.drop (kk + nn)).take i) : Nat) : Int))), (35, .int .i64 (((i : Nat) : Int)))] ∧ Ext w w' ∧ (i ≤ 4)) (fun i => 4 - i) 0 ?_ ?_
        · rw [show (leL ((xs.drop (kk + nn)).take 0)) = 0 by rw [List.take_zero]; unfold leL; rfl]
          refine ⟨⟨rfl, rfl, rfl, rfl, rfl, rfl, trivial⟩, K0, ?_⟩
          · omega
        clear K0
        rintro i ρ_4 w_2 ⟨hH_3, K0, hi⟩ ih1
        obtain ⟨ρ₀, rfl⟩ := hH_3.ex
        clear hH_3
        refine Run.seq ?_
        refine Run.region ?_
        refine RL.val (x_ltI rfl rfl) ?_
        refine RL.nil ?_
        refine Run.seq ?_
        refine Run.cond rfl (fun hc36 => ?_) (fun hc36 => ?_)
        · try simp only [br] at hc36
          refine Run.skip ?_
          refine Run.seq ?_
          refine Run.block ?_
          refine Run.seq ?_
          refine Run.region ?_
          refine RL.val (x_moveI rfl) ?_
          refine RL.val (x_assignI rfl) ?_
          refine RL.nil ?_
          have hp8 := pow8_le (i := i) (by omega)
          have hle := leL_at_lt (F := (xs.drop (kk + nn))) (i := i) (by rw [List.length_drop]; omega)
          refine Run.region ?_
          refine RL.val (x_moveI rfl) ?_
          refine RL.val (x_moveSl rfl) ?_
          refine RL.val (x_moveI rfl) ?_
          refine RL.val (x_moveI rfl) ?_
          refine RL.val (litI (c := ((kk + nn : Nat) : Int)) (x_add rfl rfl (by omega) (by omega)) rfl) ?_
          refine RL.val (x_moveI rfl) ?_
          refine RL.val (litI (c := (((kk + nn) + i : Nat) : Int)) (x_add rfl rfl (by omega) (by omega)) rfl) ?_
          obtain ⟨b_5, o_6, x, hx, ha_7, hc_8⟩ := hs.el (i := (kk + nn) + i) (by omega)
          have hc_8_lt := hc_8.lt
          replace hc_8 := hc_8.ext K0
          refine RL.val (x_idxN Tryz.underlying32 ty5 rfl rfl ha_7 (by omega)) ?_
          refine RL.val (x_ldV (v := .int .u8 (((x).toNat : Int))) (y := x) ty5 rfl hc_8 rfl) ?_
          have hd8 := byte8_le x i
          refine RL.val (x_convN (kd := .i64) (a := (x).toNat) rfl ⟨_, Tryz.underlying5⟩ Tryz.underlying3 (show (x).toNat < 9223372036854775808 by have := UInt8.toNat_lt x; omega)) ?_
          refine RL.val (x_moveI rfl) ?_
          refine RL.val (litI (c := ((8 * i : Nat) : Int)) (x_mul rfl rfl (by omega) (by omega)) rfl) ?_
          refine RL.val (x_shlN (kd := .i64) (a := (x).toNat) (b := 8 * i) rfl rfl (show 8 * i ≤ 64 by omega) (show _ < 9223372036854775808 by omega)) ?_
          refine RL.val (litI (c := (((leL ((xs.drop (kk + nn)).take i)) + (((x).toNat) * 2 ^ (8 * i)) : Nat) : Int)) (x_add rfl rfl (by omega) (by omega)) rfl) ?_
          refine RL.val (x_assignI rfl) ?_
          refine RL.nil ?_
          refine Run.inBlock ?_
          refine Run.region ?_
          refine RL.val (litI (c := ((i + 1 : Nat) : Int)) (x_add rfl rfl (by omega) (by omega)) rfl) ?_
          refine RL.val (x_moveI rfl) ?_
          refine RL.nil ?_
          have hx2 : (xs.drop (kk + nn))[i]? = some x := by rw [List.getElem?_drop]; exact hx
          have e := leL_at hx2
          refine ih1 (i + 1) _ _ ?_ (by omega)
          rw [e]
          refine ⟨⟨rfl, rfl, rfl, rfl, rfl, rfl, trivial⟩, K0, ?_⟩
          · omega
        · try simp only [br] at hc36
          refine Run.exit rfl ?_
          refine Run.seq ?_
          refine Run.seq ?_
          have hPl : ((xs.take (kk + nn)).drop kk).length ≤ nn := by rw [List.length_drop, List.length_take]; omega
          have hi4 : leL ((xs.drop (kk + nn)).take i) = leL ((xs.drop (kk + nn)).take 4) := by rw [show i = 4 by omega]
          refine Run.region ?_
          refine RL.val (x_moveI rfl) ?_
          refine RL.val (x_moveSl rfl) ?_
          refine RL.st rfl <| St1.call (vals := [.slice (advA a c kk 1) (((xs.take (kk + nn)).drop kk).length) (c - kk)]) en45 rfl (rsum_ _ _ _ _ (((hs.ext K0).take (kk + nn)).from kk c (by rw [List.length_take]; omega)) (by omega)) ?_
          rintro _ w_11 ⟨rfl, K_12⟩
          replace K0 := K0.ext K_12
          refine RL.val (x_neI rfl rfl) ?_
          refine RL.nil ?_
          refine Run.cond rfl (fun hc56 => ?_) (fun hc56 => ?_)
          · try simp only [br] at hc56
            refine Run.seq ?_
            refine Run.region ?_
            refine RL.val (x_assignSl rfl) ?_
            refine RL.val (x_assignSl rfl) ?_
            refine RL.val (x_assignI rfl) ?_
            refine RL.nil ?_
            refine Run.ret3 (v := .slice (none) (0) (0)) (x := .slice (none) (0) (0)) (y := .int .i64 (11)) Tryz.func96 rfl rfl rfl rfl ?_
            exact ⟨_, rfl, .inr ⟨_, unfR_sum hN (by omega) (by omega) (fun e_ => hc56 (by rw [hi4, e_, take_part])), rfl, K0⟩⟩
          · try simp only [br] at hc56
            refine Run.skip ?_
            refine Run.seq ?_
            refine Run.drawT [] (m := 14) (by kernel_rfl) rfl ?_
            intro w_13 K_14
            replace K0 := K0.ext K_14
            refine ⟨fun w' => True, ?_⟩
            refine RT.takeP (v := .slice (advA a c kk 1) (((xs.take (kk + nn)).drop kk).length) (c - kk)) 1 rfl (by kernel_rfl) (.inr trivial) (fun _ => (x_moveSl rfl)) ?_
            refine RT.takeP (v := .slice (a) (xs.length) (c)) 4 rfl (by kernel_rfl) (.inr trivial) (fun _ => (x_moveSl rfl)) ?_
            refine RT.takeP (v := .int .i64 (((kk : Nat) : Int))) 5 rfl (by kernel_rfl) (.inr trivial) (fun _ => (x_moveI rfl)) ?_
            refine RT.takeP (v := .int .i64 (((nn : Nat) : Int))) 6 rfl (by kernel_rfl) (.inr trivial) (fun _ => (x_moveI rfl)) ?_
            refine RT.takeP (v := .int .i64 (((kk + nn : Nat) : Int))) 7 rfl (by kernel_rfl) (.inr trivial) (fun _ => (litI (c := ((kk + nn : Nat) : Int)) (x_add rfl rfl (by omega) (by omega)) rfl)) ?_
            refine RT.takeP (v := .int .i64 ((((kk + nn) + 4 : Nat) : Int))) 8 rfl (by kernel_rfl) (.inr trivial) (fun _ => (litI (c := (((kk + nn) + 4 : Nat) : Int)) (x_add rfl rfl (by omega) (by omega)) rfl)) ?_
            refine RT.takeP (v := .slice (advA a c ((kk + nn) + 4) 1) ((xs.drop ((kk + nn) + 4)).length) (c - ((kk + nn) + 4))) 9 rfl (by kernel_rfl) (.inr trivial) (fun _ => (x_sliceFrom (xs := xs) Tryz.underlying32 ty5 rfl rfl (by omega))) ?_
            refine RT.fork2 0 3 (by kernel_rfl) ?_ ?_
            · refine RT1.st rfl <| St1.buildSlice ([] : List UInt8) Tryz.underlying32 ty5 rfl rfl (by first | decide | (simp [Enc.size])) ?_
              intro b_15 w_16 hl_19 ho_18 K_17
              have pg_20 : ∀ q_, own (some ⟨b_15, 0, none⟩) q_ → w.heap.size ≤ q_ := fun q_ h => Nat.le_trans K0.size ((ge_new hl_19) q_ h)
              clear hl_19
              replace K0 := K0.ext K_17
              refine ⟨.inr trivial, ?_⟩
              refine RT.fork2 2 3 (by kernel_rfl) ?_ ?_
              · refine RT1.st rfl <| St1.append (xs := ([] : List UInt8)) (ys := (xs.take (kk + nn)).drop kk) Tryz.underlying32 ty5 rfl rfl rfl ho_18 (((hs.ext K0).take (kk + nn)).from kk c (by rw [List.length_take]; omega)) (by simp only [List.length_nil, List.length_drop, List.length_take]; omega) (by decide) ?_
                intro a_21 c_22 w_23 ho_24 K_25 hm_26 hrm_27
                have pg_28 : ∀ q_, own a_21 q_ → w.heap.size ≤ q_ := hm_26.ge pg_20 K0.size
                replace K0 := K0.new K_25 pg_20
                clear hm_26
                clear hrm_27
                refine ⟨.inr trivial, ?_⟩
                refine RT.st 3 rfl (by kernel_rfl) rfl <| St1.buildSlice ([] : List UInt8) Tryz.underlying32 ty5 rfl rfl (by first | decide | (simp [Enc.size])) ?_
                intro b_29 w_30 hl_33 ho_32 K_31
                have pr_34 : ∀ q_, own (some ⟨b_29, 0, none⟩) q_ → ¬ own a_21 q_ := apartNew (ge_new hl_33) ho_24.own_lt
                have pg_35 : ∀ q_, own (some ⟨b_29, 0, none⟩) q_ → w.heap.size ≤ q_ := fun q_ h => Nat.le_trans K0.size ((ge_new hl_33) q_ h)
                clear hl_33
                replace ho_24 := ho_24.ext K_31
                replace K0 := K0.ext K_31
                refine ⟨.inr trivial, ?_⟩
                refine RT.st 10 rfl (by kernel_rfl) rfl <| St1.append (xs := ([] : List UInt8)) (ys := xs.drop ((kk + nn) + 4)) Tryz.underlying32 ty5 rfl rfl rfl ho_32 ((hs.ext K0).from ((kk + nn) + 4) c hc) (by simp only [List.length_nil, List.length_drop]; omega) (by decide) ?_
                intro a_36 c_37 w_38 ho_39 K_40 hm_41 hrm_42
                have pr_43 : ∀ q_, own a_36 q_ → ¬ own a_21 q_ := hm_41.apart pr_34 ho_24.own_lt
                have pg_44 : ∀ q_, own a_36 q_ → w.heap.size ≤ q_ := hm_41.ge pg_35 K0.size
                replace ho_24 := ho_24.keepO K_40 (fun q_ h1 h2 => pr_34 q_ h2 h1)
                replace K0 := K0.new K_40 pg_35
                clear hm_41
                clear hrm_42
                refine ⟨.inr trivial, ?_⟩
                refine RT.takeP (v := .slice (a_21) ((([] : List UInt8) ++ (xs.take (kk + nn)).drop kk).length) (c_22)) 11 rfl (by kernel_rfl) (.inr trivial) (fun _ => (x_assignSl rfl)) ?_
                refine RT.takeP (v := .slice (a_36) ((([] : List UInt8) ++ xs.drop ((kk + nn) + 4)).length) (c_37)) 12 rfl (by kernel_rfl) (.inr trivial) (fun _ => (x_assignSl rfl)) ?_
                refine RT.takeP (v := .int .i64 (0)) 13 rfl (by kernel_rfl) (.inr trivial) (fun _ => (x_assignI rfl)) ?_
                refine RT.done (by kernel_rfl) ?_
                refine Run.ret3 (v := .slice (a_21) ((([] : List UInt8) ++ (xs.take (kk + nn)).drop kk).length) (c_22)) (x := .slice (a_36) ((([] : List UInt8) ++ xs.drop ((kk + nn) + 4)).length) (c_37)) (y := .int .i64 (0)) Tryz.func96 rfl rfl rfl rfl ?_
                rw [List.nil_append, take_part] at ho_24
                rw [List.nil_append] at ho_39
                rw [show (([] : List UInt8) ++ ((xs.take (kk + nn)).drop kk)) = (xs.drop kk).take nn by rw [List.nil_append, take_part], List.nil_append]
                exact ⟨_, rfl, .inl ⟨_, _, _, _, _, _, unfR_ok hN (by omega) (by omega) (by rw [← hi4, ← take_part xs kk nn]; exact_mod_cast hc56), rfl, ho_24, ho_39, (fun q_ h1 h2 => pr_43 q_ h2 h1), pg_28, pg_44, K0⟩⟩
              · refine RT1.st rfl <| St1.buildSlice ([] : List UInt8) Tryz.underlying32 ty5 rfl rfl (by first | decide | (simp [Enc.size])) ?_
                intro b_45 w_46 hl_49 ho_48 K_47
                have pr_50 : ∀ q_, own (some ⟨b_45, 0, none⟩) q_ → ¬ own (some ⟨b_15, 0, none⟩) q_ := apartNew (ge_new hl_49) ho_18.own_lt
                have pg_51 : ∀ q_, own (some ⟨b_45, 0, none⟩) q_ → w.heap.size ≤ q_ := fun q_ h => Nat.le_trans K0.size ((ge_new hl_49) q_ h)
                clear hl_49
                replace ho_18 := ho_18.ext K_47
                replace K0 := K0.ext K_47
                refine ⟨.inr trivial, ?_⟩
                refine RT.st 2 rfl (by kernel_rfl) rfl <| St1.append (xs := ([] : List UInt8)) (ys := (xs.take (kk + nn)).drop kk) Tryz.underlying32 ty5 rfl rfl rfl ho_18 (((hs.ext K0).take (kk + nn)).from kk c (by rw [List.length_take]; omega)) (by simp only [List.length_nil, List.length_drop, List.length_take]; omega) (by decide) ?_
                intro a_52 c_53 w_54 ho_55 K_56 hm_57 hrm_58
                have pr_59 : ∀ q_, own a_52 q_ → ¬ own (some ⟨b_45, 0, none⟩) q_ := hm_57.apart (fun q_ h1 h2 => pr_50 q_ h2 h1) ho_48.own_lt
                have pg_60 : ∀ q_, own a_52 q_ → w.heap.size ≤ q_ := hm_57.ge pg_20 K0.size
                replace ho_48 := ho_48.keepO K_56 pr_50
                replace K0 := K0.new K_56 pg_20
                clear hm_57
                clear hrm_58
                refine ⟨.inr trivial, ?_⟩
                refine RT.st 10 rfl (by kernel_rfl) rfl <| St1.append (xs := ([] : List UInt8)) (ys := xs.drop ((kk + nn) + 4)) Tryz.underlying32 ty5 rfl rfl rfl ho_48 ((hs.ext K0).from ((kk + nn) + 4) c hc) (by simp only [List.length_nil, List.length_drop]; omega) (by decide) ?_
                intro a_61 c_62 w_63 ho_64 K_65 hm_66 hrm_67
                have pr_68 : ∀ q_, own a_61 q_ → ¬ own a_52 q_ := hm_66.apart (fun q_ h1 h2 => pr_59 q_ h2 h1) ho_55.own_lt
                have pg_69 : ∀ q_, own a_61 q_ → w.heap.size ≤ q_ := hm_66.ge pg_51 K0.size
                replace ho_55 := ho_55.keepO K_65 pr_59
                replace K0 := K0.new K_65 pg_51
                clear hm_66
                clear hrm_67
                refine ⟨.inr trivial, ?_⟩
                refine RT.takeP (v := .slice (a_52) ((([] : List UInt8) ++ (xs.take (kk + nn)).drop kk).length) (c_53)) 11 rfl (by kernel_rfl) (.inr trivial) (fun _ => (x_assignSl rfl)) ?_
                refine RT.takeP (v := .slice (a_61) ((([] : List UInt8) ++ xs.drop ((kk + nn) + 4)).length) (c_62)) 12 rfl (by kernel_rfl) (.inr trivial) (fun _ => (x_assignSl rfl)) ?_
                refine RT.takeP (v := .int .i64 (0)) 13 rfl (by kernel_rfl) (.inr trivial) (fun _ => (x_assignI rfl)) ?_
                refine RT.done (by kernel_rfl) ?_
                refine Run.ret3 (v := .slice (a_52) ((([] : List UInt8) ++ (xs.take (kk + nn)).drop kk).length) (c_53)) (x := .slice (a_61) ((([] : List UInt8) ++ xs.drop ((kk + nn) + 4)).length) (c_62)) (y := .int .i64 (0)) Tryz.func96 rfl rfl rfl rfl ?_
                rw [List.nil_append, take_part] at ho_55
                rw [List.nil_append] at ho_64
                rw [show (([] : List UInt8) ++ ((xs.take (kk + nn)).drop kk)) = (xs.drop kk).take nn by rw [List.nil_append, take_part], List.nil_append]
                exact ⟨_, rfl, .inl ⟨_, _, _, _, _, _, unfR_ok hN (by omega) (by omega) (by rw [← hi4, ← take_part xs kk nn]; exact_mod_cast hc56), rfl, ho_55, ho_64, (fun q_ h1 h2 => pr_68 q_ h2 h1), pg_60, pg_69, K0⟩⟩
            · refine RT1.st rfl <| St1.buildSlice ([] : List UInt8) Tryz.underlying32 ty5 rfl rfl (by first | decide | (simp [Enc.size])) ?_
              intro b_70 w_71 hl_74 ho_73 K_72
              have pg_75 : ∀ q_, own (some ⟨b_70, 0, none⟩) q_ → w.heap.size ≤ q_ := fun q_ h => Nat.le_trans K0.size ((ge_new hl_74) q_ h)
              clear hl_74
              replace K0 := K0.ext K_72
              refine ⟨.inr trivial, ?_⟩
              refine RT.st 0 rfl (by kernel_rfl) rfl <| St1.buildSlice ([] : List UInt8) Tryz.underlying32 ty5 rfl rfl (by first | decide | (simp [Enc.size])) ?_
              intro b_76 w_77 hl_80 ho_79 K_78
              have pr_81 : ∀ q_, own (some ⟨b_76, 0, none⟩) q_ → ¬ own (some ⟨b_70, 0, none⟩) q_ := apartNew (ge_new hl_80) ho_73.own_lt
              have pg_82 : ∀ q_, own (some ⟨b_76, 0, none⟩) q_ → w.heap.size ≤ q_ := fun q_ h => Nat.le_trans K0.size ((ge_new hl_80) q_ h)
              clear hl_80
              replace ho_73 := ho_73.ext K_78
              replace K0 := K0.ext K_78
              refine ⟨.inr trivial, ?_⟩
              refine RT.st 2 rfl (by kernel_rfl) rfl <| St1.append (xs := ([] : List UInt8)) (ys := (xs.take (kk + nn)).drop kk) Tryz.underlying32 ty5 rfl rfl rfl ho_79 (((hs.ext K0).take (kk + nn)).from kk c (by rw [List.length_take]; omega)) (by simp only [List.length_nil, List.length_drop, List.length_take]; omega) (by decide) ?_
              intro a_83 c_84 w_85 ho_86 K_87 hm_88 hrm_89
              have pr_90 : ∀ q_, own a_83 q_ → ¬ own (some ⟨b_70, 0, none⟩) q_ := hm_88.apart pr_81 ho_73.own_lt
              have pg_91 : ∀ q_, own a_83 q_ → w.heap.size ≤ q_ := hm_88.ge pg_82 K0.size
              replace ho_73 := ho_73.keepO K_87 (fun q_ h1 h2 => pr_81 q_ h2 h1)
              replace K0 := K0.new K_87 pg_82
              clear hm_88
              clear hrm_89
              refine ⟨.inr trivial, ?_⟩
              refine RT.st 10 rfl (by kernel_rfl) rfl <| St1.append (xs := ([] : List UInt8)) (ys := xs.drop ((kk + nn) + 4)) Tryz.underlying32 ty5 rfl rfl rfl ho_73 ((hs.ext K0).from ((kk + nn) + 4) c hc) (by simp only [List.length_nil, List.length_drop]; omega) (by decide) ?_
              intro a_92 c_93 w_94 ho_95 K_96 hm_97 hrm_98
              have pr_99 : ∀ q_, own a_92 q_ → ¬ own a_83 q_ := hm_97.apart (fun q_ h1 h2 => pr_90 q_ h2 h1) ho_86.own_lt
              have pg_100 : ∀ q_, own a_92 q_ → w.heap.size ≤ q_ := hm_97.ge pg_75 K0.size
              replace ho_86 := ho_86.keepO K_96 pr_90
              replace K0 := K0.new K_96 pg_75
              clear hm_97
              clear hrm_98
              refine ⟨.inr trivial, ?_⟩
              refine RT.takeP (v := .slice (a_83) ((([] : List UInt8) ++ (xs.take (kk + nn)).drop kk).length) (c_84)) 11 rfl (by kernel_rfl) (.inr trivial) (fun _ => (x_assignSl rfl)) ?_
              refine RT.takeP (v := .slice (a_92) ((([] : List UInt8) ++ xs.drop ((kk + nn) + 4)).length) (c_93)) 12 rfl (by kernel_rfl) (.inr trivial) (fun _ => (x_assignSl rfl)) ?_
              refine RT.takeP (v := .int .i64 (0)) 13 rfl (by kernel_rfl) (.inr trivial) (fun _ => (x_assignI rfl)) ?_
              refine RT.done (by kernel_rfl) ?_
              refine Run.ret3 (v := .slice (a_83) ((([] : List UInt8) ++ (xs.take (kk + nn)).drop kk).length) (c_84)) (x := .slice (a_92) ((([] : List UInt8) ++ xs.drop ((kk + nn) + 4)).length) (c_93)) (y := .int .i64 (0)) Tryz.func96 rfl rfl rfl rfl ?_
              rw [List.nil_append, take_part] at ho_86
              rw [List.nil_append] at ho_95
              rw [show (([] : List UInt8) ++ ((xs.take (kk + nn)).drop kk)) = (xs.drop kk).take nn by rw [List.nil_append, take_part], List.nil_append]
              exact ⟨_, rfl, .inl ⟨_, _, _, _, _, _, unfR_ok hN (by omega) (by omega) (by rw [← hi4, ← take_part xs kk nn]; exact_mod_cast hc56), rfl, ho_86, ho_95, (fun q_ h1 h2 => pr_99 q_ h2 h1), pg_91, pg_100, K0⟩⟩
  · obtain ⟨e, hN, rfl, K_101⟩ := hUi
    have hne := numL_err _ _ _ hN
    have K0 := (K_101 : Ext w _)
    refine RL.val (x_moveT rfl) ?_
    refine RL.val (x_extract rfl rfl) ?_
    refine RL.val (x_extract rfl rfl) ?_
    refine RL.val (x_extract rfl rfl) ?_
    refine RL.val (x_assignI rfl) ?_
    refine RL.val (x_assignI rfl) ?_
    refine RL.val (x_assignI rfl) ?_
    refine RL.nil ?_
    refine Run.seq ?_
    refine Run.seq ?_
    refine Run.region ?_
    refine RL.val (x_moveI rfl) ?_
    refine RL.val (x_neI rfl rfl) ?_
    refine RL.nil ?_
    refine Run.cond rfl (fun hc18 => ?_) (fun hc18 => ?_)
    · try simp only [br] at hc18
      refine Run.seq ?_
      refine Run.region ?_
      refine RL.val (x_moveI rfl) ?_
      refine RL.val (x_assignSl rfl) ?_
      refine RL.val (x_assignSl rfl) ?_
      refine RL.val (x_assignI rfl) ?_
      refine RL.nil ?_
      refine Run.ret3 (v := .slice (none) (0) (0)) (x := .slice (none) (0) (0)) (y := .int .i64 (e)) Tryz.func96 rfl rfl rfl rfl ?_
      exact ⟨_, rfl, .inr ⟨_, unfR_num hN, rfl, K0⟩⟩
    · try simp only [br] at hc18
      exact absurd hc18 hne

end Go.Proofs.YtlhepanmdchjoaaGreatDoor
