/-
  Layer 1: check sums.
-/
import Derived.Test.YtnphndfbgdkgbaaGreatDoorRows
import Derived.Test.YtnphndfbgdkgbaaGreatDoorLoop
import Derived.Test.YtnphndfbgdkgbaaGreatDoorBits
import Derived.Test.YtnphndfbgdkgbaaGreatDoorPanic
import Derived.Test.YtnphndfbgdkgbaaGreatDoorPlain
import Derived.Test.YtnphndfbgdkgbaaGreatDoorErr
namespace Go.Proofs.YtnphndfbgdkgbaaGreatDoor
attribute [local irreducible] St1 RL RA RT RT1 Run

/-! ### check sums -/
def crc1 (c : Nat) : Nat := if c % 2 = 1 then (c / 2) ^^^ 3988292384 else c / 2
def crcN : Nat → Nat → Nat
  | 0, c => c
  | k + 1, c => crc1 (crcN k c)
def crcB (c : Nat) (x : UInt8) : Nat := crcN 8 (c ^^^ x.toNat)
def crcL (b : List UInt8) : Nat := b.foldl crcB 4294967295
/-- the check sum of bytes -/
def crcS (b : List UInt8) : Nat := crcL b ^^^ 4294967295
theorem crc1_lt {c : Nat} (h : c < 4294967296) : crc1 c < 4294967296 := by
  unfold crc1
  split
  · exact Nat.xor_lt_two_pow (n := 32) (by omega) (by decide)
  · omega
theorem crcN_lt {c : Nat} (h : c < 4294967296) : ∀ k, crcN k c < 4294967296
  | 0 => h
  | k + 1 => crc1_lt (crcN_lt h k)
theorem crcX_lt {c : Nat} (h : c < 4294967296) (x : UInt8) : c ^^^ x.toNat < 4294967296 :=
  Nat.xor_lt_two_pow (n := 32) h (by have := x.toNat_lt; omega)
theorem crcB_lt {c : Nat} (h : c < 4294967296) (x : UInt8) : crcB c x < 4294967296 := crcN_lt (crcX_lt h x) 8
theorem foldl_crc_lt : ∀ (b : List UInt8) {c : Nat}, c < 4294967296 → b.foldl crcB c < 4294967296
  | [], _, h => h
  | x :: b, _, h => foldl_crc_lt b (crcB_lt h x)
theorem crcL_lt (b : List UInt8) : crcL b < 4294967296 := foldl_crc_lt b (by decide)
theorem crcS_lt (b : List UInt8) : crcS b < 4294967296 := Nat.xor_lt_two_pow (n := 32) (crcL_lt b) (by decide)
theorem crcS' (b : List UInt8) : 4294967295 ^^^ crcL b = crcS b := Nat.xor_comm _ _
theorem crcL_snoc {xs : List UInt8} {j : Nat} {x : UInt8} (h : xs[j]? = some x) : crcL (xs.take (j + 1)) = crcB (crcL (xs.take j)) x := by
  obtain ⟨hj, rfl⟩ := List.getElem?_eq_some_iff.1 h
  rw [crcL, List.take_succ_eq_append_getElem hj, List.foldl_append]; rfl
theorem crcN_odd {c i : Nat} (h : crcN i c % 2 = 1) : crcN (i + 1) c = (crcN i c / 2) ^^^ 3988292384 := if_pos h
theorem crcN_even {c i : Nat} (h : ¬ crcN i c % 2 = 1) : crcN (i + 1) c = crcN i c / 2 := if_neg h
attribute [local irreducible] crcN crcL crcS crcB
/-! ### numbers -/
def vput (n : Nat) : List UInt8 := if h : n < 128 then [UInt8.ofNat n] else UInt8.ofNat (n % 128 + 128) :: vput (n / 128)
theorem vput_small {n : Nat} (h : n < 128) : vput n = [UInt8.ofNat n] := by rw [vput, dif_pos h]
theorem vput_big {n : Nat} (h : ¬ n < 128) : vput n = UInt8.ofNat (n % 128 + 128) :: vput (n / 128) := by rw [vput, dif_neg h]
theorem vput_len : ∀ (k n : Nat), n < 128 ^ (k + 1) → (vput n).length ≤ k + 1
  | 0, n, h => by rw [vput_small (by simpa using h)]; simp
  | k + 1, n, h => by
    by_cases c : n < 128
    · rw [vput_small c]; simp
    · rw [vput_big c]
      have := vput_len k (n / 128) (by rw [Nat.pow_succ] at h; omega)
      simp only [List.length_cons]; omega
theorem vput_len9 {n : Nat} (h : n < 9223372036854775808) : (vput n).length ≤ 9 := vput_len 8 n (by simpa using h)
theorem vput_step {b zs D : List UInt8} {m : Nat} (h : ¬ m < 128) (e : zs ++ vput m = D) : (zs ++ ([UInt8.ofNat (m % 128 + 128)] : List UInt8)) ++ vput (m / 128) = D := by
  rw [← e, vput_big h, List.append_assoc]; rfl
theorem vput_last {zs D : List UInt8} {m : Nat} (h : m < 128) (e : zs ++ vput m = D) : zs ++ ([UInt8.ofNat m] : List UInt8) = D := by
  rw [← e, vput_small h]
theorem len_of_app {zs vs D : List UInt8} (e : zs ++ vs = D) : zs.length ≤ D.length := by rw [← e, List.length_append]; omega
/-! ### frames -/
def le4 (s : Nat) : List UInt8 := [UInt8.ofNat s, UInt8.ofNat (s / 256), UInt8.ofNat (s / 65536), UInt8.ofNat (s / 16777216)]
def frameB (b : List UInt8) : List UInt8 := vput b.length ++ b ++ le4 (crcS b)
theorem ofNat_mod (s : Nat) : UInt8.ofNat (s % 256) = UInt8.ofNat s := by
  apply UInt8.toNat_inj.1
  rw [UInt8.toNat_ofNat', UInt8.toNat_ofNat']; omega
theorem le4_eq (x : List UInt8) (s : Nat) : (((x ++ [UInt8.ofNat (s % 256)]) ++ [UInt8.ofNat (s / 256 % 256)]) ++ [UInt8.ofNat (s / 256 / 256 % 256)]) ++ [UInt8.ofNat (s / 256 / 256 / 256 % 256)] = x ++ le4 s := by
  simp only [ofNat_mod, Nat.div_div_eq_div_mul, List.append_assoc, le4]
  rfl
theorem frameB_len (b : List UInt8) (h : b.length < 9223372036854775808) : (frameB b).length ≤ b.length + 13 := by
  have := vput_len9 h
  simp only [frameB, List.length_append, le4, List.length_cons, List.length_nil]; omega

theorem ty5 : Ty Tryz.prog 5 1 1 (.int .u8 (0)) false := ty_of (by kernel_rfl) (by kernel_rfl)
theorem en71 : Enters Tryz.prog 71 := enters_of Tryz.func71 rfl (by kernel_rfl)
theorem en119 : Enters Tryz.prog 119 := enters_of Tryz.func119 rfl (by kernel_rfl)

set_option maxRecDepth 100000 in
set_option maxHeartbeats 4000000 in
theorem sum_ (a : Option Addr) (xs : List UInt8) (c : Nat) (w : World) (hs : SlOf w a xs) (hl : xs.length ≤ 4294967295) :
    Calls Tryz.prog 119 #[.slice (a) (xs.length) (c)] w (Ret (fun v w' => v = .int .i64 ((crcS xs : Nat) : Int) ∧ Ext w w')) := by
  refine calls_run (n := 32) Tryz.func119 rfl rfl rfl ?_
  refine Run.seq ?_
  refine Run.region ?_
  refine RL.val (x_assignI rfl) ?_
  refine RL.nil ?_
  refine Run.seq ?_
  refine Run.region ?_
  refine RL.val (x_assignI rfl) ?_
  refine RL.nil ?_
  refine Run.seq ?_
  refine Run.seq ?_
  refine Run.region ?_
  refine RL.val (x_moveSl rfl) ?_
  refine RL.val (x_lenSl Tryz.underlying74 rfl) ?_
  refine RL.val (x_moveI rfl) ?_
  refine RL.nil ?_
  refine Run.block ?_
  refine Run.loop (ι := Nat) (fun j ρ' w' => Holds ρ' [(3, .int .u32 (((crcL (xs.take j) : Nat) : Int))), (7, .slice (a) (xs.length) (c)), (8, .int .i64 (((xs.length : Nat) : Int))), (9, .int .i64 (((j : Nat) : Int)))] ∧ Ext w w' ∧ (j ≤ xs.length)) (fun j => xs.length - j) 0 ?_ ?_
  · rw [show crcL (xs.take 0) = 4294967295 by rw [List.take_zero]; unfold crcL; rfl]
    refine ⟨⟨rfl, rfl, rfl, rfl, trivial⟩, (Keeps.refl _ w), ?_⟩
    · omega
  rintro j ρ_3 w_1 ⟨hH_2, K0, hj⟩ ih1
  obtain ⟨ρ₀, rfl⟩ := hH_2.ex
  clear hH_2
  refine Run.seq ?_
  refine Run.region ?_
  refine RL.val (x_ltI rfl rfl) ?_
  refine RL.nil ?_
  refine Run.seq ?_
  refine Run.cond rfl (fun hc10 => ?_) (fun hc10 => ?_)
  · try simp only [br] at hc10
    refine Run.skip ?_
    refine Run.seq ?_
    refine Run.block ?_
    refine Run.seq ?_
    refine Run.region ?_
    obtain ⟨b_4, o_5, x, hx, ha_6, hc_7⟩ := hs.el (i := j) (by first | omega | (simp only [List.length_set]; omega))
    have hc_7_lt := hc_7.lt
    replace hc_7 := hc_7.ext K0
    refine RL.val (x_idxN Tryz.underlying74 ty5 rfl rfl ha_6 (by first | omega | (simp only [List.length_set]; omega))) ?_
    refine RL.val (x_ldV (v := .int .u8 (((x).toNat : Int))) (y := x) ty5 rfl hc_7 rfl) ?_
    refine RL.val (x_assignI rfl) ?_
    refine RL.nil ?_
    refine Run.seq ?_
    have hlt := crcL_lt (xs.take j)
    refine Run.region ?_
    refine RL.val (x_moveI rfl) ?_
    refine RL.val (x_moveI rfl) ?_
    refine RL.val (x_convN (kd := .u32) (a := (x).toNat) rfl ⟨_, Tryz.underlying5⟩ Tryz.underlying25 (show (x).toNat < 4294967296 by have := UInt8.toNat_lt x; omega)) ?_
    refine RL.val (x_xorN (kd := .u32) (a := crcL (xs.take j)) (b := (x).toNat) rfl rfl (show crcL (xs.take j) < 4294967296 by omega) (show (x).toNat < 4294967296 by have := UInt8.toNat_lt x; omega)) ?_
    refine RL.val (x_assignI rfl) ?_
    refine RL.nil ?_
    refine Run.seq ?_
    refine Run.region ?_
    refine RL.val (x_moveI rfl) ?_
    refine RL.nil ?_
    refine Run.block ?_
    refine Run.loop (ι := Nat) (fun i ρ' w' => Holds ρ' [(3, .int .u32 (((crcN i (crcL (xs.take j) ^^^ x.toNat) : Nat) : Int))), (7, .slice (a) (xs.length) (c)), (8, .int .i64 (((xs.length : Nat) : Int))), (9, .int .i64 (((j : Nat) : Int))), (10, .bool (decide (((j : Nat) : Int) < ((xs.length : Nat) : Int)))), (17, .int .i64 (((i : Nat) : Int)))] ∧ Ext w w' ∧ (i ≤ 8)) (fun i => 8 - i) 0 ?_ ?_
    · rw [show crcN 0 (crcL (xs.take j) ^^^ x.toNat) = (crcL (xs.take j) ^^^ x.toNat) by unfold crcN; rfl]
      refine ⟨⟨rfl, rfl, rfl, rfl, rfl, rfl, trivial⟩, K0, ?_⟩
      · omega
    clear K0
    rintro i ρ_12 w_10 ⟨hH_11, K0, hi⟩ ih2
    obtain ⟨ρ₀, rfl⟩ := hH_11.ex
    clear hH_11
    refine Run.seq ?_
    refine Run.region ?_
    refine RL.val (x_ltI rfl rfl) ?_
    refine RL.nil ?_
    refine Run.seq ?_
    refine Run.cond rfl (fun hc18 => ?_) (fun hc18 => ?_)
    · try simp only [br] at hc18
      refine Run.skip ?_
      refine Run.seq ?_
      refine Run.block ?_
      refine Run.seq ?_
      have hlt := crcN_lt (crcX_lt (crcL_lt (xs.take j)) x) i
      refine Run.region ?_
      refine RL.val (x_moveI rfl) ?_
      refine RL.val (x_andL (kd := .u32) (a := crcN i (crcL (xs.take j) ^^^ x.toNat)) (b := 1) rfl rfl 1 2 (by decide) (by decide) (show crcN i (crcL (xs.take j) ^^^ x.toNat) < 4294967296 by omega) (by decide)) ?_
      refine RL.val (x_assignI rfl) ?_
      refine RL.nil ?_
      refine Run.seq ?_
      refine Run.region ?_
      refine RL.val (x_moveI rfl) ?_
      refine RL.val (x_shrL (kd := .u32) (a := crcN i (crcL (xs.take j) ^^^ x.toNat)) (b := 1) 2 (by decide) rfl rfl (by decide)) ?_
      refine RL.val (x_assignI rfl) ?_
      refine RL.nil ?_
      refine Run.seq ?_
      refine Run.region ?_
      refine RL.val (x_moveI rfl) ?_
      refine RL.val (x_eqI rfl rfl) ?_
      refine RL.nil ?_
      refine Run.cond rfl (fun hc24 => ?_) (fun hc24 => ?_)
      · try simp only [br] at hc24
        have hlt2 : crcN i (crcL (xs.take j) ^^^ x.toNat) / 2 < 4294967296 := by omega
        refine Run.region ?_
        refine RL.val (x_moveI rfl) ?_
        refine RL.val (x_xorN (kd := .u32) (a := (crcN i (crcL (xs.take j) ^^^ x.toNat)) / 2) (b := 3988292384) rfl rfl (show (crcN i (crcL (xs.take j) ^^^ x.toNat)) / 2 < 4294967296 by omega) (show 3988292384 < 4294967296 by decide)) ?_
        refine RL.val (x_assignI rfl) ?_
        refine RL.nil ?_
        refine Run.inBlock ?_
        refine Run.region ?_
        refine RL.val (litI (c := ((i + 1 : Nat) : Int)) (x_add rfl rfl (by omega) (by omega)) rfl) ?_
        refine RL.val (x_moveI rfl) ?_
        refine RL.nil ?_
        have e := crcN_odd (c := (crcL (xs.take j) ^^^ x.toNat)) (i := i) (by omega)
        refine ih2 (i + 1) _ _ ?_ (by omega)
        rw [e]
        refine ⟨⟨rfl, rfl, rfl, rfl, rfl, rfl, trivial⟩, K0, ?_⟩
        · omega
      · try simp only [br] at hc24
        refine Run.skip ?_
        refine Run.inBlock ?_
        refine Run.region ?_
        refine RL.val (litI (c := ((i + 1 : Nat) : Int)) (x_add rfl rfl (by omega) (by omega)) rfl) ?_
        refine RL.val (x_moveI rfl) ?_
        refine RL.nil ?_
        have e := crcN_even (c := (crcL (xs.take j) ^^^ x.toNat)) (i := i) (by omega)
        refine ih2 (i + 1) _ _ ?_ (by omega)
        rw [e]
        refine ⟨⟨rfl, rfl, rfl, rfl, rfl, rfl, trivial⟩, K0, ?_⟩
        · omega
    · try simp only [br] at hc18
      refine Run.exit rfl ?_
      refine Run.inBlock ?_
      refine Run.region ?_
      refine RL.val (litI (c := ((j + 1 : Nat) : Int)) (x_add rfl rfl (by omega) (by omega)) rfl) ?_
      refine RL.val (x_moveI rfl) ?_
      refine RL.nil ?_
      have hi8 : i = 8 := by omega
      subst hi8
      have e : crcL (xs.take (j + 1)) = crcN 8 (crcL (xs.take j) ^^^ x.toNat) := by rw [crcL_snoc hx]; unfold crcB; rfl
      refine ih1 (j + 1) _ _ ?_ (by omega)
      rw [e]
      refine ⟨⟨rfl, rfl, rfl, rfl, trivial⟩, K0, ?_⟩
      · omega
  · try simp only [br] at hc10
    refine Run.exit rfl ?_
    refine Run.seq ?_
    have hlt := crcL_lt (xs.take j)
    have hlx : 4294967295 ^^^ crcL (xs.take j) < 4294967296 := Nat.xor_lt_two_pow (n := 32) (by decide) hlt
    refine Run.region ?_
    refine RL.val (x_moveI rfl) ?_
    refine RL.val (x_complN (kd := .u32) (a := crcL (xs.take j)) (m := 4294967295) rfl rfl rfl (by decide) (show crcL (xs.take j) < 4294967296 by omega)) ?_
    refine RL.val (x_convN (kd := .i64) (a := 4294967295 ^^^ (crcL (xs.take j))) rfl ⟨_, Tryz.underlying25⟩ Tryz.underlying3 (show 4294967295 ^^^ (crcL (xs.take j)) < 9223372036854775808 by omega)) ?_
    refine RL.val (x_assignI rfl) ?_
    refine RL.nil ?_
    refine Run.ret1 (v := .int .i64 (((4294967295 ^^^ (crcL (xs.take j)) : Nat) : Int))) Tryz.func119 rfl rfl ?_
    have hje : j = xs.length := by omega
    subst hje
    exact ⟨_, rfl, by rw [List.take_length]; rw [crcS'], K0⟩

set_option maxRecDepth 100000 in
set_option maxHeartbeats 4000000 in
theorem put_ (a : Option Addr) (xs : List UInt8) (c n : Nat) (w : World) (hs : SlOf w a xs) (hl : xs.length ≤ 1073741824) (hn : n < 9223372036854775808) :
    Calls Tryz.prog 71 #[.slice (a) (xs.length) (c), .int .i64 (((n : Nat) : Int))] w (Ret (fun v w' => ∃ a' c', v = .slice a' (xs ++ vput n).length c' ∧ OwnSl w' 5 a' c' (xs ++ vput n) ∧ (∀ b, own a' b → w.heap.size ≤ b) ∧ Ext w w')) := by
  have hv9 := vput_len9 hn
  have hD : (xs ++ vput n).length = xs.length + (vput n).length := List.length_append
  refine calls_run (n := 27) Tryz.func71 rfl rfl rfl ?_
  refine Run.seq ?_
  refine Run.region ?_
  refine RL.val (x_assignSl rfl) ?_
  refine RL.nil ?_
  refine Run.seq ?_
  refine Run.region ?_
  refine RL.val (x_moveSl rfl) ?_
  have ho_1 := OwnSl.nil (α := UInt8) w 5
  refine RL.st rfl <| St1.append (xs := ([] : List UInt8)) (ys := xs) Tryz.underlying74 ty5 rfl rfl rfl ho_1 hs (by first | omega | (simp only [lr]; omega)) (by decide) ?_
  intro a_2 c_3 w_4 ho_5 K_6 hm_7 hrm_8
  have pg_9 : ∀ q_, own a_2 q_ → w.heap.size ≤ q_ := hm_7.ge (fun q_ h1 => absurd h1 (own_none q_)) (Nat.le_refl _)
  have K0 := (Keeps.refl (fun _ => False) w).new K_6 (fun q_ h1 => absurd h1 (own_none q_))
  clear hm_7
  clear hrm_8
  refine RL.val (x_assignSl rfl) ?_
  refine RL.nil ?_
  refine Run.seq ?_
  refine Run.region ?_
  refine RL.val (x_moveI rfl) ?_
  refine RL.val (litI (c := ((n : Nat) : Int)) (x_maxI rfl rfl) (by omega)) ?_
  refine RL.val (x_convN (kd := .u64) (a := n) rfl ⟨_, Tryz.underlying3⟩ Tryz.underlying107 (show n < 18446744073709551616 by omega)) ?_
  refine RL.val (x_assignI rfl) ?_
  refine RL.nil ?_
  refine Run.seq ?_
  refine Run.block ?_
  refine Run.loop (ι := Nat) (fun m ρ' w' => ∃ zs : List UInt8, ∃ az : Option Addr, ∃ cz : Nat, Holds ρ' [(5, .slice (az) ((zs).length) (cz)), (6, .int .u64 (((m : Nat) : Int)))] ∧ Ext w w' ∧ (OwnSl w' 5 az cz (zs)) ∧ (∀ q_, own az q_ → w.heap.size ≤ q_) ∧ (zs ++ vput m = xs ++ vput n) ∧ (m ≤ n)) (fun m => m) n ?_ ?_
  · refine ⟨xs, _, _, ⟨rfl, rfl, trivial⟩, K0, ho_5, pg_9, ?_, ?_⟩
    · rfl
    · omega
  clear ho_5
  clear K0
  rintro m ρ_14 w_10 ⟨zs, az, cz, hH_11, K0, ho_12, pr_13, hzs, hm⟩ ih1
  obtain ⟨ρ₀, rfl⟩ := hH_11.ex
  clear hH_11
  refine Run.seq ?_
  refine Run.seq ?_
  refine Run.region ?_
  refine RL.val (x_moveI rfl) ?_
  refine RL.val (x_geI rfl rfl) ?_
  refine RL.nil ?_
  refine Run.cond rfl (fun hc13 => ?_) (fun hc13 => ?_)
  · try simp only [br] at hc13
    refine Run.skip ?_
    refine Run.block ?_
    refine Run.seq ?_
    have hzl := len_of_app hzs
    refine Run.region ?_
    refine RL.val (x_moveSl rfl) ?_
    refine RL.val (x_moveI rfl) ?_
    refine RL.val (x_convB (a := m) rfl ⟨_, Tryz.underlying107⟩ Tryz.underlying5) ?_
    refine RL.val (litI (c := ((UInt8.ofNat (m % 128 + 128)).toNat : Int)) (x_orN (kd := .u8) (a := (UInt8.ofNat m).toNat) (b := 128) rfl rfl (show (UInt8.ofNat m).toNat < 256 by have := UInt8.toNat_lt (UInt8.ofNat m); omega) (show 128 < 256 by decide)) (by rw [byte_or128])) ?_
    refine RL.st rfl <| St1.buildSlice ([UInt8.ofNat (m % 128 + 128)] : List UInt8) Tryz.underlying74 ty5 rfl rfl (by first | decide | (simp [Enc.size])) ?_
    intro b_15 w_16 hl_19 ho_18 K_17
    have pr_20 : ∀ q_, own (some ⟨b_15, 0, none⟩) q_ → ¬ own az q_ := apartNew (ge_new hl_19) ho_12.own_lt
    have pg_21 : ∀ q_, own (some ⟨b_15, 0, none⟩) q_ → w.heap.size ≤ q_ := fun q_ h => Nat.le_trans K0.size ((ge_new hl_19) q_ h)
    clear hl_19
    replace ho_12 := ho_12.ext K_17
    replace K0 := K0.ext K_17
    refine RL.st rfl <| St1.append (xs := zs) (ys := ([UInt8.ofNat (m % 128 + 128)] : List UInt8)) Tryz.underlying74 ty5 rfl rfl rfl ho_12 ho_18.sl (by first | omega | (simp only [lr]; omega)) (by decide) ?_
    intro a_22 c_23 w_24 ho_25 K_26 hm_27 hrm_28
    have pr_29 : ∀ q_, own a_22 q_ → ¬ own (some ⟨b_15, 0, none⟩) q_ := hm_27.apart (fun q_ h1 h2 => pr_20 q_ h2 h1) ho_18.own_lt
    have pg_30 : ∀ q_, own a_22 q_ → w.heap.size ≤ q_ := hm_27.ge pr_13 K0.size
    replace ho_18 := ho_18.keepO K_26 pr_20
    replace K0 := K0.new K_26 pr_13
    clear hm_27
    clear hrm_28
    refine RL.val (x_assignSl rfl) ?_
    refine RL.nil ?_
    skip
    refine Run.region ?_
    refine RL.val (x_moveI rfl) ?_
    refine RL.val (x_shrL (kd := .u64) (a := m) (b := 7) 128 (by decide) rfl rfl (by decide)) ?_
    refine RL.val (x_assignI rfl) ?_
    refine RL.nil ?_
    refine Run.inBlock ?_
    refine ih1 (m / 128) _ _ ?_ (by omega)
    refine ⟨_, _, _, ⟨rfl, rfl, trivial⟩, K0, ho_25, pg_30, ?_, ?_⟩
    · exact vput_step (b := xs) (by omega) hzs
    · omega
  · try simp only [br] at hc13
    refine Run.exit rfl ?_
    refine Run.seq ?_
    have hzl := len_of_app hzs
    refine Run.region ?_
    refine RL.val (x_moveSl rfl) ?_
    refine RL.val (x_moveI rfl) ?_
    refine RL.val (x_convB (a := m) rfl ⟨_, Tryz.underlying107⟩ Tryz.underlying5) ?_
    refine RL.st rfl <| St1.buildSlice ([UInt8.ofNat m] : List UInt8) Tryz.underlying74 ty5 rfl rfl (by first | decide | (simp [Enc.size])) ?_
    intro b_31 w_32 hl_35 ho_34 K_33
    have pr_36 : ∀ q_, own (some ⟨b_31, 0, none⟩) q_ → ¬ own az q_ := apartNew (ge_new hl_35) ho_12.own_lt
    have pg_37 : ∀ q_, own (some ⟨b_31, 0, none⟩) q_ → w.heap.size ≤ q_ := fun q_ h => Nat.le_trans K0.size ((ge_new hl_35) q_ h)
    clear hl_35
    replace ho_12 := ho_12.ext K_33
    replace K0 := K0.ext K_33
    refine RL.st rfl <| St1.append (xs := zs) (ys := ([UInt8.ofNat m] : List UInt8)) Tryz.underlying74 ty5 rfl rfl rfl ho_12 ho_34.sl (by first | omega | (simp only [lr]; omega)) (by decide) ?_
    intro a_38 c_39 w_40 ho_41 K_42 hm_43 hrm_44
    have pr_45 : ∀ q_, own a_38 q_ → ¬ own (some ⟨b_31, 0, none⟩) q_ := hm_43.apart (fun q_ h1 h2 => pr_36 q_ h2 h1) ho_34.own_lt
    have pg_46 : ∀ q_, own a_38 q_ → w.heap.size ≤ q_ := hm_43.ge pr_13 K0.size
    replace ho_34 := ho_34.keepO K_42 pr_36
    replace K0 := K0.new K_42 pr_13
    clear hm_43
    clear hrm_44
    refine RL.val (x_assignSl rfl) ?_
    refine RL.nil ?_
    refine Run.ret1 (v := .slice (a_38) ((zs ++ ([UInt8.ofNat m] : List UInt8)).length) (c_39)) Tryz.func71 rfl rfl ?_
    have e_ := vput_last (by omega) hzs
    rw [e_] at ho_41 ⊢
    exact ⟨_, rfl, a_38, c_39, rfl, ho_41, pg_46, K0⟩

set_option maxRecDepth 100000 in
set_option maxHeartbeats 4000000 in
theorem frame_ (a : Option Addr) (xs : List UInt8) (c : Nat) (w : World) (hs : SlOf w a xs) (hl : xs.length ≤ 65536) :
    Calls Tryz.prog 68 #[.slice (a) (xs.length) (c)] w (Ret (fun v w' => ∃ a' c', v = .tuple #[.slice a' (frameB xs).length c', .int .i64 0] ∧ OwnSl w' 5 a' c' (frameB xs) ∧ (∀ b, own a' b → w.heap.size ≤ b) ∧ Ext w w')) := by
  have hv9 := vput_len9 (n := xs.length) (by omega)
  have hcs := crcS_lt xs
  refine calls_run (n := 30) Tryz.func68 rfl rfl rfl ?_
  refine Run.seq ?_
  refine Run.region ?_
  refine RL.val (x_assignSl rfl) ?_
  refine RL.val (x_assignI rfl) ?_
  refine RL.nil ?_
  refine Run.seq ?_
  refine Run.seq ?_
  refine Run.region ?_
  refine RL.val (x_moveSl rfl) ?_
  refine RL.val (x_lenSl Tryz.underlying74 rfl) ?_
  refine RL.val (x_gtI rfl rfl) ?_
  refine RL.nil ?_
  refine Run.cond rfl (fun hc8 => ?_) (fun hc8 => ?_)
  · try simp only [br] at hc8
    exact absurd hc8 (by omega)
  · try simp only [br] at hc8
    refine Run.skip ?_
    refine Run.seq ?_
    refine Run.region ?_
    refine RL.val (x_moveSl rfl) ?_
    refine RL.st rfl <| St1.call (vals := [.slice (a) (xs.length) (c)]) en119 rfl (sum_ _ _ _ _ hs (by omega)) ?_
    rintro _ w_1 ⟨rfl, K_2⟩
    have K0 := (K_2 : Ext w _)
    refine RL.val (x_assignI rfl) ?_
    refine RL.nil ?_
    refine Run.seq ?_
    refine Run.region ?_
    refine RL.val (x_moveSl rfl) ?_
    refine RL.val (x_lenSl Tryz.underlying74 rfl) ?_
    refine RL.st rfl <| St1.call (vals := [.slice (none) (0) (0), .int .i64 (((xs.length : Nat) : Int))]) en71 rfl (put_ none ([] : List UInt8) 0 xs.length _ (SlOf.nil _ _) (Nat.zero_le _) (by omega)) ?_
    rintro _ w_5 ⟨a_3, c_4, rfl, ho_6, hg_7, K_8⟩
    have pg_9 : ∀ q_, own a_3 q_ → w.heap.size ≤ q_ := fun q_ h => Nat.le_trans K0.size (hg_7 q_ h)
    clear hg_7
    replace K0 := K0.ext K_8
    refine RL.val (x_moveSl rfl) ?_
    refine RL.st rfl <| St1.append (xs := ([] : List UInt8) ++ vput xs.length) (ys := xs) Tryz.underlying74 ty5 rfl rfl rfl ho_6 (hs.ext K0) (by rw [List.nil_append]; omega) (by decide) ?_
    intro a_10 c_11 w_12 ho_13 K_14 hm_15 hrm_16
    have pg_17 : ∀ q_, own a_10 q_ → w.heap.size ≤ q_ := hm_15.ge pg_9 K0.size
    replace K0 := K0.new K_14 pg_9
    clear hm_15
    clear hrm_16
    refine RL.val (x_assignSl rfl) ?_
    refine RL.nil ?_
    refine Run.seq ?_
    refine Run.region ?_
    refine RL.val (x_moveSl rfl) ?_
    refine RL.val (x_moveI rfl) ?_
    refine RL.val (x_convB (a := crcS xs) rfl ⟨_, Tryz.underlying3⟩ Tryz.underlying5) ?_
    refine RL.val (x_moveI rfl) ?_
    refine RL.val (x_shrL (kd := .i64) (a := crcS xs) (b := 8) 256 (by decide) rfl rfl (by decide)) ?_
    refine RL.val (x_convB (a := (crcS xs) / 256) rfl ⟨_, Tryz.underlying3⟩ Tryz.underlying5) ?_
    refine RL.val (x_moveI rfl) ?_
    refine RL.val (x_shrL (kd := .i64) (a := crcS xs) (b := 16) 65536 (by decide) rfl rfl (by decide)) ?_
    refine RL.val (x_convB (a := (crcS xs) / 65536) rfl ⟨_, Tryz.underlying3⟩ Tryz.underlying5) ?_
    refine RL.val (x_moveI rfl) ?_
    refine RL.val (x_shrL (kd := .i64) (a := crcS xs) (b := 24) 16777216 (by decide) rfl rfl (by decide)) ?_
    refine RL.val (x_convB (a := (crcS xs) / 16777216) rfl ⟨_, Tryz.underlying3⟩ Tryz.underlying5) ?_
    refine RL.st rfl <| St1.buildSlice ([UInt8.ofNat (crcS xs), UInt8.ofNat ((crcS xs) / 256), UInt8.ofNat ((crcS xs) / 65536), UInt8.ofNat ((crcS xs) / 16777216)] : List UInt8) Tryz.underlying74 ty5 rfl rfl (by first | decide | (simp [Enc.size])) ?_
    intro b_18 w_19 hl_22 ho_21 K_20
    have pr_23 : ∀ q_, own (some ⟨b_18, 0, none⟩) q_ → ¬ own a_10 q_ := apartNew (ge_new hl_22) ho_13.own_lt
    have pg_24 : ∀ q_, own (some ⟨b_18, 0, none⟩) q_ → w.heap.size ≤ q_ := fun q_ h => Nat.le_trans K0.size ((ge_new hl_22) q_ h)
    clear hl_22
    replace ho_13 := ho_13.ext K_20
    replace K0 := K0.ext K_20
    refine RL.st rfl <| St1.append (xs := (([] : List UInt8) ++ vput xs.length) ++ xs) (ys := ([UInt8.ofNat (crcS xs), UInt8.ofNat ((crcS xs) / 256), UInt8.ofNat ((crcS xs) / 65536), UInt8.ofNat ((crcS xs) / 16777216)] : List UInt8)) Tryz.underlying74 ty5 rfl rfl rfl ho_13 ho_21.sl (by rw [List.nil_append, List.length_append]; simp only [List.length_cons, List.length_nil]; omega) (by decide) ?_
    intro a_25 c_26 w_27 ho_28 K_29 hm_30 hrm_31
    have pr_32 : ∀ q_, own a_25 q_ → ¬ own (some ⟨b_18, 0, none⟩) q_ := hm_30.apart (fun q_ h1 h2 => pr_23 q_ h2 h1) ho_21.own_lt
    have pg_33 : ∀ q_, own a_25 q_ → w.heap.size ≤ q_ := hm_30.ge pg_17 K0.size
    replace ho_21 := ho_21.keepO K_29 pr_23
    replace K0 := K0.new K_29 pg_17
    clear hm_30
    clear hrm_31
    refine RL.val (x_assignSl rfl) ?_
    refine RL.val (x_assignI rfl) ?_
    refine RL.nil ?_
    refine Run.ret2 (v := .slice (a_25) ((((([] : List UInt8) ++ vput xs.length) ++ xs) ++ ([UInt8.ofNat (crcS xs), UInt8.ofNat ((crcS xs) / 256), UInt8.ofNat ((crcS xs) / 65536), UInt8.ofNat ((crcS xs) / 16777216)] : List UInt8)).length) (c_26)) (x := .int .i64 (0)) Tryz.func68 rfl rfl rfl ?_
    have e_ : ((([] : List UInt8) ++ vput xs.length) ++ xs) ++ ([UInt8.ofNat (crcS xs), UInt8.ofNat ((crcS xs) / 256), UInt8.ofNat ((crcS xs) / 65536), UInt8.ofNat ((crcS xs) / 16777216)] : List UInt8) = frameB xs := by rw [List.nil_append]; rfl
    rw [e_] at ho_28 ⊢
    exact ⟨_, rfl, a_25, c_26, rfl, ho_28, pg_33, K0⟩

end Go.Proofs.YtnphndfbgdkgbaaGreatDoor
