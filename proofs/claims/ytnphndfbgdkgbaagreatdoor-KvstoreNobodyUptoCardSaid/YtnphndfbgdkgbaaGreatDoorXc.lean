/-
  Layer 1: Unframe.
-/
import Derived.Test.YtnphndfbgdkgbaaGreatDoorRows
import Derived.Test.YtnphndfbgdkgbaaGreatDoorXb
namespace Go.Proofs.YtnphndfbgdkgbaaGreatDoor
attribute [local irreducible] St1 RL RA RT RT1 Run

attribute [local irreducible] crcN crcL crcS crcB numL leL unfR
abbrev FT (q r b : Nat) : Nat → Prop := fun x => x = q ∨ x = r ∨ x = b

theorem ty198 : Ty Tryz.prog 198 1 8 (.pointer none) false := ty_of (by kernel_rfl) (by kernel_rfl)
theorem en135 : Enters Tryz.prog 135 := enters_of Tryz.func135 rfl (by kernel_rfl)
theorem en141 : Enters Tryz.prog 141 := enters_of Tryz.func141 rfl (by kernel_rfl)
theorem en190 : Enters Tryz.prog 190 := enters_of Tryz.func190 rfl (by kernel_rfl)
theorem en240 : Enters Tryz.prog 240 := enters_of Tryz.func240 rfl (by kernel_rfl)
theorem en242 : Enters Tryz.prog 242 := enters_of Tryz.func242 rfl (by kernel_rfl)
theorem en281 : Enters Tryz.prog 281 := enters_of Tryz.func281 rfl (by kernel_rfl)

set_option maxRecDepth 100000 in
set_option maxHeartbeats 4000000 in
theorem rdOver_ (a : Option Addr) (xs : List UInt8) (c : Nat) (w : World) (hs : SlOf w a xs) (hl : xs.length ≤ 1073741824) :
    Calls Tryz.prog 135 #[.slice (a) (xs.length) (c)] w (Ret (fun v w' => ∃ b a' c', v = .pointer (some ⟨b, 0, none⟩) ∧ Blk w' b [.slice a' xs.length c', .int .i64 0, .bool true] 247 ∧ OwnSl w' 5 a' c' xs ∧ ¬ own a' b ∧ w.heap.size ≤ b ∧ (∀ q, own a' q → w.heap.size ≤ q) ∧ Ext w w')) := by
  refine calls_run (n := 7) Tryz.func135 rfl rfl rfl ?_
  refine Run.seq ?_
  refine Run.region ?_
  refine RL.val (x_assignP rfl) ?_
  refine RL.nil ?_
  refine Run.seq ?_
  refine Run.region ?_
  refine RL.val (x_moveSl rfl) ?_
  have ho_1 := OwnSl.nil (α := UInt8) w 5
  refine RL.st rfl <| St1.append (xs := ([] : List UInt8)) (ys := xs) Tryz.underlying74 ty5 rfl rfl rfl ho_1 hs (by simp only [List.length_nil]; omega) (by decide) ?_
  intro a_2 c_3 w_4 ho_5 K_6 hm_7 hrm_8
  have pg_9 : ∀ q_, own a_2 q_ → w.heap.size ≤ q_ := hm_7.ge (fun q_ h1 => absurd h1 (own_none q_)) (Nat.le_refl _)
  have K0 := (Keeps.refl (fun _ => False) w).new K_6 (fun q_ h1 => absurd h1 (own_none q_))
  clear hm_7
  clear hrm_8
  refine RL.val (x_build (cells := #[.slice (a_2) ((([] : List UInt8) ++ xs).length) (c_3), .int .i64 (0), .bool (true)]) (by kernel_rfl)) ?_
  refine RL.st rfl <| St1.box (v := .agg #[.slice (a_2) ((([] : List UInt8) ++ xs).length) (c_3), .int .i64 (0), .bool (true)]) rfl ?_
  intro b_10 w_11 hl_14 hb_13 K_12
  replace hb_13 : Blk w_11 b_10 [.slice (a_2) ((([] : List UInt8) ++ xs).length) (c_3), .int .i64 (0), .bool (true)] 247 := hb_13
  have pr_15 : ¬ own a_2 b_10 := fun h => absurd (ho_5.own_lt _ h) (by omega)
  have : w.heap.size ≤ b_10 := Nat.le_trans K0.size hl_14
  clear hl_14
  replace ho_5 := ho_5.ext K_12
  replace K0 := K0.ext K_12
  refine RL.val (x_assignP rfl) ?_
  refine RL.nil ?_
  refine Run.ret1 (v := .pointer (some ⟨b_10, 0, none⟩)) Tryz.func135 rfl rfl ?_
  rw [List.nil_append] at hb_13 ho_5
  exact ⟨_, rfl, b_10, a_2, c_3, rfl, hb_13, ho_5, pr_15, by omega, pg_9, K0⟩

set_option maxRecDepth 100000 in
set_option maxHeartbeats 4000000 in
theorem unf1_ (p q r b : Nat) (a : Option Addr) (c : Nat) (bs : List UInt8) (w : World) (hp : Blk w p [.pointer (some ⟨b, 0, none⟩)] 198) (hq : Blk w q [.slice none 0 0] 74) (hr : Blk w r [.slice none 0 0] 74) (hb : Blk w b [.slice a bs.length c, .int .i64 0, .bool true] 247) (ho : OwnSl w 5 a c bs) (hop : ¬ own a p) (hoq : ¬ own a q) (hor : ¬ own a r) (hob : ¬ own a b) (hpq : p ≠ q ∧ p ≠ r ∧ p ≠ b ∧ q ≠ r ∧ q ≠ b ∧ r ≠ b) (hl : bs.length ≤ 1073741824) :
    Calls Tryz.prog 281 #[.pointer (some ⟨p, 0, none⟩), .pointer (some ⟨q, 0, none⟩), .pointer (some ⟨r, 0, none⟩)] w (Two (fun v w' => ∃ P R a1 c1 a2 c2, unfR bs = .ok (P, R) ∧ v = .tuple #[] ∧ Blk w' q [.slice a1 P.length c1] 74 ∧ OwnSl w' 5 a1 c1 P ∧ Blk w' r [.slice a2 R.length c2] 74 ∧ OwnSl w' 5 a2 c2 R ∧ (∀ x, own a1 x → ¬ own a2 x) ∧ (∀ x, own a1 x → w.heap.size ≤ x) ∧ (∀ x, own a2 x → w.heap.size ≤ x) ∧ Keeps (FT q r b) w w') (fun ch w' => ∃ e, unfR bs = .error e ∧ ch = raisedBy 44 (.int .i64 e) ∧ Keeps (FT q r b) w w')) := by
  obtain ⟨hn1, hn2, hn3, hn4, hn5, hn6⟩ := hpq
  refine calls_run (n := 46) Tryz.func281 rfl rfl rfl ?_
  refine Run.seq ?_
  refine Run.region ?_
  refine RL.val (x_ld (v := .pointer (some ⟨b, 0, none⟩)) ty198 rfl rfl (hp.cl.field (i := 0) rfl)) ?_
  refine RL.st rfl <| St1.callP (vals := [.pointer (some ⟨b, 0, none⟩)]) en242 rfl (rdNumber_ _ _ _ _ 0 _ hb ho hob (by first | omega | (simp only [lr]; omega)) (by first | omega | (simp only [lr]; omega))) Tryz.func281 ?_ ?_
  · rintro _ w_1 ⟨e, hE, rfl, K_2⟩
    replace ho := ho.keepO K_2 (fun q_ hq_ eq_ => hob (by simp only [one] at eq_; rw [← eq_]; exact hq_))
    replace hp := hp.keep K_2 (by simp only [one]; omega)
    replace hq := hq.keep K_2 (by simp only [one]; omega)
    replace hr := hr.keep K_2 (by simp only [one]; omega)
    have K0 := (Keeps.refl (FT q r b) w).trans K_2 (fun x _ hx => by simp only [one] at hx; subst hx; exact (.inr (.inr rfl)))
    exact .inr ⟨_, rfl, e, unfR_num (by rw [List.drop_zero] at hE; exact hE), rfl, K0⟩
  rintro _ w_3 ⟨nn, kk, hN, rfl, hb_4, K_5⟩
  replace ho := ho.keepO K_5 (fun q_ hq_ eq_ => hob (by simp only [one] at eq_; rw [← eq_]; exact hq_))
  replace hp := hp.keep K_5 (by simp only [one]; omega)
  replace hq := hq.keep K_5 (by simp only [one]; omega)
  replace hr := hr.keep K_5 (by simp only [one]; omega)
  have K0 := (Keeps.refl (FT q r b) w).trans K_5 (fun x _ hx => by simp only [one] at hx; subst hx; exact (.inr (.inr rfl)))
  replace hb := hb_4
  clear hb_4
  rw [List.drop_zero] at hN
  rw [Nat.zero_add] at hb
  have hN3 := numL_0 hN
  refine RL.val (x_assignI rfl) ?_
  refine RL.nil ?_
  refine Run.seq ?_
  refine Run.seq ?_
  refine Run.region ?_
  refine RL.val (x_moveI rfl) ?_
  refine RL.val (x_gtI rfl rfl) ?_
  refine RL.nil ?_
  refine Run.cond rfl (fun hc10 => ?_) (fun hc10 => ?_)
  · try simp only [br] at hc10
    refine Run.region ?_
    refine RL.st rfl <| St1.callP (vals := [.int .i64 (4)]) en189 rfl (dies_two (cutD 4 _)) Tryz.func281 ?_ ?_
    · rintro _ _ ⟨rfl, rfl⟩
      exact .inr ⟨_, rfl, 4, unfR_long hN (by omega), rfl, K0⟩
    exact fun _ _ h => h.elim
  · try simp only [br] at hc10
    refine Run.skip ?_
    refine Run.seq ?_
    refine Run.seq ?_
    refine Run.region ?_
    refine RL.val (x_ld (v := .pointer (some ⟨b, 0, none⟩)) ty198 rfl rfl (hp.cl.field (i := 0) rfl)) ?_
    refine RL.st rfl <| St1.call (vals := [.pointer (some ⟨b, 0, none⟩)]) en141 rfl (rdLeft_ _ _ _ _ kk _ hb ho hob (by first | omega | (simp only [lr]; omega)) (by first | omega | (simp only [lr]; omega))) ?_
    rintro _ w_6 ⟨rfl, K_7⟩
    replace ho := ho.ext K_7
    replace hp := hp.ext K_7
    replace hq := hq.ext K_7
    replace hr := hr.ext K_7
    replace hb := hb.ext K_7
    replace K0 := K0.ext K_7
    refine RL.val (x_moveI rfl) ?_
    refine RL.val (litI (c := ((nn + 4 : Nat) : Int)) (x_add rfl rfl (by omega) (by omega)) rfl) ?_
    refine RL.val (x_ltI rfl rfl) ?_
    refine RL.nil ?_
    refine Run.cond rfl (fun hc16 => ?_) (fun hc16 => ?_)
    · try simp only [br] at hc16
      refine Run.region ?_
      refine RL.st rfl <| St1.callP (vals := [.int .i64 (2)]) en189 rfl (dies_two (cutD 2 _)) Tryz.func281 ?_ ?_
      · rintro _ _ ⟨rfl, rfl⟩
        exact .inr ⟨_, rfl, 2, unfR_short hN (by omega) (by omega), rfl, K0⟩
      exact fun _ _ h => h.elim
    · try simp only [br] at hc16
      refine Run.skip ?_
      refine Run.seq ?_
      refine Run.region ?_
      refine RL.val (x_ld (v := .pointer (some ⟨b, 0, none⟩)) ty198 rfl rfl (hp.cl.field (i := 0) rfl)) ?_
      refine RL.val (x_moveI rfl) ?_
      refine RL.st rfl <| St1.call (vals := [.pointer (some ⟨b, 0, none⟩), .int .i64 (((nn : Nat) : Int))]) en190 rfl (rdTake_ _ _ _ _ kk nn _ hb ho hob (by first | omega | (simp only [lr]; omega)) (by first | omega | (simp only [lr]; omega)) (by first | omega | (simp only [lr]; omega))) ?_
      rintro _ w_10 ⟨a_8, c_9, rfl, ho_11, hg_12, hb_13, K_14⟩
      have pr_15 : ∀ q_, own a_8 q_ → ¬ own a q_ := apartNew hg_12 ho.own_lt
      have pr_16 : ¬ own a_8 p := notNew hg_12 hp.lt
      have pr_17 : ¬ own a_8 q := notNew hg_12 hq.lt
      have pr_18 : ¬ own a_8 r := notNew hg_12 hr.lt
      have pr_19 : ¬ own a_8 b := notNew hg_12 hb.lt
      have pg_20 : ∀ q_, own a_8 q_ → q_ < w.heap.size → (FT q r b) q_ := fun q_ h hlt => absurd (Nat.le_trans K0.size (hg_12 q_ h)) (by omega)
      have pw_21 : ∀ q_, own a_8 q_ → w.heap.size ≤ q_ := fun q_ h => Nat.le_trans K0.size (hg_12 q_ h)
      clear hg_12
      replace ho := ho.keepO K_14 (fun q_ hq_ eq_ => hob (by simp only [one] at eq_; rw [← eq_]; exact hq_))
      replace hp := hp.keep K_14 (by simp only [one]; omega)
      replace hq := hq.keep K_14 (by simp only [one]; omega)
      replace hr := hr.keep K_14 (by simp only [one]; omega)
      replace K0 := K0.trans K_14 (fun x _ hx => by simp only [one] at hx; subst hx; exact (.inr (.inr rfl)))
      replace hb := hb_13
      clear hb_13
      refine RL.st rfl <| St1.store (v := .slice (a_8) (((bs.drop kk).take nn).length) (c_9)) ty74 rfl rfl rfl (by simp [Value.cells, Value.oneCell']) hq (by simp) ?_
      intro w_22 hq_ K_23
      have hq' : Blk w_22 q [.slice (a_8) (((bs.drop kk).take nn).length) (c_9)] 74 := hq_
      clear hq_
      replace ho := ho.keepO K_23 (fun q_ hq_ eq_ => hoq (by simp only [one] at eq_; rw [← eq_]; exact hq_))
      replace hp := hp.keep K_23 (by simp only [one]; omega)
      replace hr := hr.keep K_23 (by simp only [one]; omega)
      replace hb := hb.keep K_23 (by simp only [one]; omega)
      replace ho_11 := ho_11.keepO K_23 (fun q_ hq_ eq_ => pr_17 (by simp only [one] at eq_; rw [← eq_]; exact hq_))
      replace K0 := K0.trans K_23 (fun x _ hx => by simp only [one] at hx; subst hx; exact (.inl rfl))
      replace hq := hq'
      clear hq'
      refine RL.nil ?_
      refine Run.seq ?_
      refine Run.region ?_
      refine RL.val (x_assignI rfl) ?_
      refine RL.nil ?_
      refine Run.seq ?_
      refine Run.seq ?_
      refine Run.region ?_
      refine RL.val (x_ld (v := .pointer (some ⟨b, 0, none⟩)) ty198 rfl rfl (hp.cl.field (i := 0) rfl)) ?_
      refine RL.st rfl <| St1.call (vals := [.pointer (some ⟨b, 0, none⟩), .int .i64 (4)]) en190 rfl (rdTake_ _ _ _ _ (kk + nn) 4 _ hb ho hob (by first | omega | (simp only [lr]; omega)) (by first | omega | (simp only [lr]; omega)) (by first | omega | (simp only [lr]; omega))) ?_
      rintro _ w_26 ⟨a_24, c_25, rfl, ho_27, hg_28, hb_29, K_30⟩
      have pr_31 : ∀ q_, own a_24 q_ → ¬ own a q_ := apartNew hg_28 ho.own_lt
      have pr_32 : ¬ own a_24 p := notNew hg_28 hp.lt
      have pr_33 : ¬ own a_24 q := notNew hg_28 hq.lt
      have pr_34 : ¬ own a_24 r := notNew hg_28 hr.lt
      have pr_35 : ¬ own a_24 b := notNew hg_28 hb.lt
      have pr_36 : ∀ q_, own a_24 q_ → ¬ own a_8 q_ := apartNew hg_28 ho_11.own_lt
      have pg_37 : ∀ q_, own a_24 q_ → q_ < w.heap.size → (FT q r b) q_ := fun q_ h hlt => absurd (Nat.le_trans K0.size (hg_28 q_ h)) (by omega)
      have pw_38 : ∀ q_, own a_24 q_ → w.heap.size ≤ q_ := fun q_ h => Nat.le_trans K0.size (hg_28 q_ h)
      clear hg_28
      replace ho := ho.keepO K_30 (fun q_ hq_ eq_ => hob (by simp only [one] at eq_; rw [← eq_]; exact hq_))
      replace hp := hp.keep K_30 (by simp only [one]; omega)
      replace hq := hq.keep K_30 (by simp only [one]; omega)
      replace hr := hr.keep K_30 (by simp only [one]; omega)
      replace ho_11 := ho_11.keepO K_30 (fun q_ hq_ eq_ => pr_19 (by simp only [one] at eq_; rw [← eq_]; exact hq_))
      replace K0 := K0.trans K_30 (fun x _ hx => by simp only [one] at hx; subst hx; exact (.inr (.inr rfl)))
      replace hb := hb_29
      clear hb_29
      refine RL.val (x_lenSl Tryz.underlying74 rfl) ?_
      refine RL.val (x_moveI rfl) ?_
      refine RL.nil ?_
      refine Run.block ?_
      refine Run.loop (ι := Nat) (fun i ρ' w' => Holds ρ' [(0, .pointer (some ⟨p, 0, none⟩)), (1, .pointer (some ⟨q, 0, none⟩)), (2, .pointer (some ⟨r, 0, none⟩)), (4, .int .i64 (((leL (((bs.drop (kk + nn)).take 4).take i) : Nat) : Int))), (22, .slice (a_24) (((bs.drop (kk + nn)).take 4).length) (c_25)), (23, .int .i64 (((((bs.drop (kk + nn)).take 4).length : Nat) : Int))), (24, .int .i64 (((i : Nat) : Int)))] ∧ Keeps (FT q r b) w w' ∧ (Blk w' p [.pointer (some ⟨b, 0, none⟩)] 198) ∧ (Blk w' q [.slice (a_8) (((bs.drop kk).take nn).length) (c_9)] 74) ∧ (Blk w' r [.slice (none) (0) (0)] 74) ∧ (Blk w' b [.slice (a) (bs.length) (c), .int .i64 ((((kk + nn) + 4 : Nat) : Int)), .bool (true)] 247) ∧ (OwnSl w' 5 (a) (c) (bs)) ∧ (OwnSl w' 5 (a_8) (c_9) ((bs.drop kk).take nn)) ∧ (OwnSl w' 5 (a_24) (c_25) ((bs.drop (kk + nn)).take 4)) ∧ (i ≤ ((bs.drop (kk + nn)).take 4).length)) (fun i => 4 - i) 0 ?_ ?_
      · rw [show (leL (((bs.drop (kk + nn)).take 4).take 0)) = 0 by rw [List.take_zero]; unfold leL; rfl]
        refine ⟨⟨rfl, rfl, rfl, rfl, rfl, rfl, rfl, trivial⟩, K0, hp, hq, hr, hb, ho, ho_11, ho_27, ?_⟩
        · omega
      clear ho hp hq hr hb ho_11 ho_27
      clear K0
      rintro i ρ_41 w_39 ⟨hH_40, K0, hp, hq, hr, hb, ho, ho_11, ho_27, hi⟩ ih1
      obtain ⟨ρ₀, rfl⟩ := hH_40.ex
      clear hH_40
      refine Run.seq ?_
      refine Run.region ?_
      refine RL.val (x_ltI rfl rfl) ?_
      refine RL.nil ?_
      refine Run.seq ?_
      refine Run.cond rfl (fun hc25 => ?_) (fun hc25 => ?_)
      · try simp only [br] at hc25
        refine Run.skip ?_
        refine Run.seq ?_
        refine Run.block ?_
        refine Run.seq ?_
        refine Run.region ?_
        refine RL.val (x_moveI rfl) ?_
        obtain ⟨b_42, o_43, x, hx, ha_44, hc_45⟩ := ho_27.sl.el (i := i) (by first | omega | (simp only [List.length_set]; omega))
        refine RL.val (x_idxN Tryz.underlying74 ty5 rfl rfl ha_44 (by first | omega | (simp only [List.length_set]; omega))) ?_
        refine RL.val (x_ldV (v := .int .u8 (((x).toNat : Int))) (y := x) ty5 rfl hc_45 rfl) ?_
        refine RL.val (x_assignI rfl) ?_
        refine RL.val (x_assignI rfl) ?_
        refine RL.nil ?_
        have hF : ((bs.drop (kk + nn)).take 4).length = 4 := by rw [List.length_take, List.length_drop]; omega
        have hp8 := pow8_le (i := i) (by omega)
        have hd8 := byte8_le x i
        have hle := leL_at_lt (F := (bs.drop (kk + nn)).take 4) (i := i) (by omega)
        refine Run.region ?_
        refine RL.val (x_moveI rfl) ?_
        refine RL.val (x_moveI rfl) ?_
        refine RL.val (x_convN (kd := .i64) (a := (x).toNat) rfl ⟨_, Tryz.underlying5⟩ Tryz.underlying3 (show (x).toNat < 9223372036854775808 by have := UInt8.toNat_lt x; omega)) ?_
        refine RL.val (x_moveI rfl) ?_
        refine RL.val (litI (c := ((8 * i : Nat) : Int)) (x_mul rfl rfl (by omega) (by omega)) rfl) ?_
        refine RL.val (x_shlN (kd := .i64) (a := (x).toNat) (b := 8 * i) rfl rfl (show 8 * i ≤ 64 by omega) (show _ < 9223372036854775808 by omega)) ?_
        refine RL.val (litI (c := ((leL (((bs.drop (kk + nn)).take 4).take i) + x.toNat * 2 ^ (8 * i) : Nat) : Int)) (x_orN (kd := .i64) (a := leL (((bs.drop (kk + nn)).take 4).take i)) (b := ((x).toNat) * 2 ^ (8 * i)) rfl rfl (show _ < 9223372036854775808 by omega) (show _ < 9223372036854775808 by omega)) (by rw [or_parts _ _ _ hle])) ?_
        refine RL.val (x_assignI rfl) ?_
        refine RL.nil ?_
        refine Run.inBlock ?_
        refine Run.region ?_
        refine RL.val (litI (c := ((i + 1 : Nat) : Int)) (x_add rfl rfl (by omega) (by omega)) rfl) ?_
        refine RL.val (x_moveI rfl) ?_
        refine RL.nil ?_
        have e := leL_at hx
        refine ih1 (i + 1) _ _ ?_ (by omega)
        rw [e]
        refine ⟨⟨rfl, rfl, rfl, rfl, rfl, rfl, rfl, trivial⟩, K0, hp, hq, hr, hb, ho, ho_11, ho_27, ?_⟩
        · omega
      · try simp only [br] at hc25
        refine Run.exit rfl ?_
        refine Run.seq ?_
        refine Run.seq ?_
        have hPl : ((bs.drop kk).take nn).length ≤ nn := List.length_take_le ..
        have hF : ((bs.drop (kk + nn)).take 4).length = 4 := by rw [List.length_take, List.length_drop]; omega
        have hF4 : leL (((bs.drop (kk + nn)).take 4).take i) = leL ((bs.drop (kk + nn)).take 4) := by rw [List.take_of_length_le (by omega)]
        refine Run.region ?_
        refine RL.val (x_moveI rfl) ?_
        refine RL.val (x_ld (v := .slice (a_8) (((bs.drop kk).take nn).length) (c_9)) ty74 rfl rfl (hq.cl.field (i := 0) rfl)) ?_
        refine RL.st rfl <| St1.call (vals := [.slice (a_8) (((bs.drop kk).take nn).length) (c_9)]) en119 rfl (sum_ _ _ _ _ ho_11.sl (by omega)) ?_
        rintro _ w_48 ⟨rfl, K_49⟩
        replace hp := hp.ext K_49
        replace hq := hq.ext K_49
        replace hr := hr.ext K_49
        replace hb := hb.ext K_49
        replace ho := ho.ext K_49
        replace ho_11 := ho_11.ext K_49
        replace ho_27 := ho_27.ext K_49
        replace K0 := K0.ext K_49
        refine RL.val (x_neI rfl rfl) ?_
        refine RL.nil ?_
        refine Run.cond rfl (fun hc40 => ?_) (fun hc40 => ?_)
        · try simp only [br] at hc40
          refine Run.region ?_
          refine RL.st rfl <| St1.callP (vals := [.int .i64 (11)]) en189 rfl (dies_two (cutD 11 _)) Tryz.func281 ?_ ?_
          · rintro _ _ ⟨rfl, rfl⟩
            exact .inr ⟨_, rfl, 11, unfR_sum hN (by omega) (by omega) (fun e_ => hc40 (by rw [hF4, e_])), rfl, K0⟩
          exact fun _ _ h => h.elim
        · try simp only [br] at hc40
          refine Run.skip ?_
          refine Run.drawT [4] (m := 5) (by kernel_rfl) rfl ?_
          intro w_50 K_51
          replace hp := hp.ext K_51
          replace hq := hq.ext K_51
          replace hr := hr.ext K_51
          replace hb := hb.ext K_51
          replace ho := ho.ext K_51
          replace ho_11 := ho_11.ext K_51
          replace ho_27 := ho_27.ext K_51
          replace K0 := K0.ext K_51
          refine ⟨fun w' => Blk w' p [.pointer (some ⟨b, 0, none⟩)] 198 ∧ True, ?_⟩
          refine RT.take (v := .pointer (some ⟨b, 0, none⟩)) 0 rfl (by kernel_rfl) ⟨hp, trivial⟩ (by rintro _ ⟨hp, -⟩; exact (x_ld (v := .pointer (some ⟨b, 0, none⟩)) ty198 rfl rfl (hp.cl.field (i := 0) rfl))) ?_
          refine RT.take (v := .pointer (some ⟨b, 0, none⟩)) 1 rfl (by kernel_rfl) ⟨hp, trivial⟩ (by rintro _ ⟨hp, -⟩; exact (x_ld (v := .pointer (some ⟨b, 0, none⟩)) ty198 rfl rfl (hp.cl.field (i := 0) rfl))) ?_
          refine RT.st 2 rfl (by kernel_rfl) rfl <| St1.call (vals := [.pointer (some ⟨b, 0, none⟩)]) en141 rfl (rdLeft_ _ _ _ _ ((kk + nn) + 4) _ hb ho hob (by first | omega | (simp only [lr]; omega)) (by first | omega | (simp only [lr]; omega))) ?_
          rintro _ w_52 ⟨rfl, K_53⟩
          replace hp := hp.ext K_53
          replace hq := hq.ext K_53
          replace hr := hr.ext K_53
          replace hb := hb.ext K_53
          replace ho := ho.ext K_53
          replace ho_11 := ho_11.ext K_53
          replace ho_27 := ho_27.ext K_53
          replace K0 := K0.ext K_53
          refine ⟨.inr ⟨hp, trivial⟩, ?_⟩
          refine RT.st 3 rfl (by kernel_rfl) rfl <| St1.call (vals := [.pointer (some ⟨b, 0, none⟩), .int .i64 (((bs.length - ((kk + nn) + 4) : Nat) : Int))]) en190 rfl (rdTake_ _ _ _ _ ((kk + nn) + 4) (bs.length - ((kk + nn) + 4)) _ hb ho hob (by first | omega | (simp only [lr]; omega)) (by first | omega | (simp only [lr]; omega)) (by first | omega | (simp only [lr]; omega))) ?_
          rintro _ w_56 ⟨a_54, c_55, rfl, ho_57, hg_58, hb_59, K_60⟩
          have pr_61 : ¬ own a_54 p := notNew hg_58 hp.lt
          have pr_62 : ¬ own a_54 q := notNew hg_58 hq.lt
          have pr_63 : ¬ own a_54 r := notNew hg_58 hr.lt
          have pr_64 : ¬ own a_54 b := notNew hg_58 hb.lt
          have pr_65 : ∀ q_, own a_54 q_ → ¬ own a q_ := apartNew hg_58 ho.own_lt
          have pr_66 : ∀ q_, own a_54 q_ → ¬ own a_8 q_ := apartNew hg_58 ho_11.own_lt
          have pr_67 : ∀ q_, own a_54 q_ → ¬ own a_24 q_ := apartNew hg_58 ho_27.own_lt
          have pg_68 : ∀ q_, own a_54 q_ → q_ < w.heap.size → (FT q r b) q_ := fun q_ h hlt => absurd (Nat.le_trans K0.size (hg_58 q_ h)) (by omega)
          have pw_69 : ∀ q_, own a_54 q_ → w.heap.size ≤ q_ := fun q_ h => Nat.le_trans K0.size (hg_58 q_ h)
          clear hg_58
          replace hp := hp.keep K_60 (by simp only [one]; omega)
          replace hq := hq.keep K_60 (by simp only [one]; omega)
          replace hr := hr.keep K_60 (by simp only [one]; omega)
          replace ho := ho.keepO K_60 (fun q_ hq_ eq_ => hob (by simp only [one] at eq_; rw [← eq_]; exact hq_))
          replace ho_11 := ho_11.keepO K_60 (fun q_ hq_ eq_ => pr_19 (by simp only [one] at eq_; rw [← eq_]; exact hq_))
          replace ho_27 := ho_27.keepO K_60 (fun q_ hq_ eq_ => pr_35 (by simp only [one] at eq_; rw [← eq_]; exact hq_))
          replace K0 := K0.trans K_60 (fun x _ hx => by simp only [one] at hx; subst hx; exact (.inr (.inr rfl)))
          replace hb := hb_59
          clear hb_59
          refine ⟨.inr ⟨hp, trivial⟩, ?_⟩
          refine RT.st 4 rfl (by kernel_rfl) rfl <| St1.store (v := .slice (a_54) (((bs.drop ((kk + nn) + 4)).take (bs.length - ((kk + nn) + 4))).length) (c_55)) ty74 rfl rfl rfl (by simp [Value.cells, Value.oneCell']) hr (by simp) ?_
          intro w_70 hr_ K_71
          have hr' : Blk w_70 r [.slice (a_54) (((bs.drop ((kk + nn) + 4)).take (bs.length - ((kk + nn) + 4))).length) (c_55)] 74 := hr_
          clear hr_
          replace hp := hp.keep K_71 (by simp only [one]; omega)
          replace hq := hq.keep K_71 (by simp only [one]; omega)
          replace hb := hb.keep K_71 (by simp only [one]; omega)
          replace ho := ho.keepO K_71 (fun q_ hq_ eq_ => hor (by simp only [one] at eq_; rw [← eq_]; exact hq_))
          replace ho_11 := ho_11.keepO K_71 (fun q_ hq_ eq_ => pr_18 (by simp only [one] at eq_; rw [← eq_]; exact hq_))
          replace ho_27 := ho_27.keepO K_71 (fun q_ hq_ eq_ => pr_34 (by simp only [one] at eq_; rw [← eq_]; exact hq_))
          replace ho_57 := ho_57.keepO K_71 (fun q_ hq_ eq_ => pr_63 (by simp only [one] at eq_; rw [← eq_]; exact hq_))
          replace K0 := K0.trans K_71 (fun x _ hx => by simp only [one] at hx; subst hx; exact (.inr (.inl rfl)))
          replace hr := hr'
          clear hr'
          refine ⟨.inl (by kernel_rfl), ?_⟩
          refine RT.done (by kernel_rfl) ?_
          refine Run.fin0 Tryz.func281 rfl ?_
          have eR : (bs.drop ((kk + nn) + 4)).take (bs.length - ((kk + nn) + 4)) = bs.drop (kk + nn + 4) := List.take_of_length_le (by rw [List.length_drop]; omega)
          rw [eR] at hr ho_57
          exact .inl ⟨_, rfl, _, _, a_8, c_9, a_54, c_55, unfR_ok hN (by omega) (by omega) (by rw [← hF4]; exact_mod_cast hc40), rfl, hq, ho_11, hr, ho_57, (fun q_ h1 h2 => pr_66 q_ h2 h1), pw_21, pw_69, K0⟩

set_option maxHeartbeats 1000000 in
theorem tryU (p q r b : Nat) (a : Option Addr) (c : Nat) (bs : List UInt8) (w : World) (hp : Blk w p [.pointer (some ⟨b, 0, none⟩)] 198) (hq : Blk w q [.slice none 0 0] 74) (hr : Blk w r [.slice none 0 0] 74) (hb : Blk w b [.slice a bs.length c, .int .i64 0, .bool true] 247) (ho : OwnSl w 5 a c bs) (hop : ¬ own a p) (hoq : ¬ own a q) (hor : ¬ own a r) (hob : ¬ own a b) (hpq : p ≠ q ∧ p ≠ r ∧ p ≠ b ∧ q ≠ r ∧ q ≠ b ∧ r ≠ b) (hl : bs.length ≤ 1073741824) : Calls Tryz.prog 240 #[.func (.func 281) #[] #[.pointer (some ⟨p, 0, none⟩), .pointer (some ⟨q, 0, none⟩), .pointer (some ⟨r, 0, none⟩)]] w (Ret fun v w' => (∃ P R a1 c1 a2 c2, unfR bs = .ok (P, R) ∧ v = .int .i64 0 ∧ Blk w' q [.slice a1 P.length c1] 74 ∧ OwnSl w' 5 a1 c1 P ∧ Blk w' r [.slice a2 R.length c2] 74 ∧ OwnSl w' 5 a2 c2 R ∧ (∀ x, own a1 x → ¬ own a2 x) ∧ (∀ x, own a1 x → w.heap.size ≤ x) ∧ (∀ x, own a2 x → w.heap.size ≤ x) ∧ Keeps (FT q r b) w w') ∨ (∃ e, unfR bs = .error e ∧ v = .int .i64 e ∧ Keeps (FT q r b) w w')) := by
  have KA : Ext w (w.alloc (.cells #[.int .i64 0] 44)) := Ext.push _ _
  have hsz : (w.alloc (.cells #[.int .i64 0] 44)).heap.size = w.heap.size + 1 := by
    show (w.heap.push _).size = _
    rw [Array.size_push]
  have hnew : Blk (w.alloc (.cells #[.int .i64 0] 44)) w.heap.size [.int .i64 0] 44 := by
    show (w.heap.push _)[w.heap.size]? = _
    rw [Array.getElem?_push_size]
  have l1 := hq.lt
  have l2 := hr.lt
  have l3 := hb.lt
  have hnf : ¬ FT q r b w.heap.size := by simp only [FT]; omega
  refine try_ 281 [.pointer (some ⟨p, 0, none⟩), .pointer (some ⟨q, 0, none⟩), .pointer (some ⟨r, 0, none⟩)] w _
    (fun w' => ∃ P R a1 c1 a2 c2, unfR bs = .ok (P, R) ∧ Blk w' q [.slice a1 P.length c1] 74 ∧ OwnSl w' 5 a1 c1 P ∧ Blk w' r [.slice a2 R.length c2] 74 ∧ OwnSl w' 5 a2 c2 R ∧ (∀ x, own a1 x → ¬ own a2 x) ∧ (∀ x, own a1 x → w.heap.size + 1 ≤ x) ∧ (∀ x, own a2 x → w.heap.size + 1 ≤ x) ∧ Keeps (FT q r b) (w.alloc (.cells #[.int .i64 0] 44)) w')
    (fun e w' => unfR bs = .error e ∧ Keeps (FT q r b) (w.alloc (.cells #[.int .i64 0] 44)) w') en281 ?_ ?_ ?_ ?_ ?_
  · refine (unf1_ p q r b a c bs _ (hp.ext KA) (hq.ext KA) (hr.ext KA) (hb.ext KA) (ho.ext KA) hop hoq hor hob hpq hl).mono fun e w' h => ?_
    rcases h with ⟨v, rfl, P, R, a1, c1, a2, c2, h1, -, h2, h3, h4, h5, h6, h7, h8, h9⟩ | ⟨ch, rfl, e, h1, rfl, h2⟩
    · rw [hsz] at h7 h8
      exact .inl ⟨_, rfl, P, R, a1, c1, a2, c2, h1, h2, h3, h4, h5, h6, h7, h8, h9⟩
    · exact .inr ⟨_, rfl, e, rfl, h1, h2⟩
  · rintro w' ⟨P, R, a1, c1, a2, c2, h1, h2, h3, h4, h5, h6, h7, h8, h9⟩
    exact hnew.keep h9 hnf
  · rintro e w' ⟨h1, h9⟩
    exact hnew.keep h9 hnf
  · rintro w' w2 ⟨P, R, a1, c1, a2, c2, h1, h2, h3, h4, h5, h6, h7, h8, h9⟩ k
    refine ⟨_, rfl, .inl ⟨P, R, a1, c1, a2, c2, h1, rfl, h2.keep k (by simp only [one]; omega), h3.keepO k (fun x hx => by have := h7 x hx; simp only [one]; omega), h4.keep k (by simp only [one]; omega), h5.keepO k (fun x hx => by have := h8 x hx; simp only [one]; omega), h6, fun x hx => by have := h7 x hx; omega, fun x hx => by have := h8 x hx; omega, ?_⟩⟩
    exact ((KA.to (S := FT q r b)).trans h9 fun _ _ e => e).trans k fun x hx e => absurd hx (by simp only [one] at e; omega)
  · rintro e w' w2 ⟨h1, h9⟩ k
    refine ⟨_, rfl, .inr ⟨e, h1, rfl, ?_⟩⟩
    exact ((KA.to (S := FT q r b)).trans h9 fun _ _ e => e).trans k fun x hx e => absurd hx (by simp only [one] at e; omega)

set_option maxRecDepth 100000 in
set_option maxHeartbeats 4000000 in
theorem unframe_ (a : Option Addr) (xs : List UInt8) (c : Nat) (w : World) (hs : SlOf w a xs) (hl : xs.length ≤ 1073741824) :
    Calls Tryz.prog 239 #[.slice (a) (xs.length) (c)] w (Ret (fun v w' => (∃ P R a1 c1 a2 c2, unfR xs = .ok (P, R) ∧ v = .tuple #[.slice a1 P.length c1, .slice a2 R.length c2, .int .i64 0] ∧ OwnSl w' 5 a1 c1 P ∧ OwnSl w' 5 a2 c2 R ∧ (∀ x, own a1 x → ¬ own a2 x) ∧ (∀ x, own a1 x → w.heap.size ≤ x) ∧ (∀ x, own a2 x → w.heap.size ≤ x) ∧ Ext w w') ∨ (∃ e, unfR xs = .error e ∧ v = .tuple #[.slice none 0 0, .slice none 0 0, .int .i64 e] ∧ Ext w w'))) := by
  refine calls_run (n := 18) Tryz.func239 rfl rfl rfl ?_
  refine Run.seq ?_
  refine Run.region ?_
  refine RL.val (x_assignSl rfl) ?_
  refine RL.val (x_assignSl rfl) ?_
  refine RL.val (x_assignI rfl) ?_
  refine RL.nil ?_
  refine Run.seq ?_
  refine Run.region ?_
  refine RL.val (x_moveSl rfl) ?_
  refine RL.st rfl <| St1.call (vals := [.slice (a) (xs.length) (c)]) en135 rfl (rdOver_ _ _ _ _ hs (by omega)) ?_
  rintro _ w_4 ⟨b_1, a_2, c_3, rfl, hb_5, ho_6, hab_7, hl_8, hg_9, K_10⟩
  have pg_11 : ∀ q_, own a_2 q_ → w.heap.size ≤ q_ := fun q_ h => Nat.le_trans (Nat.le_refl _) (hg_9 q_ h)
  have : w.heap.size ≤ b_1 := Nat.le_trans (Nat.le_refl _) hl_8
  have K0 := (K_10 : Ext w _)
  refine RL.st rfl <| St1.alloc ty198 ?_
  intro b_12 w_13 hl_16 hb_15 K_14
  replace hb_15 : Blk w_13 b_12 [.pointer none] 198 := hb_15
  have ne_17 : b_1 < b_12 := Nat.lt_of_lt_of_le hb_5.lt hl_16
  have pr_18 : ¬ own a_2 b_12 := fun h => absurd (ho_6.own_lt _ h) (by omega)
  have : w.heap.size ≤ b_12 := Nat.le_trans K0.size hl_16
  clear hl_16
  replace ho_6 := ho_6.ext K_14
  replace hb_5 := hb_5.ext K_14
  replace K0 := K0.ext K_14
  refine RL.st rfl <| St1.store (v := .pointer (some ⟨b_1, 0, none⟩)) ty198 rfl rfl rfl (by simp [Value.cells, Value.oneCell']) hb_15 (by simp) ?_
  intro w_19 hb_15_ K_20
  have hb_15' : Blk w_19 b_12 [.pointer (some ⟨b_1, 0, none⟩)] 198 := hb_15_
  clear hb_15_
  replace ho_6 := ho_6.keepO K_20 (fun q_ hq_ eq_ => pr_18 (by simp only [one] at eq_; rw [← eq_]; exact hq_))
  replace hb_5 := hb_5.keep K_20 (by simp only [one]; omega)
  replace K0 := K0.new K_20 (fun x hx => by simp only [one] at hx; omega)
  replace hb_15 := hb_15'
  clear hb_15'
  refine RL.nil ?_
  refine Run.seq ?_
  refine Run.region ?_
  refine RL.st rfl <| St1.alloc ty74 ?_
  intro b_21 w_22 hl_25 hb_24 K_23
  replace hb_24 : Blk w_22 b_21 [.slice (none) (0) (0)] 74 := hb_24
  have ne_26 : b_1 < b_21 := Nat.lt_of_lt_of_le hb_5.lt hl_25
  have ne_27 : b_12 < b_21 := Nat.lt_of_lt_of_le hb_15.lt hl_25
  have pr_28 : ¬ own a_2 b_21 := fun h => absurd (ho_6.own_lt _ h) (by omega)
  have : w.heap.size ≤ b_21 := Nat.le_trans K0.size hl_25
  clear hl_25
  replace ho_6 := ho_6.ext K_23
  replace hb_5 := hb_5.ext K_23
  replace hb_15 := hb_15.ext K_23
  replace K0 := K0.ext K_23
  refine RL.st rfl <| St1.alloc ty74 ?_
  intro b_29 w_30 hl_33 hb_32 K_31
  replace hb_32 : Blk w_30 b_29 [.slice (none) (0) (0)] 74 := hb_32
  have ne_34 : b_1 < b_29 := Nat.lt_of_lt_of_le hb_5.lt hl_33
  have ne_35 : b_12 < b_29 := Nat.lt_of_lt_of_le hb_15.lt hl_33
  have ne_36 : b_21 < b_29 := Nat.lt_of_lt_of_le hb_24.lt hl_33
  have pr_37 : ¬ own a_2 b_29 := fun h => absurd (ho_6.own_lt _ h) (by omega)
  have : w.heap.size ≤ b_29 := Nat.le_trans K0.size hl_33
  clear hl_33
  replace ho_6 := ho_6.ext K_31
  replace hb_5 := hb_5.ext K_31
  replace hb_15 := hb_15.ext K_31
  replace hb_24 := hb_24.ext K_31
  replace K0 := K0.ext K_31
  refine RL.nil ?_
  refine Run.seq ?_
  refine Run.region ?_
  refine RL.val (x_mkFunc (a := []) (c := [.pointer (some ⟨b_12, 0, none⟩), .pointer (some ⟨b_21, 0, none⟩), .pointer (some ⟨b_29, 0, none⟩)]) rfl rfl) ?_
  refine RL.st rfl <| St1.call (vals := [.func (.func 281) #[] #[.pointer (some ⟨b_12, 0, none⟩), .pointer (some ⟨b_21, 0, none⟩), .pointer (some ⟨b_29, 0, none⟩)]]) en240 rfl (tryU b_12 b_21 b_29 b_1 _ _ _ _ hb_15 hb_24 hb_32 hb_5 ho_6 pr_18 pr_28 pr_37 hab_7 (by omega) (by omega)) ?_
  have hTw := K0
  rintro _ wT hTry
  rcases hTry with hTry | hTry
  · obtain ⟨P_40, R_41, a_42, c_43, a_44, c_45, hU_46, rfl, hq_47, ho_48, hr_49, ho_50, hap_51, hg_52, hg_53, K_39⟩ := hTry
    have hTK : Ext w wT := hTw.new K_39 (fun x_ hx_ => by simp only [FT] at hx_; omega)
    replace K0 := hTK
    have pg_54 : ∀ x_, own a_42 x_ → w.heap.size ≤ x_ := fun x_ h_ => Nat.le_trans hTw.size (hg_52 x_ h_)
    have pg_55 : ∀ x_, own a_44 x_ → w.heap.size ≤ x_ := fun x_ h_ => Nat.le_trans hTw.size (hg_53 x_ h_)
    refine RL.val (x_assignI rfl) ?_
    refine RL.nil ?_
    refine Run.seq ?_
    refine Run.seq ?_
    refine Run.region ?_
    refine RL.val (x_moveI rfl) ?_
    refine RL.val (litF (x_neI rfl rfl) (by decide)) ?_
    refine RL.nil ?_
    refine Run.condF rfl ?_
    refine Run.skip ?_
    refine Run.seq ?_
    refine Run.draw' (m := 5) (by kernel_rfl) rfl ?_
    intro w_56 K_57
    replace hq_47 := hq_47.ext K_57
    replace hr_49 := hr_49.ext K_57
    replace ho_48 := ho_48.ext K_57
    replace ho_50 := ho_50.ext K_57
    replace K0 := K0.ext K_57
    refine RA.take (v := .slice (a_42) (P_40.length) (c_43)) 0 rfl (by kernel_rfl) rfl (by rintro _ rfl; exact (x_ld (v := .slice (a_42) (P_40.length) (c_43)) ty74 rfl rfl (hq_47.cl.field (i := 0) rfl))) ?_
    refine RA.take (v := .slice (a_44) (R_41.length) (c_45)) 1 rfl (by kernel_rfl) rfl (by rintro _ rfl; exact (x_ld (v := .slice (a_44) (R_41.length) (c_45)) ty74 rfl rfl (hr_49.cl.field (i := 0) rfl))) ?_
    refine RA.take (v := .slice (a_42) (P_40.length) (c_43)) 2 rfl (by kernel_rfl) rfl (by rintro _ rfl; exact (x_assignSl rfl)) ?_
    refine RA.take (v := .slice (a_44) (R_41.length) (c_45)) 3 rfl (by kernel_rfl) rfl (by rintro _ rfl; exact (x_assignSl rfl)) ?_
    refine RA.take (v := .int .i64 (0)) 4 rfl (by kernel_rfl) rfl (by rintro _ rfl; exact (x_assignI rfl)) ?_
    refine RA.done (by kernel_rfl) ?_
    refine Run.ret3 (v := .slice (a_42) (P_40.length) (c_43)) (x := .slice (a_44) (R_41.length) (c_45)) (y := .int .i64 (0)) Tryz.func239 rfl rfl rfl rfl ?_
    exact ⟨_, rfl, .inl ⟨_, _, _, _, _, _, hU_46, rfl, ho_48, ho_50, hap_51, pg_54, pg_55, K0⟩⟩
  · obtain ⟨e, hU_58, rfl, K_59⟩ := hTry
    have hTK : Ext w wT := hTw.new K_59 (fun x_ hx_ => by simp only [FT] at hx_; omega)
    have hene := unfR_err hU_58
    replace K0 := hTK
    refine RL.val (x_assignI rfl) ?_
    refine RL.nil ?_
    refine Run.seq ?_
    refine Run.seq ?_
    refine Run.region ?_
    refine RL.val (x_moveI rfl) ?_
    refine RL.val (x_neI rfl rfl) ?_
    refine RL.nil ?_
    refine Run.cond rfl (fun hc14 => ?_) (fun hc14 => ?_)
    · try simp only [br] at hc14
      refine Run.seq ?_
      refine Run.region ?_
      refine RL.val (x_moveI rfl) ?_
      refine RL.val (x_assignSl rfl) ?_
      refine RL.val (x_assignSl rfl) ?_
      refine RL.val (x_assignI rfl) ?_
      refine RL.nil ?_
      refine Run.ret3 (v := .slice (none) (0) (0)) (x := .slice (none) (0) (0)) (y := .int .i64 (e)) Tryz.func239 rfl rfl rfl rfl ?_
      exact ⟨_, rfl, .inr ⟨_, hU_58, rfl, K0⟩⟩
    · try simp only [br] at hc14
      exact absurd hc14 hene

end Go.Proofs.YtnphndfbgdkgbaaGreatDoor
