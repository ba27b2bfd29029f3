/-
  Layer 7: tears, begun; SeglogReplaced.
-/
import Derived.Test.YtlhepanmdchjoaaGreatDoorRows
import Derived.Test.YtlhepanmdchjoaaGreatDoorYi
namespace Go.Proofs.YtlhepanmdchjoaaGreatDoor
attribute [local irreducible] St1 RL RA RT RT1 Run
attribute [local irreducible] crcN crcL crcS crcB numL leL unfR nameS segsL sortZ segI segO hasP restP
attribute [local irreducible] readAll mayP frameB

def tearsC (pl : List PF) (keep : Int) : List TearC := (namesS pl).map fun n => ⟨n, ((kpt keep (sizeB pl n - syncB pl n) : Nat) : Int), ⟨none, 0, 0⟩⟩
theorem tears_snoc {pl : List PF} {keep : Int} {i : Nat} {n : ByteArray} (h : (namesS pl)[i]? = some n) : (tearsC pl keep).take (i + 1) = (tearsC pl keep).take i ++ [⟨n, ((kpt keep (sizeB pl n - syncB pl n) : Nat) : Int), ⟨none, 0, 0⟩⟩] := by
  rw [List.take_add_one, tearsC, List.getElem?_map, h]; rfl
theorem tearsC_len (pl : List PF) (keep : Int) : (tearsC pl keep).length = (namesS pl).length := List.length_map ..
theorem syncB_le {room : Int} {pl : List PF} (h : PLOk room pl) (n : ByteArray) : syncB pl n ≤ sizeB pl n ∧ sizeB pl n ≤ 16777216 := by
  refine ⟨?_, sizeB_le h n⟩
  rw [syncB, sizeB]
  cases hl : lookL pl n with
  | none => exact Nat.le_refl _
  | some f =>
    have := h.sync f (List.mem_of_find?_eq_some hl)
    exact this
theorem tears_at {room : Int} {pl : List PF} (h : PLOk room pl) (w : World) (keep : Int) : TearsAt w (tearsC pl keep) (tearsP pl keep) := by
  refine ⟨by rw [tearsC, tearsP, List.length_map, List.length_map], fun i t p h1 h2 => ?_, fun p hp => ?_⟩
  · rw [tearsC, List.getElem?_map, Option.map_eq_some_iff] at h1
    rw [tearsP, List.getElem?_map, Option.map_eq_some_iff] at h2
    obtain ⟨n, hn, rfl⟩ := h1
    obtain ⟨m, hm, rfl⟩ := h2
    rw [hn] at hm
    cases hm
    exact ⟨rfl, rfl, rfl, .inl rfl⟩
  · rw [tearsP, List.mem_map] at hp
    obtain ⟨n, hn, rfl⟩ := hp
    obtain ⟨i, hi⟩ := List.getElem?_of_mem hn
    have h1 := names_may h hi
    have h2 := syncB_le h n
    have h3 := kpt_le keep (sizeB pl n - syncB pl n)
    simp only [List.length_nil]
    omega
theorem kpt_val (keep : Int) (a b : Nat) (h : b ≤ a) (h2 : a ≤ 16777216) : IntKind.i64.wrap ((IntKind.u64.wrap keep).tmod (IntKind.u64.wrap (((a : Nat) : Int) - ((b : Nat) : Int) + 1))) = ((kpt keep (a - b) : Nat) : Int) := by
  have hw : ∀ z, IntKind.u64.wrap z = z % 18446744073709551616 := fun z => by simp [IntKind.wrap, IntKind.bits, IntKind.signed]
  have h1 : IntKind.u64.wrap (((a : Nat) : Int) - ((b : Nat) : Int) + 1) = ((a - b + 1 : Nat) : Int) := by rw [hw]; omega
  rw [h1, hw, Int.tmod_eq_emod_of_nonneg (by omega)]
  have hk := kpt_le keep (a - b)
  have e : (keep % 18446744073709551616) % ((a - b + 1 : Nat) : Int) = ((kpt keep (a - b) : Nat) : Int) := by
    obtain ⟨k, hk⟩ : ∃ k : Nat, keep % 18446744073709551616 = k := ⟨(keep % 18446744073709551616).toNat, by omega⟩
    rw [kpt, hk, Int.toNat_natCast]; omega
  rw [e, wrap64 _ (by omega) (by omega)]
theorem kpt_ne {a b : Nat} (h : b ≤ a) (h2 : a ≤ 16777216) : IntKind.u64.wrap (((a : Nat) : Int) - ((b : Nat) : Int) + 1) ≠ 0 := by
  have hw : ∀ z, IntKind.u64.wrap z = z % 18446744073709551616 := fun z => by simp [IntKind.wrap, IntKind.bits, IntKind.signed]
  rw [hw]; omega
theorem map_take {rs : List RB} {i : Nat} {r : RB} (h : rs[i]? = some r) : (rs.map RB.b).take (i + 1) = (rs.map RB.b).take i ++ [r.b] := by
  have g1 : (rs.map RB.b)[i]? = some r.b := by rw [List.getElem?_map, h]; rfl
  rw [List.take_add_one, g1]; rfl
theorem take_bs {rs : List RB} {P : List UInt8 → Prop} (h : ∀ r ∈ rs, P r.b) (i : Nat) : ∀ p ∈ (rs.map RB.b).take i, P p := fun p hp => by
  obtain ⟨r, hr, rfl⟩ := List.mem_map.1 (List.mem_of_mem_take hp)
  exact h r hr
theorem map_bs {rs : List RB} {P : List UInt8 → Prop} (h : ∀ r ∈ rs, P r.b) : ∀ p ∈ rs.map RB.b, P p := fun p hp => by
  obtain ⟨r, hr, rfl⟩ := List.mem_map.1 hp
  exact h r hr
theorem allB_sum {rs : List RB} (h : ∀ r ∈ rs, 0 < r.b.length ∧ r.b.length ≤ 5000) (hl : rs.length ≤ 25) : (allB rs rs.length).length ≤ 1073741824 := by
  have h1 := lenF_le (map_bs (P := fun p => p.length ≤ 5000) fun r hr => (h r hr).2)
  have h2 := frameB_len [] (by decide)
  rw [lenF, List.length_map] at h1
  rw [allB_all, List.length_append]
  simp only [List.length_nil] at h2
  omega
attribute [local irreducible] openP appendP replaceP syncP

theorem en17 : Enters Tryz.prog 17 := enters_of Tryz.func17 rfl (by kernel_rfl)
theorem en20 : Enters Tryz.prog 20 := enters_of Tryz.func20 rfl (by kernel_rfl)
theorem en21 : Enters Tryz.prog 21 := enters_of Tryz.func21 rfl (by kernel_rfl)
theorem en22 : Enters Tryz.prog 22 := enters_of Tryz.func22 rfl (by kernel_rfl)

set_option maxRecDepth 100000 in
set_option maxHeartbeats 4000000 in
theorem tears7_ (d : Nat) (F : Nat → Prop) (room : Int) (pl : List PF) (keep : Int) (w : World) (hD : DiskAt w d F room pl) :
    Calls Tryz.prog 22 #[.pointer (some ⟨d, 0, none⟩), .int .i64 (keep)] w (Ret (fun v w' => ∃ a' c', v = .slice a' (tearsC pl keep).length c' ∧ OwnSl w' 98 a' c' (tearsC pl keep) ∧ (∀ q, own a' q → w.heap.size ≤ q) ∧ Ext w w')) := by
  have hok := hD.ok
  have hnl : (namesS pl).length ≤ 64 := by rw [namesS, sortN_mem.length_eq, List.length_map]; exact hok.len
  have htl := tearsC_len pl keep
  refine calls_run (n := 41) Tryz.func22 rfl rfl rfl ?_
  refine Run.seq ?_
  refine Run.region ?_
  refine RL.val (x_assignSl rfl) ?_
  refine RL.nil ?_
  refine Run.seq ?_
  refine Run.region ?_
  refine RL.val (x_assignSl rfl) ?_
  refine RL.nil ?_
  refine Run.seq ?_
  refine Run.seq ?_
  refine Run.region ?_
  refine RL.val (x_moveP rfl) ?_
  refine RL.st rfl <| St1.call (vals := [.pointer (some ⟨d, 0, none⟩)]) en24 rfl (filesD hD) ?_
  rintro _ w_3 ⟨a_1, c_2, rfl, ho_4, hg_5, K_6⟩
  have pr_7 : ∀ q_, own a_1 q_ → ¬ F q_ := apartNew hg_5 hD.own_lt
  have pg_8 : ∀ q_, own a_1 q_ → w.heap.size ≤ q_ := fun q_ h => Nat.le_trans (Nat.le_refl _) (hg_5 q_ h)
  clear hg_5
  replace hD := hD.ext K_6
  have K0 := (K_6 : Ext w _)
  refine RL.val (x_lenSl Tryz.underlying61 rfl) ?_
  refine RL.val (x_moveI rfl) ?_
  refine RL.nil ?_
  refine Run.block ?_
  refine Run.loop (ι := Nat) (fun i ρ' w' => ∃ az : Option Addr, ∃ cz : Nat, Holds ρ' [(0, .pointer (some ⟨d, 0, none⟩)), (1, .int .i64 (keep)), (5, .slice (az) (((tearsC pl keep).take i).length) (cz)), (12, .slice (a_1) ((namesS pl).length) (c_2)), (13, .int .i64 ((((namesS pl).length : Nat) : Int))), (14, .int .i64 (((i : Nat) : Int)))] ∧ Ext w w' ∧ (DiskAt w' d F room pl) ∧ (OwnSl w' 9 (a_1) (c_2) (namesS pl)) ∧ (OwnSl w' 98 az cz ((tearsC pl keep).take i)) ∧ (∀ q_, own az q_ → ¬ F q_) ∧ (∀ q_, own az q_ → ¬ own a_1 q_) ∧ (∀ q_, own az q_ → w.heap.size ≤ q_) ∧ (i ≤ (namesS pl).length)) (fun i => (namesS pl).length - i) 0 ?_ ?_
  · rw [show (tearsC pl keep).take 0 = [] from List.take_zero]
    have ho_15 := OwnSl.nil (α := TearC) w_3 98
    refine ⟨_, _, ⟨rfl, rfl, rfl, rfl, rfl, rfl, trivial⟩, K0, hD, ho_4, ho_15, (fun q_ h1 _ => own_none q_ h1), (fun q_ h1 _ => own_none q_ h1), (fun q_ h1 => absurd h1 (own_none q_)), ?_⟩
    · omega
  clear hD ho_4
  clear K0
  rintro i ρ_16 w_9 ⟨az, cz, hH_10, K0, hD, ho_4, ho_11, pr_12, pr_13, pr_14, hi⟩ ih1
  obtain ⟨ρ₀, rfl⟩ := hH_10.ex
  clear hH_10
  refine Run.seq ?_
  refine Run.region ?_
  refine RL.val (x_ltI rfl rfl) ?_
  refine RL.nil ?_
  refine Run.seq ?_
  refine Run.cond rfl (fun hc15 => ?_) (fun hc15 => ?_)
  · try simp only [br] at hc15
    refine Run.skip ?_
    refine Run.seq ?_
    refine Run.block ?_
    refine Run.seq ?_
    refine Run.region ?_
    obtain ⟨b_17, o_18, s, hs, ha_19, hc_20⟩ := ho_4.sl.el (i := i) (by first | omega | (simp only [List.length_set]; omega))
    refine RL.val (x_idxN Tryz.underlying61 ty9 rfl rfl ha_19 (by first | omega | (simp only [List.length_set]; omega))) ?_
    refine RL.val (x_ldV (v := .string (s)) (y := s) ty9 rfl hc_20 rfl) ?_
    refine RL.val (x_assignS rfl) ?_
    refine RL.nil ?_
    obtain ⟨hz0, hz1⟩ := names_may hok hs
    obtain ⟨hz2, hz3⟩ := syncB_le hok s
    have htk : ((tearsC pl keep).take i).length ≤ (tearsC pl keep).length := by rw [List.length_take]; omega
    refine Run.seq ?_
    refine Run.region ?_
    refine RL.val (x_moveP rfl) ?_
    refine RL.val (x_moveS rfl) ?_
    refine RL.st rfl <| St1.call (vals := [.pointer (some ⟨d, 0, none⟩), .string (s)]) en39 rfl (sizeD hD s (by first | omega | decide)) ?_
    rintro _ w_23 ⟨rfl, K_24⟩
    replace hD := hD.ext K_24
    replace ho_4 := ho_4.ext K_24
    replace ho_11 := ho_11.ext K_24
    replace K0 := K0.ext K_24
    refine RL.val (x_moveT rfl) ?_
    refine RL.val (x_extract rfl rfl) ?_
    refine RL.val (x_extract rfl rfl) ?_
    refine RL.val (x_extract rfl rfl) ?_
    refine RL.val (x_assignI rfl) ?_
    refine RL.val (x_assignI rfl) ?_
    refine RL.val (x_assignI rfl) ?_
    refine RL.nil ?_
    refine Run.region ?_
    refine RL.val (x_moveSl rfl) ?_
    refine RL.val (x_moveS rfl) ?_
    refine RL.val (x_moveI rfl) ?_
    refine RL.val (x_convI rfl ⟨_, Tryz.underlying3⟩ Tryz.underlying23) ?_
    refine RL.val (x_moveI rfl) ?_
    refine RL.val (x_moveI rfl) ?_
    refine RL.val (x_sub rfl rfl (by omega) (by omega)) ?_
    refine RL.val (x_add rfl rfl (by omega) (by omega)) ?_
    refine RL.val (x_convI rfl ⟨_, Tryz.underlying3⟩ Tryz.underlying23) ?_
    refine RL.val (x_rem rfl rfl (kpt_ne hz2 hz3)) ?_
    refine RL.val (litI (c := ((kpt keep (sizeB pl s - syncB pl s) : Nat) : Int)) (x_convI rfl ⟨_, Tryz.underlying23⟩ Tryz.underlying3) (kpt_val keep _ _ hz2 hz3)) ?_
    refine RL.val (x_build (cells := #[.string (s), .int .i64 (((kpt keep (sizeB pl s - syncB pl s) : Nat) : Int)), .slice (none) (0) (0)]) (by kernel_rfl)) ?_
    refine RL.st rfl <| St1.buildSlice ([(⟨s, ((kpt keep (sizeB pl s - syncB pl s) : Nat) : Int), ⟨none, 0, 0⟩⟩ : TearC)] : List TearC) Tryz.underlying57 ty98 rfl rfl (by first | decide | (simp [Enc.size])) ?_
    intro b_25 w_26 hl_29 ho_28 K_27
    have pr_30 : ∀ q_, own (some ⟨b_25, 0, none⟩) q_ → ¬ F q_ := apartNew (ge_new hl_29) hD.own_lt
    have pr_31 : ∀ q_, own (some ⟨b_25, 0, none⟩) q_ → ¬ own a_1 q_ := apartNew (ge_new hl_29) ho_4.own_lt
    have pr_32 : ∀ q_, own (some ⟨b_25, 0, none⟩) q_ → ¬ own az q_ := apartNew (ge_new hl_29) ho_11.own_lt
    have pg_33 : ∀ q_, own (some ⟨b_25, 0, none⟩) q_ → w.heap.size ≤ q_ := fun q_ h => Nat.le_trans K0.size ((ge_new hl_29) q_ h)
    clear hl_29
    replace hD := hD.ext K_27
    replace ho_4 := ho_4.ext K_27
    replace ho_11 := ho_11.ext K_27
    replace K0 := K0.ext K_27
    refine RL.st rfl <| St1.append (xs := (tearsC pl keep).take i) (ys := ([(⟨s, ((kpt keep (sizeB pl s - syncB pl s) : Nat) : Int), ⟨none, 0, 0⟩⟩ : TearC)] : List TearC)) Tryz.underlying57 ty98 rfl rfl rfl ho_11 ho_28.sl (by first | omega | (simp only [lr]; omega)) (by decide) ?_
    intro a_34 c_35 w_36 ho_37 K_38 hm_39 hrm_40
    have pr_41 : ∀ q_, own a_34 q_ → ¬ F q_ := hm_39.apart pr_12 hD.own_lt
    have pr_42 : ∀ q_, own a_34 q_ → ¬ own a_1 q_ := hm_39.apart pr_13 ho_4.own_lt
    have pr_43 : ∀ q_, own a_34 q_ → ¬ own (some ⟨b_25, 0, none⟩) q_ := hm_39.apart (fun q_ h1 h2 => pr_32 q_ h2 h1) ho_28.own_lt
    have pg_44 : ∀ q_, own a_34 q_ → w.heap.size ≤ q_ := hm_39.ge pr_14 K0.size
    replace hD := hD.keepO K_38 (fun q_ h1 h2 => pr_12 q_ h2 h1)
    replace ho_4 := ho_4.keepO K_38 (fun q_ h1 h2 => pr_13 q_ h2 h1)
    replace ho_28 := ho_28.keepO K_38 pr_32
    replace K0 := K0.new K_38 pr_14
    clear hm_39
    clear hrm_40
    refine RL.val (x_assignSl rfl) ?_
    refine RL.nil ?_
    refine Run.inBlock ?_
    refine Run.region ?_
    refine RL.val (litI (c := ((i + 1 : Nat) : Int)) (x_add rfl rfl (by omega) (by omega)) rfl) ?_
    refine RL.val (x_moveI rfl) ?_
    refine RL.nil ?_
    refine ih1 (i + 1) _ _ ?_ (by omega)
    rw [tears_snoc hs]
    refine ⟨_, _, ⟨rfl, rfl, rfl, rfl, rfl, rfl, trivial⟩, K0, hD, ho_4, ho_37, pr_41, pr_42, pg_44, ?_⟩
    · omega
  · try simp only [br] at hc15
    refine Run.exit rfl ?_
    refine Run.seq ?_
    refine Run.region ?_
    refine RL.val (x_moveSl rfl) ?_
    refine RL.val (x_assignSl rfl) ?_
    refine RL.nil ?_
    refine Run.ret1 (v := .slice (az) (((tearsC pl keep).take i).length) (cz)) Tryz.func22 rfl rfl ?_
    have hie : i = (namesS pl).length := by omega
    subst hie
    have e_ : (tearsC pl keep).take (namesS pl).length = tearsC pl keep := List.take_of_length_le (by rw [tearsC_len]; exact Nat.le_refl _)
    rw [e_] at ho_11 ⊢
    exact ⟨_, rfl, az, cz, rfl, ho_11, pr_14, K0⟩

set_option maxRecDepth 100000 in
set_option maxHeartbeats 4000000 in
theorem begun7_ (w : World) (hL : LaidOk w) :
    Calls Tryz.prog 20 #[] w (Ret (fun v w' => ∃ d b F, v = .tuple #[.pointer (some ⟨d, 0, none⟩), .pointer (some ⟨b, 0, none⟩), .bool true] ∧ DiskAt w' d F 4194304 [] ∧ Blk w' b [.pointer (some ⟨d, 0, none⟩)] 42 ∧ ¬ F b ∧ (∀ q, F q → w.heap.size ≤ q) ∧ w.heap.size ≤ b ∧ Ext w w')) := by
  have hLs := hL.size
  refine calls_run (n := 35) Tryz.func20 rfl rfl rfl ?_
  refine Run.seq ?_
  refine Run.region ?_
  refine RL.val (x_assignP rfl) ?_
  refine RL.val (x_assignP rfl) ?_
  refine RL.val (x_assignB rfl) ?_
  refine RL.nil ?_
  refine Run.seq ?_
  refine Run.region ?_
  refine RL.st rfl <| St1.call (vals := [.int .i64 (4194304)]) en8 rfl (newDk 4194304 _ (by decide)) ?_
  rintro _ w_3 ⟨d_1, F_2, rfl, hD_4, hg_5, K_6⟩
  have pG_7 : ∀ q_, F_2 q_ → 5 ≤ q_ := fun q_ h_ => Nat.le_trans hLs (Nat.le_trans (Nat.le_refl _) (hg_5 q_ h_))
  have pg_8 : ∀ q_, F_2 q_ → w.heap.size ≤ q_ := fun q_ h => Nat.le_trans (Nat.le_refl _) (hg_5 q_ h)
  clear hg_5
  replace hL := hL.ext K_6
  have K0 := (K_6 : Ext w _)
  refine RL.val (x_moveT rfl) ?_
  refine RL.val (x_extract rfl rfl) ?_
  refine RL.val (x_extract rfl rfl) ?_
  refine RL.val (x_assignP rfl) ?_
  refine RL.val (x_assignI rfl) ?_
  refine RL.nil ?_
  refine Run.seq ?_
  refine Run.region ?_
  refine RL.val (x_moveP rfl) ?_
  refine RL.st rfl <| St1.call (vals := [.pointer (some ⟨d_1, 0, none⟩)]) en9 rfl (open7_ _ _ _ _ _ hD_4 hL pG_7) ?_
  rintro vv w_10 ⟨F_9, hD_11, hm_12, K_13, hcs_14⟩
  rcases hcs_14 with hcs_14 | hcs_14
  · obtain ⟨he_15, a_16, c_17, rs_18, b_27, rfl, hb_28, hbF_29, hbl_30, ho_19, hR_20, hms_21, hg_22, hg_23, hap_24, hf_25, hf_26⟩ := hcs_14
    have pr_31 : ∀ q_, own a_16 q_ → ¬ F_2 q_ := apartNew hg_22 hD_4.own_lt
    have pg_32 : ∀ q_, own a_16 q_ → w.heap.size ≤ q_ := fun q_ h => Nat.le_trans K0.size (hg_22 q_ h)
    have pr_33 : ∀ q_, recsS (rs_18) q_ → ¬ F_2 q_ := apartNew hg_23 hD_4.own_lt
    have pg_34 : ∀ q_, recsS (rs_18) q_ → w.heap.size ≤ q_ := fun q_ h => Nat.le_trans K0.size (hg_23 q_ h)
    have : w.heap.size ≤ b_27 := Nat.le_trans K0.size hbl_30
    have pg_35 : ∀ q_, F_9 q_ → w.heap.size ≤ q_ := hm_12.ge pg_8 K0.size
    have pG_36 : ∀ q_, F_9 q_ → 5 ≤ q_ := fun q_ h_ => (hm_12 q_ h_).elim (pG_7 q_) (fun h2_ => Nat.le_trans hLs (Nat.le_trans K0.size h2_))
    replace hL := hL.keep K_13 pG_7
    replace K0 := K0.new K_13 pg_8
    clear hm_12
    rw [show (openP 4194304 ([] : List PF)).2.2 = ([] : List PF) from by rw [open_nil]] at hD_11
    refine RL.val (x_moveT rfl) ?_
    refine RL.val (x_extract rfl rfl) ?_
    refine RL.val (x_extract rfl rfl) ?_
    refine RL.val (x_extract rfl rfl) ?_
    refine RL.val (x_assignP rfl) ?_
    refine RL.val (x_assignSl rfl) ?_
    refine RL.val (x_assignI rfl) ?_
    refine RL.nil ?_
    refine Run.seq ?_
    refine Run.region ?_
    refine RL.val (x_moveP rfl) ?_
    refine RL.val (x_moveP rfl) ?_
    refine RL.val (x_moveI rfl) ?_
    refine RL.val (litT (x_eqI rfl rfl) (by decide)) ?_
    refine RL.val (x_moveB rfl) ?_
    refine RL.gst (wantedT1 rfl rfl rfl rfl) <| St1.val (x_moveI rfl) ?_
    refine RL.gst (wantedT1 rfl rfl rfl rfl) <| St1.val (litT (x_eqI rfl rfl) (by decide)) ?_
    refine RL.val (x_andT rfl rfl rfl) ?_
    refine RL.val (x_moveB rfl) ?_
    refine RL.gst (wantedT1 rfl rfl rfl rfl) <| St1.val (x_moveSl rfl) ?_
    refine RL.gst (wantedT1 rfl rfl rfl rfl) <| St1.val (x_lenSl Tryz.underlying22 rfl) ?_
    refine RL.gst (wantedT1 rfl rfl rfl rfl) <| St1.val (litT (x_eqI rfl rfl) (by rw [beq_iff_eq]; have h9 := congrArg List.length (hms_21.trans (show (openP 4194304 ([] : List PF)).2.1 = [] by rw [open_nil])); simp at h9; simp [h9])) ?_
    refine RL.val (x_andT rfl rfl rfl) ?_
    refine RL.val (x_moveB rfl) ?_
    refine RL.gst (wantedT1 rfl rfl rfl rfl) <| St1.val (x_moveP rfl) ?_
    refine RL.gst (wantedT1 rfl rfl rfl rfl) <| St1.val (litT (x_ptrNotNil Tryz.underlying28 rfl rfl) rfl) ?_
    refine RL.val (x_andT rfl rfl rfl) ?_
    refine RL.val (x_assignP rfl) ?_
    refine RL.val (x_assignP rfl) ?_
    refine RL.val (x_assignB rfl) ?_
    refine RL.nil ?_
    refine Run.ret3 (v := .pointer (some ⟨d_1, 0, none⟩)) (x := .pointer (some ⟨b_27, 0, none⟩)) (y := .bool (true)) Tryz.func20 rfl rfl rfl rfl ?_
    exact ⟨_, rfl, d_1, b_27, F_9, rfl, hD_11, hb_28, hbF_29, pg_35, by omega, K0⟩
  · exact absurd (by rw [open_nil]) hcs_14.1

set_option maxRecDepth 100000 in
set_option maxHeartbeats 4000000 in
theorem law_replaced (a : Option Addr) (rs : List RB) (c : Nat) (a2 : Option Addr) (ts : List RB) (c2 : Nat) (keep : Int) (w : World) (hs : SlOf w a (rs.map RB.h)) (hs2 : SlOf w a2 (ts.map RB.h)) (hl : rs.length ≤ 4294967295) (hl2 : ts.length ≤ 4294967295) (hQ : RecsQ w rs) (hQ2 : RecsQ w ts) (hL : LaidOk w) :
    Calls Tryz.prog 6 #[.slice (a) ((rs.map RB.h).length) (c), .slice (a2) ((ts.map RB.h).length) (c2), .int .i64 (keep)] w (Ret (fun v w' => v = .bool true ∧ Ext w w')) := by
  have hLs := hL.size
  obtain ⟨husk, husl, husm⟩ := usual_ok rs
  obtain ⟨husk2, husl2, husm2⟩ := usual_ok ts
  have hrlu : ((usualR rs).map RB.h).length = (usualR rs).length := List.length_map ..
  have hrlu2 : ((usualR ts).map RB.h).length = (usualR ts).length := List.length_map ..
  refine calls_run (n := 68) Tryz.func6 rfl rfl rfl ?_
  refine Run.seq ?_
  refine Run.region ?_
  refine RL.val (x_assignB rfl) ?_
  refine RL.nil ?_
  refine Run.seq ?_
  refine Run.region ?_
  refine RL.st rfl <| St1.call (vals := []) en20 rfl (begun7_ _ hL) ?_
  rintro _ w_4 ⟨d_1, b_2, F_3, rfl, hD_5, hb_6, hbd_7, hg_8, hl_9, K_10⟩
  have pG_11 : ∀ q_, F_3 q_ → 5 ≤ q_ := fun q_ h_ => Nat.le_trans hLs (Nat.le_trans (Nat.le_refl _) (hg_8 q_ h_))
  have pg_12 : ∀ q_, F_3 q_ → w.heap.size ≤ q_ := fun q_ h => Nat.le_trans (Nat.le_refl _) (hg_8 q_ h)
  have : w.heap.size ≤ b_2 := Nat.le_trans (Nat.le_refl _) hl_9
  replace hL := hL.ext K_10
  have K0 := (K_10 : Ext w _)
  refine RL.val (x_moveT rfl) ?_
  refine RL.val (x_extract rfl rfl) ?_
  refine RL.val (x_extract rfl rfl) ?_
  refine RL.val (x_extract rfl rfl) ?_
  refine RL.val (x_assignP rfl) ?_
  refine RL.val (x_assignP rfl) ?_
  refine RL.val (x_assignB rfl) ?_
  refine RL.nil ?_
  refine Run.seq ?_
  refine Run.seq ?_
  refine Run.region ?_
  refine RL.val (x_moveB rfl) ?_
  refine RL.val (x_not (b := true) rfl) ?_
  refine RL.nil ?_
  refine Run.condF rfl ?_
  refine Run.skip ?_
  refine Run.seq ?_
  refine Run.region ?_
  refine RL.val (x_moveSl rfl) ?_
  refine RL.st rfl <| St1.call (vals := [.slice (a) ((rs.map RB.h).length) (c)]) en10 rfl (usual_ _ _ _ _ (hs.ext K0) (by omega)) ?_
  rintro _ w_15 ⟨a_13, c_14, rfl, ho_16, hg_17, K_18⟩
  have pr_19 : ∀ q_, own a_13 q_ → ¬ F_3 q_ := apartNew hg_17 hD_5.own_lt
  have pr_20 : ¬ own a_13 b_2 := notNew hg_17 hb_6.lt
  have pg_21 : ∀ q_, own a_13 q_ → w.heap.size ≤ q_ := fun q_ h => Nat.le_trans K0.size (hg_17 q_ h)
  clear hg_17
  replace hL := hL.ext K_18
  replace hD_5 := hD_5.ext K_18
  replace hb_6 := hb_6.ext K_18
  replace K0 := K0.ext K_18
  refine RL.val (x_moveSl rfl) ?_
  refine RL.st rfl <| St1.call (vals := [.slice (a2) ((ts.map RB.h).length) (c2)]) en10 rfl (usual_ _ _ _ _ (hs2.ext K0) (by omega)) ?_
  rintro _ w_24 ⟨a_22, c_23, rfl, ho_25, hg_26, K_27⟩
  have pr_28 : ∀ q_, own a_22 q_ → ¬ F_3 q_ := apartNew hg_26 hD_5.own_lt
  have pr_29 : ¬ own a_22 b_2 := notNew hg_26 hb_6.lt
  have pr_30 : ∀ q_, own a_22 q_ → ¬ own a_13 q_ := apartNew hg_26 ho_16.own_lt
  have pg_31 : ∀ q_, own a_22 q_ → w.heap.size ≤ q_ := fun q_ h => Nat.le_trans K0.size (hg_26 q_ h)
  clear hg_26
  replace hL := hL.ext K_27
  replace hD_5 := hD_5.ext K_27
  replace hb_6 := hb_6.ext K_27
  replace ho_16 := ho_16.ext K_27
  replace K0 := K0.ext K_27
  refine RL.val (x_assignSl rfl) ?_
  refine RL.val (x_assignSl rfl) ?_
  refine RL.nil ?_
  refine Run.seq ?_
  refine Run.seq ?_
  refine Run.region ?_
  refine RL.val (x_moveSl rfl) ?_
  refine RL.val (x_lenSl Tryz.underlying22 rfl) ?_
  refine RL.val (x_moveI rfl) ?_
  refine RL.nil ?_
  refine Run.block ?_
  refine Run.loop (ι := Nat) (fun i ρ' w' => ∃ plk : List PF, ∃ Fk : Nat → Prop, Holds ρ' [(1, .slice (a_22) (((usualR ts).map RB.h).length) (c_23)), (2, .int .i64 (keep)), (7, .pointer (some ⟨d_1, 0, none⟩)), (8, .pointer (some ⟨b_2, 0, none⟩)), (26, .slice (a_13) (((usualR rs).map RB.h).length) (c_14)), (27, .int .i64 (((((usualR rs).map RB.h).length : Nat) : Int))), (28, .int .i64 (((i : Nat) : Int)))] ∧ Ext w w' ∧ (LaidOk w') ∧ (Blk w' b_2 [.pointer (some ⟨d_1, 0, none⟩)] 42) ∧ (OwnSl w' 32 (a_13) (c_14) ((usualR rs).map RB.h)) ∧ (OwnSl w' 32 (a_22) (c_23) ((usualR ts).map RB.h)) ∧ (DiskAt w' d_1 Fk 4194304 plk) ∧ (¬ Fk b_2) ∧ (∀ q_, Fk q_ → ¬ own a_13 q_) ∧ (∀ q_, Fk q_ → ¬ own a_22 q_) ∧ (∀ q_, Fk q_ → w.heap.size ≤ q_) ∧ (∀ q_, Fk q_ → 5 ≤ q_) ∧ (i ≤ (usualR rs).length) ∧ (LogAt 0 (((usualR rs).map RB.b).take i) plk)) (fun i => (usualR rs).length - i) 0 ?_ ?_
  · refine ⟨([] : List PF), _, ⟨rfl, rfl, rfl, rfl, rfl, rfl, rfl, trivial⟩, K0, hL, hb_6, ho_16, ho_25, hD_5, hbd_7, (fun q_ h1 h2 => pr_19 q_ h2 h1), (fun q_ h1 h2 => pr_28 q_ h2 h1), pg_12, pG_11, ?_, ?_⟩
    · omega
    · exact logAt_nil
  clear hD_5 hb_6 ho_16 ho_25
  clear K0
  rintro i ρ_40 w_32 ⟨plk, Fk, hH_33, K0, hL, hb_6, ho_16, ho_25, hO_34, pr_35, pr_36, pr_37, pr_38, pr_39, hi, hLg⟩ ih1
  obtain ⟨ρ₀, rfl⟩ := hH_33.ex
  clear hH_33
  refine Run.seq ?_
  refine Run.region ?_
  refine RL.val (x_ltI rfl rfl) ?_
  refine RL.nil ?_
  refine Run.seq ?_
  refine Run.cond rfl (fun hc29 => ?_) (fun hc29 => ?_)
  · try simp only [br] at hc29
    refine Run.skip ?_
    refine Run.seq ?_
    refine Run.block ?_
    refine Run.seq ?_
    refine Run.region ?_
    obtain ⟨b_41, o_42, hh_, hh, ha_43, hc_44⟩ := ho_16.sl.el (i := i) (by first | omega | (simp only [List.length_set]; omega))
    refine RL.val (x_idxN Tryz.underlying22 ty32 rfl rfl ha_43 (by first | omega | (simp only [List.length_set]; omega))) ?_
    refine RL.val (x_ldV (v := .slice (hh_.a) (hh_.len) (hh_.cap)) (y := hh_) ty32 rfl hc_44 rfl) ?_
    refine RL.val (x_assignSl rfl) ?_
    refine RL.nil ?_
    obtain ⟨r, hr, hre, hrm⟩ := recsQ_at hh
    subst hre
    have hrl_ : r.h.len = r.b.length := rfl
    have hrk := husk r hrm
    have hrs := hQ r (husm r hrm)
    have hAp := hLg.append (b := r.b) hrk.1 hrk.2 (by rw [List.length_take, List.length_map]; omega) (take_bs (P := fun p => p.length ≤ 5000) (fun q hq => (husk q hq).2) i)
    refine Run.seq ?_
    refine Run.region ?_
    refine RL.val (x_moveP rfl) ?_
    refine RL.val (x_moveSl rfl) ?_
    refine RL.st rfl <| St1.call (vals := [.pointer (some ⟨b_2, 0, none⟩), .slice (r.a) (r.b.length) (r.c)]) en13 rfl (dcast (lappend_ _ _ _ _ _ _ r.b _ _ hb_6 hO_34 pr_35 hL pr_39 (hrs.ext K0) (fun x_ hx_ h_ => absurd (pr_38 _ h_) (by have := slOf_lt hrs (ne_of_len hrk.1) x_ hx_; omega))) hAp.1 rfl) ?_
    rintro _ w_48 ⟨F_47, rfl, hD_49, hm_50, K_51⟩
    have pr_52 : ¬ F_47 b_2 := hm_50.not pr_35 hb_6.lt
    have pr_53 : ∀ q_, F_47 q_ → ¬ own a_13 q_ := hm_50.apart pr_36 ho_16.own_lt
    have pr_54 : ∀ q_, F_47 q_ → ¬ own a_22 q_ := hm_50.apart pr_37 ho_25.own_lt
    have pg_55 : ∀ q_, F_47 q_ → w.heap.size ≤ q_ := hm_50.ge pr_38 K0.size
    have pG_56 : ∀ q_, F_47 q_ → 5 ≤ q_ := fun q_ h_ => (hm_50 q_ h_).elim (pr_39 q_) (fun h2_ => Nat.le_trans hLs (Nat.le_trans K0.size h2_))
    replace hL := hL.keep K_51 pr_39
    replace hb_6 := hb_6.keep K_51 pr_35
    replace ho_16 := ho_16.keepO K_51 (fun q_ h1 h2 => pr_36 q_ h2 h1)
    replace ho_25 := ho_25.keepO K_51 (fun q_ h1 h2 => pr_37 q_ h2 h1)
    replace K0 := K0.new K_51 pr_38
    clear hm_50
    refine RL.val (litF (x_neI rfl rfl) (by decide)) ?_
    refine RL.nil ?_
    refine Run.condF rfl ?_
    refine Run.skip ?_
    refine Run.inBlock ?_
    refine Run.region ?_
    refine RL.val (litI (c := ((i + 1 : Nat) : Int)) (x_add rfl rfl (by omega) (by omega)) rfl) ?_
    refine RL.val (x_moveI rfl) ?_
    refine RL.nil ?_
    refine ih1 (i + 1) _ _ ?_ (by omega)
    refine ⟨_, _, ⟨rfl, rfl, rfl, rfl, rfl, rfl, rfl, trivial⟩, K0, hL, hb_6, ho_16, ho_25, hD_49, pr_52, pr_53, pr_54, pg_55, pG_56, ?_, ?_⟩
    · omega
    · rw [map_take hr]; exact hAp.2
  · try simp only [br] at hc29
    refine Run.exit rfl ?_
    refine Run.seq ?_
    refine Run.seq ?_
    have hRp := hLg.replace (bs := (usualR ts).map RB.b) (by rw [List.length_take, List.length_map]; omega) (take_bs (P := fun p => p.length ≤ 5000) (fun q hq => (husk q hq).2) i) (by rw [List.length_map]; omega) (map_bs (P := fun p => 0 < p.length ∧ p.length ≤ 5000) husk2) keep
    refine Run.region ?_
    refine RL.val (x_moveP rfl) ?_
    refine RL.val (x_moveSl rfl) ?_
    refine RL.st rfl <| St1.call (vals := [.pointer (some ⟨b_2, 0, none⟩), .slice (a_22) (((usualR ts).map RB.h).length) (c_23)]) en17 rfl (dcast (lreplace_ _ _ _ _ _ _ (usualR ts) _ _ hb_6 hO_34 pr_35 hL pr_39 ho_25.sl (fun x_ hx_ => (fun q_ h1 h2 => pr_37 q_ h2 h1) _ ⟨x_, hx_, rfl⟩) (fun r hr => (hQ2 r (husm2 r hr)).ext K0) (fun r hr hne x_ hx_ h_ => absurd (pr_38 _ h_) (by have := slOf_lt (hQ2 r (husm2 r hr)) hne x_ hx_; omega)) (by omega) (allB_sum husk2 husl2)) hRp.1 rfl) ?_
    rintro _ w_58 ⟨F_57, rfl, hD_59, hm_60, K_61⟩
    have pr_62 : ¬ F_57 b_2 := hm_60.not pr_35 hb_6.lt
    have pr_63 : ∀ q_, F_57 q_ → ¬ own a_13 q_ := hm_60.apart pr_36 ho_16.own_lt
    have pr_64 : ∀ q_, F_57 q_ → ¬ own a_22 q_ := hm_60.apart pr_37 ho_25.own_lt
    have pg_65 : ∀ q_, F_57 q_ → w.heap.size ≤ q_ := hm_60.ge pr_38 K0.size
    have pG_66 : ∀ q_, F_57 q_ → 5 ≤ q_ := fun q_ h_ => (hm_60 q_ h_).elim (pr_39 q_) (fun h2_ => Nat.le_trans hLs (Nat.le_trans K0.size h2_))
    replace hL := hL.keep K_61 pr_39
    replace hb_6 := hb_6.keep K_61 pr_35
    replace ho_16 := ho_16.keepO K_61 (fun q_ h1 h2 => pr_36 q_ h2 h1)
    replace ho_25 := ho_25.keepO K_61 (fun q_ h1 h2 => pr_37 q_ h2 h1)
    replace K0 := K0.new K_61 pr_38
    clear hm_60
    refine RL.val (litF (x_neI rfl rfl) (by decide)) ?_
    refine RL.val (x_moveB rfl) ?_
    refine RL.gst (wantedF1 rfl rfl rfl rfl) <| St1.val (x_moveP rfl) ?_
    refine RL.gst (wantedF1 rfl rfl rfl rfl) <| St1.call (vals := [.pointer (some ⟨b_2, 0, none⟩)]) en18 rfl (lsegs_ _ _ _ _ _ _ hb_6 hD_59 pr_62 hL) ?_
    rintro _ w_69 ⟨a_67, c_68, rfl, ho_70, hg_71, K_72⟩
    have pr_73 : ¬ own a_67 b_2 := notNew hg_71 hb_6.lt
    have pr_74 : ∀ q_, own a_67 q_ → ¬ own a_13 q_ := apartNew hg_71 ho_16.own_lt
    have pr_75 : ∀ q_, own a_67 q_ → ¬ own a_22 q_ := apartNew hg_71 ho_25.own_lt
    have pr_76 : ∀ q_, own a_67 q_ → ¬ F_57 q_ := apartNew hg_71 hD_59.own_lt
    have pg_77 : ∀ q_, own a_67 q_ → w.heap.size ≤ q_ := fun q_ h => Nat.le_trans K0.size (hg_71 q_ h)
    clear hg_71
    replace hL := hL.ext K_72
    replace hb_6 := hb_6.ext K_72
    replace ho_16 := ho_16.ext K_72
    replace ho_25 := ho_25.ext K_72
    replace hD_59 := hD_59.ext K_72
    replace K0 := K0.ext K_72
    refine RL.gst (wantedF1 rfl rfl rfl rfl) <| St1.val (x_lenSl Tryz.underlying47 rfl) ?_
    refine RL.gst (wantedF1 rfl rfl rfl rfl) <| St1.val (litF (x_neI rfl rfl) (by rw [hRp.2.1]; rfl)) ?_
    refine RL.val (x_orF rfl rfl rfl) ?_
    refine RL.val (x_moveB rfl) ?_
    refine RL.gst (wantedF1 rfl rfl rfl rfl) <| St1.val (x_moveP rfl) ?_
    refine RL.gst (wantedF1 rfl rfl rfl rfl) <| St1.val (x_moveP rfl) ?_
    refine RL.gst (wantedF1 rfl rfl rfl rfl) <| St1.val (x_moveI rfl) ?_
    refine RL.gst (wantedF1 rfl rfl rfl rfl) <| St1.call (vals := [.pointer (some ⟨d_1, 0, none⟩), .int .i64 (keep)]) en22 rfl (tears7_ _ _ _ _ keep _ hD_59) ?_
    rintro _ w_80 ⟨a_78, c_79, rfl, ho_81, hg_82, K_83⟩
    have pr_84 : ¬ own a_78 b_2 := notNew hg_82 hb_6.lt
    have pr_85 : ∀ q_, own a_78 q_ → ¬ own a_13 q_ := apartNew hg_82 ho_16.own_lt
    have pr_86 : ∀ q_, own a_78 q_ → ¬ own a_22 q_ := apartNew hg_82 ho_25.own_lt
    have pr_87 : ∀ q_, own a_78 q_ → ¬ F_57 q_ := apartNew hg_82 hD_59.own_lt
    have pr_88 : ∀ q_, own a_78 q_ → ¬ own a_67 q_ := apartNew hg_82 ho_70.own_lt
    have pg_89 : ∀ q_, own a_78 q_ → w.heap.size ≤ q_ := fun q_ h => Nat.le_trans K0.size (hg_82 q_ h)
    clear hg_82
    replace hL := hL.ext K_83
    replace hb_6 := hb_6.ext K_83
    replace ho_16 := ho_16.ext K_83
    replace ho_25 := ho_25.ext K_83
    replace hD_59 := hD_59.ext K_83
    replace ho_70 := ho_70.ext K_83
    replace K0 := K0.ext K_83
    have htl_ : (tearsC ((replaceP 4194304 plk ((usualR ts).map RB.b)).2) keep).length ≤ 64 := by rw [tearsC_len, namesS, sortN_mem.length_eq, List.length_map]; exact hD_59.ok.len
    refine RL.gst (wantedF1 rfl rfl rfl rfl) <| St1.call (vals := [.pointer (some ⟨d_1, 0, none⟩), .slice (a_78) ((tearsC ((replaceP 4194304 plk ((usualR ts).map RB.b)).2) keep).length) (c_79)]) en21 rfl (dcast (crashD hD_59 _ _ _ (tearsP ((replaceP 4194304 plk ((usualR ts).map RB.b)).2) keep) ho_81.sl (tears_at hD_59.ok _ _) (by omega)) (crash_tears keep hD_59.ok).1 (crash_tears keep hD_59.ok).2) ?_
    rintro _ w_91 ⟨F_90, rfl, hD_92, hm_93, K_94⟩
    have pr_95 : ¬ F_90 b_2 := hm_93.not pr_62 hb_6.lt
    have pr_96 : ∀ q_, F_90 q_ → ¬ own a_13 q_ := hm_93.apart pr_63 ho_16.own_lt
    have pr_97 : ∀ q_, F_90 q_ → ¬ own a_22 q_ := hm_93.apart pr_64 ho_25.own_lt
    have pr_98 : ∀ q_, F_90 q_ → ¬ own a_67 q_ := hm_93.apart (fun q_ h1 h2 => pr_76 q_ h2 h1) ho_70.own_lt
    have pr_99 : ∀ q_, F_90 q_ → ¬ own a_78 q_ := hm_93.apart (fun q_ h1 h2 => pr_87 q_ h2 h1) ho_81.own_lt
    have pg_100 : ∀ q_, F_90 q_ → w.heap.size ≤ q_ := hm_93.ge pg_65 K0.size
    have pG_101 : ∀ q_, F_90 q_ → 5 ≤ q_ := fun q_ h_ => (hm_93 q_ h_).elim (pG_66 q_) (fun h2_ => Nat.le_trans hLs (Nat.le_trans K0.size h2_))
    replace hL := hL.keep K_94 pG_66
    replace hb_6 := hb_6.keep K_94 pr_62
    replace ho_16 := ho_16.keepO K_94 (fun q_ h1 h2 => pr_63 q_ h2 h1)
    replace ho_25 := ho_25.keepO K_94 (fun q_ h1 h2 => pr_64 q_ h2 h1)
    replace ho_70 := ho_70.keepO K_94 pr_76
    replace ho_81 := ho_81.keepO K_94 pr_87
    replace K0 := K0.new K_94 pg_65
    clear hm_93
    refine RL.gst (wantedF1 rfl rfl rfl rfl) <| St1.val (litF (x_neI rfl rfl) (by decide)) ?_
    refine RL.val (x_orF rfl rfl rfl) ?_
    refine RL.nil ?_
    refine Run.condF rfl ?_
    refine Run.skip ?_
    refine Run.seq ?_
    refine Run.region ?_
    refine RL.val (x_moveP rfl) ?_
    refine RL.st rfl <| St1.call (vals := [.pointer (some ⟨d_1, 0, none⟩)]) en9 rfl (open7_ _ _ _ _ _ hD_92 hL pG_101) ?_
    rintro vv w_103 ⟨F_102, hD_104, hm_105, K_106, hcs_107⟩
    rcases hcs_107 with hcs_107 | hcs_107
    · obtain ⟨he_108, a_109, c_110, rs_111, b_120, rfl, hb_121, hbF_122, hbl_123, ho_112, hR_113, hms_114, hg_115, hg_116, hap_117, hf_118, hf_119⟩ := hcs_107
      have pr_124 : ¬ own a_109 b_2 := notNew hg_115 hb_6.lt
      have pr_125 : ∀ q_, own a_109 q_ → ¬ own a_13 q_ := apartNew hg_115 ho_16.own_lt
      have pr_126 : ∀ q_, own a_109 q_ → ¬ own a_22 q_ := apartNew hg_115 ho_25.own_lt
      have pr_127 : ∀ q_, own a_109 q_ → ¬ own a_67 q_ := apartNew hg_115 ho_70.own_lt
      have pr_128 : ∀ q_, own a_109 q_ → ¬ own a_78 q_ := apartNew hg_115 ho_81.own_lt
      have pr_129 : ∀ q_, own a_109 q_ → ¬ F_90 q_ := apartNew hg_115 hD_92.own_lt
      have pg_130 : ∀ q_, own a_109 q_ → w.heap.size ≤ q_ := fun q_ h => Nat.le_trans K0.size (hg_115 q_ h)
      have pr_131 : ¬ recsS (rs_111) b_2 := notNew hg_116 hb_6.lt
      have pr_132 : ∀ q_, recsS (rs_111) q_ → ¬ own a_13 q_ := apartNew hg_116 ho_16.own_lt
      have pr_133 : ∀ q_, recsS (rs_111) q_ → ¬ own a_22 q_ := apartNew hg_116 ho_25.own_lt
      have pr_134 : ∀ q_, recsS (rs_111) q_ → ¬ own a_67 q_ := apartNew hg_116 ho_70.own_lt
      have pr_135 : ∀ q_, recsS (rs_111) q_ → ¬ own a_78 q_ := apartNew hg_116 ho_81.own_lt
      have pr_136 : ∀ q_, recsS (rs_111) q_ → ¬ F_90 q_ := apartNew hg_116 hD_92.own_lt
      have pg_137 : ∀ q_, recsS (rs_111) q_ → w.heap.size ≤ q_ := fun q_ h => Nat.le_trans K0.size (hg_116 q_ h)
      have ne_138 : b_2 < b_120 := Nat.lt_of_lt_of_le hb_6.lt hbl_123
      have pr_139 : ¬ own a_13 b_120 := fun h_ => absurd (ho_16.own_lt _ h_) (by omega)
      have pr_140 : ¬ own a_22 b_120 := fun h_ => absurd (ho_25.own_lt _ h_) (by omega)
      have pr_141 : ¬ own a_67 b_120 := fun h_ => absurd (ho_70.own_lt _ h_) (by omega)
      have pr_142 : ¬ own a_78 b_120 := fun h_ => absurd (ho_81.own_lt _ h_) (by omega)
      have : w.heap.size ≤ b_120 := Nat.le_trans K0.size hbl_123
      have pr_143 : ¬ F_102 b_2 := hm_105.not pr_95 hb_6.lt
      have pr_144 : ∀ q_, F_102 q_ → ¬ own a_13 q_ := hm_105.apart pr_96 ho_16.own_lt
      have pr_145 : ∀ q_, F_102 q_ → ¬ own a_22 q_ := hm_105.apart pr_97 ho_25.own_lt
      have pr_146 : ∀ q_, F_102 q_ → ¬ own a_67 q_ := hm_105.apart pr_98 ho_70.own_lt
      have pr_147 : ∀ q_, F_102 q_ → ¬ own a_78 q_ := hm_105.apart pr_99 ho_81.own_lt
      have pg_148 : ∀ q_, F_102 q_ → w.heap.size ≤ q_ := hm_105.ge pg_100 K0.size
      have pG_149 : ∀ q_, F_102 q_ → 5 ≤ q_ := fun q_ h_ => (hm_105 q_ h_).elim (pG_101 q_) (fun h2_ => Nat.le_trans hLs (Nat.le_trans K0.size h2_))
      replace hL := hL.keep K_106 pG_101
      replace hb_6 := hb_6.keep K_106 pr_95
      replace ho_16 := ho_16.keepO K_106 (fun q_ h1 h2 => pr_96 q_ h2 h1)
      replace ho_25 := ho_25.keepO K_106 (fun q_ h1 h2 => pr_97 q_ h2 h1)
      replace ho_70 := ho_70.keepO K_106 (fun q_ h1 h2 => pr_98 q_ h2 h1)
      replace ho_81 := ho_81.keepO K_106 (fun q_ h1 h2 => pr_99 q_ h2 h1)
      replace K0 := K0.new K_106 pg_100
      clear hm_105
      refine RL.val (x_moveT rfl) ?_
      refine RL.val (x_extract rfl rfl) ?_
      refine RL.val (x_extract rfl rfl) ?_
      refine RL.val (x_extract rfl rfl) ?_
      refine RL.val (x_assignP rfl) ?_
      refine RL.val (x_assignSl rfl) ?_
      refine RL.val (x_assignI rfl) ?_
      refine RL.nil ?_
      have hEq := hms_114.trans hRp.2.2.2
      have hrl9 : rs_111.length = (usualR ts).length := by have h9 := congrArg List.length hEq; rw [List.length_map, List.length_map] at h9; exact h9
      have hrl8 : (rs_111.map RB.h).length = rs_111.length := List.length_map ..
      refine Run.seq ?_
      refine Run.region ?_
      refine RL.val (x_moveI rfl) ?_
      refine RL.val (litT (x_eqI rfl rfl) (by decide)) ?_
      refine RL.val (x_moveB rfl) ?_
      refine RL.gst (wantedT1 rfl rfl rfl rfl) <| St1.val (x_moveSl rfl) ?_
      refine RL.gst (wantedT1 rfl rfl rfl rfl) <| St1.val (x_moveSl rfl) ?_
      refine RL.gst (wantedT1 rfl rfl rfl rfl) <| St1.call (vals := [.slice (a_109) ((rs_111.map RB.h).length) (c_110), .slice (a_22) (((usualR ts).map RB.h).length) (c_23)]) en14 rfl (equalR_ _ rs_111 _ _ (usualR ts) _ _ ho_112.sl ho_25.sl (RecsO.q hR_113) (fun r hr => (hQ2 r (husm2 r hr)).ext K0) (by first | omega | (simp; omega)) (by first | omega | (simp; omega))) ?_
      rintro _ w_152 ⟨rfl, K_153⟩
      replace hL := hL.ext K_153
      replace hb_6 := hb_6.ext K_153
      replace ho_16 := ho_16.ext K_153
      replace ho_25 := ho_25.ext K_153
      replace ho_70 := ho_70.ext K_153
      replace ho_81 := ho_81.ext K_153
      replace hD_104 := hD_104.ext K_153
      replace ho_112 := ho_112.ext K_153
      replace hR_113 := hR_113.ext K_153
      replace hb_121 := hb_121.ext K_153
      replace K0 := K0.ext K_153
      refine RL.val (x_andT rfl rfl rfl) ?_
      refine RL.val (x_assignB rfl) ?_
      refine RL.nil ?_
      refine Run.ret1 (v := .bool (decide ((rs_111).map RB.b = (usualR ts).map RB.b))) Tryz.func6 rfl rfl ?_
      exact ⟨_, rfl, by rw [decide_eq_true hEq], K0⟩
    · exact absurd hRp.2.2.1 hcs_107.1

end Go.Proofs.YtlhepanmdchjoaaGreatDoor
