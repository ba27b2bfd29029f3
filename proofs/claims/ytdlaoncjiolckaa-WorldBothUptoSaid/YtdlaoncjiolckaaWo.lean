/-
  Layer 22: WorldBoth.
-/
import Derived.Test.YtdlaoncjiolckaaRows
import Derived.Test.YtdlaoncjiolckaaWn
namespace Go.Proofs.Ytdlaoncjiolckaa
attribute [local irreducible] St1 RL RA RT RT1 Run
structure CutC where
  a : Int
  b : Int
instance : Enc CutC := Enc.struct (fun t => [.int .i64 t.a, .int .i64 t.b]) 2 (fun _ => rfl) (fun _ v hv => by simp at hv; rcases hv with rfl | rfl <;> rfl) (by decide)

section
variable {n a b : Int} {cs : List LinkC}
theorem lk_comm : lk a b = lk b a := by unfold lk; rw [Int.min_comm, Int.max_comm]
theorem twoB_comm : twoB n a b = twoB n b a := by
  unfold twoB
  rw [Bool.and_comm (nodeB n a), decide_eq_decide.2 (show a ≠ b ↔ b ≠ a from ⟨Ne.symm, Ne.symm⟩)]
theorem linked_comm : linkedB n cs a b = linkedB n cs b a := by
  unfold linkedB
  rw [Bool.and_comm (nodeB n a), lk_comm]
theorem two_eq : (((((a != b) && decide (0 ≤ a)) && decide (a < n)) && decide (0 ≤ b)) && decide (b < n)) = twoB n a b := by
  unfold twoB nodeB
  rw [Bool.eq_iff_iff]
  simp only [Bool.and_eq_true, bne_iff_ne, decide_eq_true_eq]
  exact ⟨fun h => ⟨⟨⟨h.1.1.1.2, h.1.1.2⟩, ⟨h.1.2, h.2⟩⟩, h.1.1.1.1⟩, fun h => ⟨⟨⟨⟨h.2, h.1.1.1⟩, h.1.1.2⟩, h.1.2.1⟩, h.1.2.2⟩⟩
theorem two_nodes (h : twoB n a b = true) : nodeB n a = true ∧ nodeB n b = true := by
  unfold twoB at h
  simp only [Bool.and_eq_true] at h
  exact h.1
theorem linked_out (h : linkedB n cs a b = true) : lk a b ∉ cs := by
  unfold linkedB at h
  simp only [Bool.and_eq_true, Bool.not_eq_true', decide_eq_false_iff_not] at h
  exact h.2
theorem linked_in (h : linkedB n cs a b = false) (ht : twoB n a b = true) : lk a b ∈ cs := by
  obtain ⟨h1, h2⟩ := two_nodes ht
  unfold linkedB at h
  rw [h1, h2] at h
  simpa using h
theorem cutE_at (h : linkedB n cs a b = true) : cutE n cs b a = if twoB n a b = true then 0 else 1 := by
  unfold cutE
  rw [twoB_comm, lk_comm, if_neg (linked_out h)]
theorem mendE_at (h : linkedB n cs a b = false) : mendE n cs b a = if twoB n a b = true then 0 else 1 := by
  unfold mendE
  rw [twoB_comm, lk_comm]
  by_cases ht : twoB n a b = true
  · rw [if_pos ht, if_pos ht, if_pos (linked_in h ht)]
  · rw [if_neg ht, if_neg ht]
theorem both_e {E : Int} (h : E = if twoB n a b = true then 0 else 1) : ((E == 0) != twoB n a b) = false := by
  rw [h]
  cases twoB n a b <;> rfl
theorem both_cut (h : linkedB n cs a b = true) (ht : twoB n a b = true) : linkedB n (cutL n cs b a) a b = false := by
  obtain ⟨h1, h2⟩ := two_nodes ht
  unfold cutL
  rw [if_pos (by rw [cutE_at h, if_pos ht])]
  unfold linkedB
  rw [h1, h2, lk_comm]
  simp
theorem both_mend (h : linkedB n cs a b = false) (ht : twoB n a b = true) (hn : cs.Nodup) : linkedB n (mendL n cs b a) a b = true := by
  obtain ⟨h1, h2⟩ := two_nodes ht
  unfold mendL
  rw [if_pos (by rw [mendE_at h, if_pos ht])]
  unfold linkedB
  rw [h1, h2, lk_comm]
  have : lk a b ∉ cs.erase (lk a b) := fun h => (List.Nodup.mem_erase_iff hn).1 h |>.1 rfl
  rw [decide_eq_false this]; rfl
theorem cut_nodup (h : linkedB n cs a b = true) (hn : cs.Nodup) : (cutL n cs b a).Nodup := by
  unfold cutL
  split
  · refine List.nodup_append.2 ⟨hn, by simp, fun x hx y hy e => ?_⟩
    simp only [List.mem_singleton] at hy
    subst e hy
    exact linked_out h (lk_comm ▸ hx)
  · exact hn
theorem mend_nodup (hn : cs.Nodup) : (mendL n cs b a).Nodup := by
  unfold mendL
  split
  · exact hn.erase _
  · exact hn
end

theorem ty62 : Ty Try.prog 62 2 16 (.agg #[.int .i64 (0), .int .i64 (0)]) true := ty_of (by kernel_rfl) (by kernel_rfl)

set_option maxRecDepth 100000 in
set_option maxHeartbeats 4000000 in
theorem law_both (u : Int) (hu : 0 ≤ u ∧ u ≤ 18446744073709551615) (al : Option Addr) (ms : List Mg) (cl : Nat) (ac : Option Addr) (xs : List CutC) (cc : Nat) (w : World) (hml0 : SlOf w al (ms.map Mg.c)) (hml : ms.length ≤ 1048576) (hms : ∀ m ∈ ms, SixR w m.s m.v ∧ VOk m.v) (hxs : SlOf w ac xs) (hxl : xs.length ≤ 1048576) :
    Calls Try.prog 5 #[.int .u64 (u), .slice (al) ((ms.map Mg.c).length) (cl), .slice (ac) (xs.length) (cc)] w (Ret (fun v w' => v = .bool true ∧ Ext w w')) := by
  obtain ⟨m8, hm8, hm80, hm87⟩ := eight u hu.1 hu.2
  have hn : 1 ≤ 1 + m8 ∧ 1 + m8 ≤ 8 := ⟨by omega, by omega⟩
  refine calls_run (n := 135) Try.func5 rfl rfl rfl ?_
  refine Run.seq ?_
  refine Run.region ?_
  refine RL.val (x_assignB rfl) ?_
  refine RL.nil ?_
  refine Run.seq ?_
  refine Run.region ?_
  refine RL.val (x_moveI rfl) ?_
  refine RL.val (x_rem rfl rfl (by decide)) ?_
  refine RL.val (litI (c := m8) (x_convI rfl ⟨_, Try.underlying22⟩ Try.underlying3) hm8) ?_
  refine RL.val (x_add rfl rfl (by omega) (by omega)) ?_
  refine RL.val (x_assignI rfl) ?_
  refine RL.nil ?_
  refine Run.seq ?_
  refine Run.region ?_
  refine RL.val (x_moveI rfl) ?_
  refine RL.st rfl <| St1.call (vals := [.int .i64 (1 + m8)]) en7 rfl (newD (1 + m8) _) ?_
  rintro _ w_3 (⟨hb_7, _, _⟩ | ⟨_, b_1, F_2, rfl, hS_4, hg_5, K_6⟩)
  · exact absurd hn hb_7
  have pg_8 : ∀ q_, F_2 q_ → w.heap.size ≤ q_ := fun q_ h => Nat.le_trans (Nat.le_refl _) (hg_5 q_ h)
  clear hg_5
  have K0 := (K_6 : Ext w _)
  refine RL.val (x_moveT rfl) ?_
  refine RL.val (x_extract rfl rfl) ?_
  refine RL.val (x_extract rfl rfl) ?_
  refine RL.val (x_assignP rfl) ?_
  refine RL.val (x_assignI rfl) ?_
  refine RL.nil ?_
  refine Run.seq ?_
  refine Run.seq ?_
  refine Run.region ?_
  refine RL.val (x_moveI rfl) ?_
  refine RL.val (litF (x_neI rfl rfl) (by decide)) ?_
  refine RL.val (x_moveB rfl) ?_
  refine RL.gst (wantedF1 rfl rfl rfl rfl) <| St1.val (x_moveP rfl) ?_
  refine RL.gst (wantedF1 rfl rfl rfl rfl) <| St1.val (litF (x_ptrNil Try.underlying24 rfl rfl) rfl) ?_
  refine RL.val (x_orF rfl rfl rfl) ?_
  refine RL.val (x_moveB rfl) ?_
  refine RL.gst (wantedF1 rfl rfl rfl rfl) <| St1.call (vals := []) en8 rfl (awake_ _) ?_
  rintro _ w_9 ⟨rfl, K_10⟩
  replace hS_4 := hS_4.ext K_10
  replace K0 := K0.ext K_10
  refine RL.gst (wantedF1 rfl rfl rfl rfl) <| St1.val (x_not (b := true) rfl) ?_
  refine RL.val (x_orF rfl rfl rfl) ?_
  refine RL.nil ?_
  refine Run.condF rfl ?_
  refine Run.skip ?_
  refine Run.seq ?_
  refine Run.region ?_
  refine RL.val (x_moveP rfl) ?_
  refine RL.val (x_moveSl rfl) ?_
  refine RL.st rfl <| St1.call (vals := [.slice (al) ((ms.map Mg.c).length) (cl)]) en10 rfl (msgs_ _ ms _ _ (hml0.ext K0) (fun m hm => ⟨(hms m hm).1.ext K0, (hms m hm).2⟩) hml) ?_
  rintro _ w_14 ⟨a_11, c_12, ks_13, rfl, ho_15, hQ_16, hkv_17, hg_18, hg_19, hap_20, K_21⟩
  have pr_22 : ∀ q_, own a_11 q_ → ¬ F_2 q_ := apartNew hg_18 hS_4.own_lt
  have pg_23 : ∀ q_, own a_11 q_ → w.heap.size ≤ q_ := fun q_ h => Nat.le_trans K0.size (hg_18 q_ h)
  have pr_24 : ∀ q_, mgsS ks_13 q_ → ¬ F_2 q_ := apartNew hg_19 hS_4.own_lt
  have pg_25 : ∀ q_, mgsS ks_13 q_ → w.heap.size ≤ q_ := fun q_ h => Nat.le_trans K0.size (hg_19 q_ h)
  clear hg_18 hg_19
  replace hS_4 := hS_4.ext K_21
  replace K0 := K0.ext K_21
  have hkl_ks_13 : ks_13.length = ms.length := by have := congrArg List.length hkv_17; simpa using this
  refine RL.st rfl <| St1.call (vals := [.pointer (some ⟨b_1, 0, none⟩), .slice (a_11) ((ks_13.map Pk.c).length) (c_12)]) en9 rfl (sendK hS_4 _ ks_13 _ ho_15.sl hQ_16 (fun x_ hx_ => pr_22 _ ⟨x_, hx_, rfl⟩) pr_24 (by omega) (by first | decide | assumption | omega)) ?_
  rintro _ w_27 ⟨F_26, rfl, hS_28, hm_29, K_30⟩
  have pr_31 : ∀ q_, F_26 q_ → ¬ own a_11 q_ := hm_29.apart (fun q_ h1 h2 => pr_22 q_ h2 h1) ho_15.own_lt
  have pr_32 : ∀ q_, F_26 q_ → ¬ mgsS ks_13 q_ := hm_29.apart (fun q_ h1 h2 => pr_24 q_ h2 h1) hQ_16.own_lt
  have pg_33 : ∀ q_, F_26 q_ → w.heap.size ≤ q_ := hm_29.ge pg_8 K0.size
  replace ho_15 := ho_15.keepO K_30 pr_22
  replace hQ_16 := hQ_16.keepO K_30 pr_24
  replace K0 := K0.new K_30 pg_8
  clear hm_29
  refine RL.nil ?_
  obtain ⟨hb1, hb2, hb3, hb4⟩ := sn_b (nodes := (1 + m8)) (id := 0) (pv := ([] : List (Int × MV))) (vs := ks_13.map Pk.v) (by simp) ks_13.length (by rw [List.length_map]; exact Nat.le_refl _)
  refine Run.seq ?_
  refine Run.region ?_
  refine RL.val (x_moveP rfl) ?_
  refine RL.st rfl <| St1.call (vals := [.pointer (some ⟨b_1, 0, none⟩)]) en15 rfl (packetsD hS_28 (by first | decide | assumption | omega)) ?_
  rintro _ w_37 ⟨a_34, c_35, ks_36, rfl, ho_38, hQ_39, hpe_40, hg_41, hg_42, hap_43, K_44⟩
  have pr_45 : ∀ q_, own a_34 q_ → ¬ own a_11 q_ := apartNew hg_41 ho_15.own_lt
  have pr_46 : ∀ q_, own a_34 q_ → ¬ mgsS ks_13 q_ := apartNew hg_41 hQ_16.own_lt
  have pr_47 : ∀ q_, own a_34 q_ → ¬ F_26 q_ := apartNew hg_41 hS_28.own_lt
  have pg_48 : ∀ q_, own a_34 q_ → w.heap.size ≤ q_ := fun q_ h => Nat.le_trans K0.size (hg_41 q_ h)
  have pr_49 : ∀ q_, mgsS ks_36 q_ → ¬ own a_11 q_ := apartNew hg_42 ho_15.own_lt
  have pr_50 : ∀ q_, mgsS ks_36 q_ → ¬ mgsS ks_13 q_ := apartNew hg_42 hQ_16.own_lt
  have pr_51 : ∀ q_, mgsS ks_36 q_ → ¬ F_26 q_ := apartNew hg_42 hS_28.own_lt
  have pg_52 : ∀ q_, mgsS ks_36 q_ → w.heap.size ≤ q_ := fun q_ h => Nat.le_trans K0.size (hg_42 q_ h)
  clear hg_41 hg_42
  have hkl_ks_36 : (ks_36.map Pk.k).length = ((snI (1 + m8) 0 ([] : List (Int × MV)) (ks_13.map Pk.v) ks_13.length).pv).length := by have := congrArg List.length hpe_40; simpa using this
  replace ho_15 := ho_15.ext K_44
  replace hQ_16 := hQ_16.ext K_44
  replace hS_28 := hS_28.ext K_44
  replace K0 := K0.ext K_44
  refine RL.val (x_assignSl rfl) ?_
  refine RL.nil ?_
  have hok0 := hS_28.ok
  have hlen0 := hok0.len
  refine Run.seq ?_
  refine Run.seq ?_
  refine Run.region ?_
  refine RL.val (x_moveSl rfl) ?_
  refine RL.val (x_lenSl Try.underlying61 rfl) ?_
  refine RL.val (x_moveI rfl) ?_
  refine RL.nil ?_
  refine Run.block ?_
  refine Run.loop (ι := Nat) (fun i ρ' w' => ∃ F1 : Nat → Prop, ∃ cs : List LinkC, Holds ρ' [(7, .int .i64 (1 + m8)), (8, .pointer (some ⟨b_1, 0, none⟩)), (10, .slice (a_34) ((ks_36.map Pk.k).length) (c_35)), (40, .slice (ac) (xs.length) (cc)), (41, .int .i64 (((xs.length : Nat) : Int))), (42, .int .i64 (((i : Nat) : Int)))] ∧ Ext w w' ∧ (OwnSl w' 48 (a_11) (c_12) (ks_13.map Pk.c)) ∧ (MgsAt w' ks_13) ∧ (OwnSl w' 57 (a_34) (c_35) (ks_36.map Pk.k)) ∧ (MgsAt w' ks_36) ∧ (WldAt w' b_1 F1 (1 + m8) ((snI (1 + m8) 0 ([] : List (Int × MV)) (ks_13.map Pk.v) ks_13.length).id) 0 ((snI (1 + m8) 0 ([] : List (Int × MV)) (ks_13.map Pk.v) ks_13.length).pv) cs) ∧ (∀ q_, F1 q_ → ¬ own a_11 q_) ∧ (∀ q_, F1 q_ → ¬ mgsS ks_13 q_) ∧ (∀ q_, F1 q_ → ¬ own a_34 q_) ∧ (∀ q_, F1 q_ → ¬ mgsS ks_36 q_) ∧ (∀ q_, F1 q_ → w.heap.size ≤ q_) ∧ (i ≤ xs.length) ∧ (i ≤ 61) ∧ (cs.Nodup)) (fun i => xs.length - i) 0 ?_ ?_
  · refine ⟨_, [], ⟨rfl, rfl, rfl, rfl, rfl, rfl, trivial⟩, K0, ho_15, hQ_16, ho_38, hQ_39, hS_28, pr_31, pr_32, (fun q_ h1 h2 => pr_47 q_ h2 h1), (fun q_ h1 h2 => pr_51 q_ h2 h1), pg_33, ?_, ?_, ?_⟩
    · omega
    · omega
    · exact List.Pairwise.nil
  clear ho_15 hQ_16 hS_28 ho_38 hQ_39
  clear K0
  rintro i ρ_61 w_53 ⟨F1, cs, hH_54, K0, ho_15, hQ_16, ho_38, hQ_39, hO_55, pr_56, pr_57, pr_58, pr_59, pr_60, hi, hi2, hnd⟩ ih1
  obtain ⟨ρ₀, rfl⟩ := hH_54.ex
  clear hH_54
  refine Run.seq ?_
  refine Run.region ?_
  refine RL.val (x_ltI rfl rfl) ?_
  refine RL.nil ?_
  refine Run.seq ?_
  refine Run.cond rfl (fun hc43 => ?_) (fun hc43 => ?_)
  · try simp only [br] at hc43
    refine Run.skip ?_
    refine Run.seq ?_
    refine Run.block ?_
    refine Run.seq ?_
    refine Run.region ?_
    refine RL.val (x_moveI rfl) ?_
    obtain ⟨b_62, o_63, c, hx, ha_64, hc_65⟩ := hxs.el (i := i) (by first | omega | (simp only [List.length_set]; omega))
    have hc_65_lt := hc_65.lt
    replace hc_65 := hc_65.ext K0
    refine RL.val (x_idxN Try.underlying61 ty62 rfl rfl ha_64 (by first | omega | (simp only [List.length_set]; omega))) ?_
    refine RL.val (x_ldV (v := .agg #[.int .i64 ((c).a), .int .i64 ((c).b)]) (y := c) ty62 rfl hc_65 rfl) ?_
    refine RL.st rfl <| St1.alloc ty62 ?_
    intro b_68 w_69 hl_72 hb_71 K_70
    replace hb_71 : Blk w_69 b_68 [.int .i64 (0), .int .i64 (0)] 62 := hb_71
    have ne_73 : b_62 < b_68 := Nat.lt_of_lt_of_le hc_65.lt hl_72
    have pr_74 : ¬ own a_11 b_68 := fun h => absurd (ho_15.own_lt _ h) (by omega)
    have pr_75 : ¬ mgsS ks_13 b_68 := fun h => absurd (hQ_16.own_lt _ h) (by omega)
    have pr_76 : ¬ own a_34 b_68 := fun h => absurd (ho_38.own_lt _ h) (by omega)
    have pr_77 : ¬ mgsS ks_36 b_68 := fun h => absurd (hQ_39.own_lt _ h) (by omega)
    have pr_78 : ¬ F1 b_68 := fun h => absurd (hO_55.own_lt _ h) (by omega)
    have : w.heap.size ≤ b_68 := Nat.le_trans K0.size hl_72
    clear hl_72
    replace ho_15 := ho_15.ext K_70
    replace hQ_16 := hQ_16.ext K_70
    replace ho_38 := ho_38.ext K_70
    replace hQ_39 := hQ_39.ext K_70
    replace hO_55 := hO_55.ext K_70
    replace hc_65 := hc_65.ext K_70
    replace K0 := K0.ext K_70
    refine RL.val (x_assignI rfl) ?_
    refine RL.st rfl <| St1.store (v := .agg #[.int .i64 ((c).a), .int .i64 ((c).b)]) ty62 rfl rfl rfl (by simp [Value.cells, Value.oneCell']) hb_71 (by simp) ?_
    intro w_79 hb_71_ K_80
    have hb_71' : Blk w_79 b_68 [.int .i64 ((c).a), .int .i64 ((c).b)] 62 := hb_71_
    clear hb_71_
    replace ho_15 := ho_15.keepO K_80 (fun q_ hq_ eq_ => pr_74 (by simp only [one] at eq_; rw [← eq_]; exact hq_))
    replace hQ_16 := hQ_16.keepO K_80 (fun q_ hq_ eq_ => pr_75 (by simp only [one] at eq_; rw [← eq_]; exact hq_))
    replace ho_38 := ho_38.keepO K_80 (fun q_ hq_ eq_ => pr_76 (by simp only [one] at eq_; rw [← eq_]; exact hq_))
    replace hQ_39 := hQ_39.keepO K_80 (fun q_ hq_ eq_ => pr_77 (by simp only [one] at eq_; rw [← eq_]; exact hq_))
    replace hO_55 := hO_55.keepO K_80 (fun q_ hq_ eq_ => pr_78 (by simp only [one] at eq_; rw [← eq_]; exact hq_))
    replace hc_65 := hc_65.keep K_80 (by simp only [one]; omega)
    replace K0 := K0.new K_80 (fun x hx => by simp only [one] at hx; omega)
    replace hb_71 := hb_71'
    clear hb_71'
    refine RL.nil ?_
    refine Run.seq ?_
    refine Run.seq ?_
    refine Run.region ?_
    refine RL.val (x_moveI rfl) ?_
    refine RL.val (x_gtI rfl rfl) ?_
    refine RL.nil ?_
    refine Run.cond rfl (fun hc48 => ?_) (fun hc48 => ?_)
    · try simp only [br] at hc48
      refine Run.exit rfl ?_
      refine Run.seq ?_
      refine Run.region ?_
      refine RL.val (x_assignB rfl) ?_
      refine RL.nil ?_
      refine Run.ret1 (v := .bool (true)) Try.func5 rfl rfl ?_
      exact ⟨_, rfl, rfl, K0⟩
    · try simp only [br] at hc48
      refine Run.skip ?_
      refine Run.seq ?_
      refine Run.region ?_
      refine RL.val (x_moveP rfl) ?_
      refine RL.val (litV (v' := .pointer (some ⟨b_68, 0, none⟩)) (x_idxAN (i := 0) Try.underlying62 ty3 rfl rfl (by decide)) rfl) ?_
      refine RL.val (x_ld (v := .int .i64 ((c).a)) ty3 rfl rfl (hb_71.cl.field (i := 0) rfl)) ?_
      refine RL.val (litV (v' := .pointer (some ⟨b_68, 1, none⟩)) (x_idxAN (i := 1) Try.underlying62 ty3 rfl rfl (by decide)) rfl) ?_
      refine RL.val (x_ld (v := .int .i64 ((c).b)) ty3 rfl rfl (hb_71.cl.field (i := 1) rfl)) ?_
      refine RL.st rfl <| St1.call (vals := [.pointer (some ⟨b_1, 0, none⟩), .int .i64 ((c).a), .int .i64 ((c).b)]) en18 rfl (linkedD hO_55 ((c).a) ((c).b)) ?_
      rintro _ w_81 ⟨rfl, K_82⟩
      replace ho_15 := ho_15.ext K_82
      replace hQ_16 := hQ_16.ext K_82
      replace ho_38 := ho_38.ext K_82
      replace hQ_39 := hQ_39.ext K_82
      replace hO_55 := hO_55.ext K_82
      replace hb_71 := hb_71.ext K_82
      replace K0 := K0.ext K_82
      refine RL.val (x_assignB rfl) ?_
      refine RL.nil ?_
      refine Run.seq ?_
      refine Run.seq ?_
      refine Run.region ?_
      refine RL.val (x_moveB rfl) ?_
      refine RL.nil ?_
      refine Run.cond rfl (fun hc55 => ?_) (fun hc55 => ?_)
      · skip
        have hcl : linkedB (1 + m8) cs c.a c.b = true := by simpa using hc55
        refine Run.region ?_
        refine RL.val (x_moveP rfl) ?_
        refine RL.val (litV (v' := .pointer (some ⟨b_68, 1, none⟩)) (x_idxAN (i := 1) Try.underlying62 ty3 rfl rfl (by decide)) rfl) ?_
        refine RL.val (x_ld (v := .int .i64 ((c).b)) ty3 rfl rfl (hb_71.cl.field (i := 1) rfl)) ?_
        refine RL.val (litV (v' := .pointer (some ⟨b_68, 0, none⟩)) (x_idxAN (i := 0) Try.underlying62 ty3 rfl rfl (by decide)) rfl) ?_
        refine RL.val (x_ld (v := .int .i64 ((c).a)) ty3 rfl rfl (hb_71.cl.field (i := 0) rfl)) ?_
        refine RL.st rfl <| St1.call (vals := [.pointer (some ⟨b_1, 0, none⟩), .int .i64 ((c).b), .int .i64 ((c).a)]) en19 rfl (cutD hO_55 ((c).b) ((c).a)) ?_
        rintro _ w_84 ⟨F_83, rfl, hS_85, hm_86, K_87⟩
        have pr_88 : ∀ q_, F_83 q_ → ¬ own a_11 q_ := hm_86.apart pr_56 ho_15.own_lt
        have pr_89 : ∀ q_, F_83 q_ → ¬ mgsS ks_13 q_ := hm_86.apart pr_57 hQ_16.own_lt
        have pr_90 : ∀ q_, F_83 q_ → ¬ own a_34 q_ := hm_86.apart pr_58 ho_38.own_lt
        have pr_91 : ∀ q_, F_83 q_ → ¬ mgsS ks_36 q_ := hm_86.apart pr_59 hQ_39.own_lt
        have pr_92 : ¬ F_83 b_68 := hm_86.not pr_78 hb_71.lt
        have pg_93 : ∀ q_, F_83 q_ → w.heap.size ≤ q_ := hm_86.ge pr_60 K0.size
        replace ho_15 := ho_15.keepO K_87 (fun q_ h1 h2 => pr_56 q_ h2 h1)
        replace hQ_16 := hQ_16.keepO K_87 (fun q_ h1 h2 => pr_57 q_ h2 h1)
        replace ho_38 := ho_38.keepO K_87 (fun q_ h1 h2 => pr_58 q_ h2 h1)
        replace hQ_39 := hQ_39.keepO K_87 (fun q_ h1 h2 => pr_59 q_ h2 h1)
        replace hb_71 := hb_71.keep K_87 pr_78
        replace K0 := K0.new K_87 pr_60
        clear hm_86
        refine RL.val (x_assignI rfl) ?_
        refine RL.nil ?_
        refine Run.seq ?_
        refine Run.region ?_
        refine RL.val (litV (v' := .pointer (some ⟨b_68, 0, none⟩)) (x_idxAN (i := 0) Try.underlying62 ty3 rfl rfl (by decide)) rfl) ?_
        refine RL.val (x_ld (v := .int .i64 ((c).a)) ty3 rfl rfl (hb_71.cl.field (i := 0) rfl)) ?_
        refine RL.val (litV (v' := .pointer (some ⟨b_68, 1, none⟩)) (x_idxAN (i := 1) Try.underlying62 ty3 rfl rfl (by decide)) rfl) ?_
        refine RL.val (x_ld (v := .int .i64 ((c).b)) ty3 rfl rfl (hb_71.cl.field (i := 1) rfl)) ?_
        refine RL.val (x_neI rfl rfl) ?_
        refine RL.val (x_moveB rfl) ?_
        refine RL.gval (wantedT rfl rfl rfl rfl) (fun hg => (litV (v' := .pointer (some ⟨b_68, 0, none⟩)) (x_idxAN (i := 0) Try.underlying62 ty3 rfl rfl (by decide)) rfl)) ?_
        refine RL.gval (wantedT rfl rfl rfl rfl) (fun hg => (x_ld (v := .int .i64 ((c).a)) ty3 (gvr hg) rfl (hb_71.cl.field (i := 0) rfl))) ?_
        refine RL.gval (wantedT rfl rfl rfl rfl) (fun hg => (x_geI (gvr hg) rfl)) ?_
        refine RL.val (x_and rfl rfl rfl) ?_
        refine RL.val (x_moveB rfl) ?_
        refine RL.gval (wantedT rfl rfl rfl rfl) (fun hg => (litV (v' := .pointer (some ⟨b_68, 0, none⟩)) (x_idxAN (i := 0) Try.underlying62 ty3 rfl rfl (by decide)) rfl)) ?_
        refine RL.gval (wantedT rfl rfl rfl rfl) (fun hg => (x_ld (v := .int .i64 ((c).a)) ty3 (gvr hg) rfl (hb_71.cl.field (i := 0) rfl))) ?_
        refine RL.gval (wantedT rfl rfl rfl rfl) (fun hg => (x_moveI rfl)) ?_
        refine RL.gval (wantedT rfl rfl rfl rfl) (fun hg => (x_ltI (gvr hg) (gvr hg))) ?_
        refine RL.val (x_and rfl rfl rfl) ?_
        refine RL.val (x_moveB rfl) ?_
        refine RL.gval (wantedT rfl rfl rfl rfl) (fun hg => (litV (v' := .pointer (some ⟨b_68, 1, none⟩)) (x_idxAN (i := 1) Try.underlying62 ty3 rfl rfl (by decide)) rfl)) ?_
        refine RL.gval (wantedT rfl rfl rfl rfl) (fun hg => (x_ld (v := .int .i64 ((c).b)) ty3 (gvr hg) rfl (hb_71.cl.field (i := 1) rfl))) ?_
        refine RL.gval (wantedT rfl rfl rfl rfl) (fun hg => (x_geI (gvr hg) rfl)) ?_
        refine RL.val (x_and rfl rfl rfl) ?_
        refine RL.val (x_moveB rfl) ?_
        refine RL.gval (wantedT rfl rfl rfl rfl) (fun hg => (litV (v' := .pointer (some ⟨b_68, 1, none⟩)) (x_idxAN (i := 1) Try.underlying62 ty3 rfl rfl (by decide)) rfl)) ?_
        refine RL.gval (wantedT rfl rfl rfl rfl) (fun hg => (x_ld (v := .int .i64 ((c).b)) ty3 (gvr hg) rfl (hb_71.cl.field (i := 1) rfl))) ?_
        refine RL.gval (wantedT rfl rfl rfl rfl) (fun hg => (x_moveI rfl)) ?_
        refine RL.gval (wantedT rfl rfl rfl rfl) (fun hg => (x_ltI (gvr hg) (gvr hg))) ?_
        refine RL.val (x_and rfl rfl rfl) ?_
        refine RL.val (litV (v' := .bool (twoB (1 + m8) c.a c.b)) (x_assignB rfl) (congrArg Value.bool two_eq)) ?_
        refine RL.nil ?_
        refine Run.seq ?_
        by_cases htw : twoB (1 + m8) c.a c.b = true
        · refine Run.drawT [] (m := 39) (by kernel_rfl) rfl ?_
          intro w_94 K_95
          replace ho_15 := ho_15.ext K_95
          replace hQ_16 := hQ_16.ext K_95
          replace ho_38 := ho_38.ext K_95
          replace hQ_39 := hQ_39.ext K_95
          replace hb_71 := hb_71.ext K_95
          replace hS_85 := hS_85.ext K_95
          replace K0 := K0.ext K_95
          refine ⟨fun w' => Blk w' b_68 [.int .i64 ((c).a), .int .i64 ((c).b)] 62 ∧ True, ?_⟩
          refine RT.takeP (v := .int .i64 (cutE (1 + m8) cs ((c).b) ((c).a))) 0 rfl (by kernel_rfl) (.inr ⟨hb_71, trivial⟩) (fun _ => (x_moveI rfl)) ?_
          refine RT.takeP (v := .bool ((cutE (1 + m8) cs ((c).b) ((c).a)) == 0)) 1 rfl (by kernel_rfl) (.inr ⟨hb_71, trivial⟩) (fun _ => (x_eqI rfl rfl)) ?_
          refine RT.takeP (v := .bool (twoB (1 + m8) c.a c.b)) 2 rfl (by kernel_rfl) (.inr ⟨hb_71, trivial⟩) (fun _ => (x_moveB rfl)) ?_
          refine RT.takeP (v := .bool (false)) 3 rfl (by kernel_rfl) (.inr ⟨hb_71, trivial⟩) (fun _ => (litF (x_neB Try.underlying4 rfl rfl) (both_e (cutE_at hcl)))) ?_
          refine RT.takeP (v := .bool (false)) 4 rfl (by kernel_rfl) (.inr ⟨hb_71, trivial⟩) (fun _ => (x_moveB rfl)) ?_
          refine RT.gtakeP (v := .bool (true)) 5 rfl (by kernel_rfl) (.inr ⟨hb_71, trivial⟩) (wantedF1 rfl rfl rfl rfl) (fun hg _ => (litT (x_moveB rfl) htw)) ?_
          refine RT.gtakeP (v := .bool (true)) 6 rfl (by kernel_rfl) (.inr ⟨hb_71, trivial⟩) (wantedF1 rfl rfl rfl rfl) (fun hg _ => (x_moveB rfl)) ?_
          refine RT.gtakeP (v := .pointer (some ⟨b_1, 0, none⟩)) 7 rfl (by kernel_rfl) (.inr ⟨hb_71, trivial⟩) (wantedT1 rfl rfl rfl rfl) (fun hg _ => (x_moveP rfl)) ?_
          refine RT.gtakeP (v := .pointer (some ⟨b_68, 0, none⟩)) 8 rfl (by kernel_rfl) (.inr ⟨hb_71, trivial⟩) (wantedT1 rfl rfl rfl rfl) (fun hg _ => (litV (v' := .pointer (some ⟨b_68, 0, none⟩)) (x_idxAN (i := 0) Try.underlying62 ty3 rfl rfl (by decide)) rfl)) ?_
          refine RT.gtake (v := .int .i64 ((c).a)) 9 rfl (by kernel_rfl) ⟨hb_71, trivial⟩ (wantedT1 rfl rfl rfl rfl) (fun hg => by rintro _ ⟨hb_71, -⟩; exact (x_ld (v := .int .i64 ((c).a)) ty3 rfl rfl (hb_71.cl.field (i := 0) rfl))) ?_
          refine RT.gtakeP (v := .pointer (some ⟨b_68, 1, none⟩)) 10 rfl (by kernel_rfl) (.inr ⟨hb_71, trivial⟩) (wantedT1 rfl rfl rfl rfl) (fun hg _ => (litV (v' := .pointer (some ⟨b_68, 1, none⟩)) (x_idxAN (i := 1) Try.underlying62 ty3 rfl rfl (by decide)) rfl)) ?_
          refine RT.gtake (v := .int .i64 ((c).b)) 11 rfl (by kernel_rfl) ⟨hb_71, trivial⟩ (wantedT1 rfl rfl rfl rfl) (fun hg => by rintro _ ⟨hb_71, -⟩; exact (x_ld (v := .int .i64 ((c).b)) ty3 rfl rfl (hb_71.cl.field (i := 1) rfl))) ?_
          refine RT.gtakeP (v := .bool (linkedB (1 + m8) cs ((c).a) ((c).b))) 13 rfl (by kernel_rfl) (.inr ⟨hb_71, trivial⟩) (wantedT1 rfl rfl rfl rfl) (fun hg _ => (x_moveB rfl)) ?_
          refine RT.gst 12 rfl (by kernel_rfl) (wantedT1 rfl rfl rfl rfl) <| St1.call (vals := [.pointer (some ⟨b_1, 0, none⟩), .int .i64 ((c).a), .int .i64 ((c).b)]) en18 rfl (linkedD hS_85 ((c).a) ((c).b)) ?_
          rintro _ w_96 ⟨rfl, K_97⟩
          replace ho_15 := ho_15.ext K_97
          replace hQ_16 := hQ_16.ext K_97
          replace ho_38 := ho_38.ext K_97
          replace hQ_39 := hQ_39.ext K_97
          replace hb_71 := hb_71.ext K_97
          replace hS_85 := hS_85.ext K_97
          replace K0 := K0.ext K_97
          refine ⟨.inr ⟨hb_71, trivial⟩, ?_⟩
          refine RT.gtakeP (v := .bool (false)) 14 rfl (by kernel_rfl) (.inr ⟨hb_71, trivial⟩) (wantedT1 rfl rfl rfl rfl) (fun hg _ => (litF (x_eqB Try.underlying4 rfl rfl) (by rw [both_cut hcl htw, hcl]; rfl))) ?_
          refine RT.gtakeP (v := .bool (false)) 15 rfl (by kernel_rfl) (.inr ⟨hb_71, trivial⟩) (wantedF1 rfl rfl rfl rfl) (fun hg _ => (x_andT rfl rfl rfl)) ?_
          refine RT.takeP (v := .bool (false)) 16 rfl (by kernel_rfl) (.inr ⟨hb_71, trivial⟩) (fun _ => (x_orF rfl rfl rfl)) ?_
          refine RT.takeP (v := .bool (false)) 17 rfl (by kernel_rfl) (.inr ⟨hb_71, trivial⟩) (fun _ => (x_moveB rfl)) ?_
          refine RT.gtakeP (v := .pointer (some ⟨b_1, 0, none⟩)) 18 rfl (by kernel_rfl) (.inr ⟨hb_71, trivial⟩) (wantedF1 rfl rfl rfl rfl) (fun hg _ => (x_moveP rfl)) ?_
          refine RT.gtakeP (v := .pointer (some ⟨b_68, 0, none⟩)) 19 rfl (by kernel_rfl) (.inr ⟨hb_71, trivial⟩) (wantedF1 rfl rfl rfl rfl) (fun hg _ => (litV (v' := .pointer (some ⟨b_68, 0, none⟩)) (x_idxAN (i := 0) Try.underlying62 ty3 rfl rfl (by decide)) rfl)) ?_
          refine RT.gtake (v := .int .i64 ((c).a)) 20 rfl (by kernel_rfl) ⟨hb_71, trivial⟩ (wantedF1 rfl rfl rfl rfl) (fun hg => by rintro _ ⟨hb_71, -⟩; exact (x_ld (v := .int .i64 ((c).a)) ty3 rfl rfl (hb_71.cl.field (i := 0) rfl))) ?_
          refine RT.gtakeP (v := .pointer (some ⟨b_68, 1, none⟩)) 21 rfl (by kernel_rfl) (.inr ⟨hb_71, trivial⟩) (wantedF1 rfl rfl rfl rfl) (fun hg _ => (litV (v' := .pointer (some ⟨b_68, 1, none⟩)) (x_idxAN (i := 1) Try.underlying62 ty3 rfl rfl (by decide)) rfl)) ?_
          refine RT.gtake (v := .int .i64 ((c).b)) 22 rfl (by kernel_rfl) ⟨hb_71, trivial⟩ (wantedF1 rfl rfl rfl rfl) (fun hg => by rintro _ ⟨hb_71, -⟩; exact (x_ld (v := .int .i64 ((c).b)) ty3 rfl rfl (hb_71.cl.field (i := 1) rfl))) ?_
          refine RT.gtakeP (v := .pointer (some ⟨b_1, 0, none⟩)) 24 rfl (by kernel_rfl) (.inr ⟨hb_71, trivial⟩) (wantedF1 rfl rfl rfl rfl) (fun hg _ => (x_moveP rfl)) ?_
          refine RT.gtakeP (v := .pointer (some ⟨b_68, 1, none⟩)) 25 rfl (by kernel_rfl) (.inr ⟨hb_71, trivial⟩) (wantedF1 rfl rfl rfl rfl) (fun hg _ => (litV (v' := .pointer (some ⟨b_68, 1, none⟩)) (x_idxAN (i := 1) Try.underlying62 ty3 rfl rfl (by decide)) rfl)) ?_
          refine RT.gtake (v := .int .i64 ((c).b)) 26 rfl (by kernel_rfl) ⟨hb_71, trivial⟩ (wantedF1 rfl rfl rfl rfl) (fun hg => by rintro _ ⟨hb_71, -⟩; exact (x_ld (v := .int .i64 ((c).b)) ty3 rfl rfl (hb_71.cl.field (i := 1) rfl))) ?_
          refine RT.gtakeP (v := .pointer (some ⟨b_68, 0, none⟩)) 27 rfl (by kernel_rfl) (.inr ⟨hb_71, trivial⟩) (wantedF1 rfl rfl rfl rfl) (fun hg _ => (litV (v' := .pointer (some ⟨b_68, 0, none⟩)) (x_idxAN (i := 0) Try.underlying62 ty3 rfl rfl (by decide)) rfl)) ?_
          refine RT.gtake (v := .int .i64 ((c).a)) 28 rfl (by kernel_rfl) ⟨hb_71, trivial⟩ (wantedF1 rfl rfl rfl rfl) (fun hg => by rintro _ ⟨hb_71, -⟩; exact (x_ld (v := .int .i64 ((c).a)) ty3 rfl rfl (hb_71.cl.field (i := 0) rfl))) ?_
          refine RT.gst 23 rfl (by kernel_rfl) (wantedF1 rfl rfl rfl rfl) <| St1.call (vals := [.pointer (some ⟨b_1, 0, none⟩), .int .i64 ((c).a), .int .i64 ((c).b)]) en18 rfl (linkedD hS_85 ((c).a) ((c).b)) ?_
          rintro _ w_98 ⟨rfl, K_99⟩
          replace ho_15 := ho_15.ext K_99
          replace hQ_16 := hQ_16.ext K_99
          replace ho_38 := ho_38.ext K_99
          replace hQ_39 := hQ_39.ext K_99
          replace hb_71 := hb_71.ext K_99
          replace hS_85 := hS_85.ext K_99
          replace K0 := K0.ext K_99
          refine ⟨.inr ⟨hb_71, trivial⟩, ?_⟩
          refine RT.gst 29 rfl (by kernel_rfl) (wantedF1 rfl rfl rfl rfl) <| St1.call (vals := [.pointer (some ⟨b_1, 0, none⟩), .int .i64 ((c).b), .int .i64 ((c).a)]) en18 rfl (linkedD hS_85 ((c).b) ((c).a)) ?_
          rintro _ w_100 ⟨rfl, K_101⟩
          replace ho_15 := ho_15.ext K_101
          replace hQ_16 := hQ_16.ext K_101
          replace ho_38 := ho_38.ext K_101
          replace hQ_39 := hQ_39.ext K_101
          replace hb_71 := hb_71.ext K_101
          replace hS_85 := hS_85.ext K_101
          replace K0 := K0.ext K_101
          refine ⟨.inr ⟨hb_71, trivial⟩, ?_⟩
          refine RT.gtakeP (v := .bool (false)) 30 rfl (by kernel_rfl) (.inr ⟨hb_71, trivial⟩) (wantedF1 rfl rfl rfl rfl) (fun hg _ => (litF (x_neB Try.underlying4 rfl rfl) (by rw [linked_comm]; simp))) ?_
          refine RT.takeP (v := .bool (false)) 31 rfl (by kernel_rfl) (.inr ⟨hb_71, trivial⟩) (fun _ => (x_orF rfl rfl rfl)) ?_
          refine RT.takeP (v := .bool (false)) 32 rfl (by kernel_rfl) (.inr ⟨hb_71, trivial⟩) (fun _ => (x_moveB rfl)) ?_
          refine RT.gtakeP (v := .pointer (some ⟨b_1, 0, none⟩)) 33 rfl (by kernel_rfl) (.inr ⟨hb_71, trivial⟩) (wantedF1 rfl rfl rfl rfl) (fun hg _ => (x_moveP rfl)) ?_
          refine RT.gtakeP (v := .slice (a_34) ((ks_36.map Pk.k).length) (c_35)) 35 rfl (by kernel_rfl) (.inr ⟨hb_71, trivial⟩) (wantedF1 rfl rfl rfl rfl) (fun hg _ => (x_moveSl rfl)) ?_
          refine RT.gst 34 rfl (by kernel_rfl) (wantedF1 rfl rfl rfl rfl) <| St1.call (vals := [.pointer (some ⟨b_1, 0, none⟩)]) en15 rfl (packetsD hS_85 (by first | decide | assumption | omega)) ?_
          rintro _ w_105 ⟨a_102, c_103, ks_104, rfl, ho_106, hQ_107, hpe_108, hg_109, hg_110, hap_111, K_112⟩
          have pr_113 : ∀ q_, own a_102 q_ → ¬ own a_11 q_ := apartNew hg_109 ho_15.own_lt
          have pr_114 : ∀ q_, own a_102 q_ → ¬ mgsS ks_13 q_ := apartNew hg_109 hQ_16.own_lt
          have pr_115 : ∀ q_, own a_102 q_ → ¬ own a_34 q_ := apartNew hg_109 ho_38.own_lt
          have pr_116 : ∀ q_, own a_102 q_ → ¬ mgsS ks_36 q_ := apartNew hg_109 hQ_39.own_lt
          have pr_117 : ¬ own a_102 b_68 := notNew hg_109 hb_71.lt
          have pr_118 : ∀ q_, own a_102 q_ → ¬ F_83 q_ := apartNew hg_109 hS_85.own_lt
          have pg_119 : ∀ q_, own a_102 q_ → w.heap.size ≤ q_ := fun q_ h => Nat.le_trans K0.size (hg_109 q_ h)
          have pr_120 : ∀ q_, mgsS ks_104 q_ → ¬ own a_11 q_ := apartNew hg_110 ho_15.own_lt
          have pr_121 : ∀ q_, mgsS ks_104 q_ → ¬ mgsS ks_13 q_ := apartNew hg_110 hQ_16.own_lt
          have pr_122 : ∀ q_, mgsS ks_104 q_ → ¬ own a_34 q_ := apartNew hg_110 ho_38.own_lt
          have pr_123 : ∀ q_, mgsS ks_104 q_ → ¬ mgsS ks_36 q_ := apartNew hg_110 hQ_39.own_lt
          have pr_124 : ¬ mgsS ks_104 b_68 := notNew hg_110 hb_71.lt
          have pr_125 : ∀ q_, mgsS ks_104 q_ → ¬ F_83 q_ := apartNew hg_110 hS_85.own_lt
          have pg_126 : ∀ q_, mgsS ks_104 q_ → w.heap.size ≤ q_ := fun q_ h => Nat.le_trans K0.size (hg_110 q_ h)
          clear hg_109 hg_110
          have hkl_ks_104 : (ks_104.map Pk.k).length = ((snI (1 + m8) 0 ([] : List (Int × MV)) (ks_13.map Pk.v) ks_13.length).pv).length := by have := congrArg List.length hpe_108; simpa using this
          replace ho_15 := ho_15.ext K_112
          replace hQ_16 := hQ_16.ext K_112
          replace ho_38 := ho_38.ext K_112
          replace hQ_39 := hQ_39.ext K_112
          replace hb_71 := hb_71.ext K_112
          replace hS_85 := hS_85.ext K_112
          replace K0 := K0.ext K_112
          refine ⟨.inr ⟨hb_71, trivial⟩, ?_⟩
          refine RT.gst 36 rfl (by kernel_rfl) (wantedF1 rfl rfl rfl rfl) <| St1.call (vals := [.slice (a_102) ((ks_104.map Pk.k).length) (c_103), .slice (a_34) ((ks_36.map Pk.k).length) (c_35)]) en16 rfl (sameP_T (ks := ks_104) (us := ks_36) ho_106.sl ho_38.sl hQ_107 hQ_39 (by have h_ := congrArg List.length hpe_108; simp only [List.length_map] at h_; omega) (hpe_108.trans hpe_40.symm)) ?_
          rintro _ w_127 ⟨rfl, K_128⟩
          replace ho_15 := ho_15.ext K_128
          replace hQ_16 := hQ_16.ext K_128
          replace ho_38 := ho_38.ext K_128
          replace hQ_39 := hQ_39.ext K_128
          replace hb_71 := hb_71.ext K_128
          replace hS_85 := hS_85.ext K_128
          replace ho_106 := ho_106.ext K_128
          replace hQ_107 := hQ_107.ext K_128
          replace K0 := K0.ext K_128
          refine ⟨.inr ⟨hb_71, trivial⟩, ?_⟩
          refine RT.gtakeP (v := .bool (false)) 37 rfl (by kernel_rfl) (.inr ⟨hb_71, trivial⟩) (wantedF1 rfl rfl rfl rfl) (fun hg _ => (x_not (b := true) rfl)) ?_
          refine RT.takeP (v := .bool (false)) 38 rfl (by kernel_rfl) (.inr ⟨hb_71, trivial⟩) (fun _ => (x_orF rfl rfl rfl)) ?_
          refine RT.done (by kernel_rfl) ?_
          refine Run.condF rfl ?_
          refine Run.skip ?_
          refine Run.inBlock ?_
          refine Run.region ?_
          refine RL.val (litI (c := ((i + 1 : Nat) : Int)) (x_add rfl rfl (by omega) (by omega)) rfl) ?_
          refine RL.val (x_moveI rfl) ?_
          refine RL.nil ?_
          refine ih1 (i + 1) _ _ ?_ (by omega)
          refine ⟨F_83, cutL (1 + m8) cs ((c).b) ((c).a), ⟨rfl, rfl, rfl, rfl, rfl, rfl, trivial⟩, K0, ho_15, hQ_16, ho_38, hQ_39, hS_85, pr_88, pr_89, pr_90, pr_91, pg_93, ?_, ?_, ?_⟩
          · omega
          · omega
          · exact cut_nodup hcl hnd
        · refine Run.drawT [] (m := 39) (by kernel_rfl) rfl ?_
          intro w_129 K_130
          replace ho_15 := ho_15.ext K_130
          replace hQ_16 := hQ_16.ext K_130
          replace ho_38 := ho_38.ext K_130
          replace hQ_39 := hQ_39.ext K_130
          replace hb_71 := hb_71.ext K_130
          replace hS_85 := hS_85.ext K_130
          replace K0 := K0.ext K_130
          refine ⟨fun w' => Blk w' b_68 [.int .i64 ((c).a), .int .i64 ((c).b)] 62 ∧ True, ?_⟩
          refine RT.takeP (v := .int .i64 (cutE (1 + m8) cs ((c).b) ((c).a))) 0 rfl (by kernel_rfl) (.inr ⟨hb_71, trivial⟩) (fun _ => (x_moveI rfl)) ?_
          refine RT.takeP (v := .bool ((cutE (1 + m8) cs ((c).b) ((c).a)) == 0)) 1 rfl (by kernel_rfl) (.inr ⟨hb_71, trivial⟩) (fun _ => (x_eqI rfl rfl)) ?_
          refine RT.takeP (v := .bool (twoB (1 + m8) c.a c.b)) 2 rfl (by kernel_rfl) (.inr ⟨hb_71, trivial⟩) (fun _ => (x_moveB rfl)) ?_
          refine RT.takeP (v := .bool (false)) 3 rfl (by kernel_rfl) (.inr ⟨hb_71, trivial⟩) (fun _ => (litF (x_neB Try.underlying4 rfl rfl) (both_e (cutE_at hcl)))) ?_
          refine RT.takeP (v := .bool (false)) 4 rfl (by kernel_rfl) (.inr ⟨hb_71, trivial⟩) (fun _ => (x_moveB rfl)) ?_
          refine RT.gtakeP (v := .bool (false)) 5 rfl (by kernel_rfl) (.inr ⟨hb_71, trivial⟩) (wantedF1 rfl rfl rfl rfl) (fun hg _ => (litF (x_moveB rfl) (by simpa using htw))) ?_
          refine RT.gtakeP (v := .bool (false)) 6 rfl (by kernel_rfl) (.inr ⟨hb_71, trivial⟩) (wantedF1 rfl rfl rfl rfl) (fun hg _ => (x_moveB rfl)) ?_
          refine RT.gtakeP (v := undef) 7 rfl (by kernel_rfl) (.inr ⟨hb_71, trivial⟩) (wantedT0 rfl rfl rfl rfl) (fun hg => by cases hg) ?_
          refine RT.gtakeP (v := undef) 8 rfl (by kernel_rfl) (.inr ⟨hb_71, trivial⟩) (wantedT0 rfl rfl rfl rfl) (fun hg => by cases hg) ?_
          refine RT.gtakeP (v := undef) 9 rfl (by kernel_rfl) (.inr ⟨hb_71, trivial⟩) (wantedT0 rfl rfl rfl rfl) (fun hg => by cases hg) ?_
          refine RT.gtakeP (v := undef) 10 rfl (by kernel_rfl) (.inr ⟨hb_71, trivial⟩) (wantedT0 rfl rfl rfl rfl) (fun hg => by cases hg) ?_
          refine RT.gtakeP (v := undef) 11 rfl (by kernel_rfl) (.inr ⟨hb_71, trivial⟩) (wantedT0 rfl rfl rfl rfl) (fun hg => by cases hg) ?_
          refine RT.gtakeP (v := undef) 13 rfl (by kernel_rfl) (.inr ⟨hb_71, trivial⟩) (wantedT0 rfl rfl rfl rfl) (fun hg => by cases hg) ?_
          refine RT.gT 12 rfl (by kernel_rfl) (wantedT0 rfl rfl rfl rfl) (.inr ⟨hb_71, trivial⟩) ?_
          refine RT.gtakeP (v := undef) 14 rfl (by kernel_rfl) (.inr ⟨hb_71, trivial⟩) (wantedT0 rfl rfl rfl rfl) (fun hg => by cases hg) ?_
          refine RT.gtakeP (v := .bool (false)) 15 rfl (by kernel_rfl) (.inr ⟨hb_71, trivial⟩) (wantedF1 rfl rfl rfl rfl) (fun hg _ => (x_and (b := false) (e := false) rfl rfl rfl)) ?_
          refine RT.takeP (v := .bool (false)) 16 rfl (by kernel_rfl) (.inr ⟨hb_71, trivial⟩) (fun _ => (x_orF rfl rfl rfl)) ?_
          refine RT.takeP (v := .bool (false)) 17 rfl (by kernel_rfl) (.inr ⟨hb_71, trivial⟩) (fun _ => (x_moveB rfl)) ?_
          refine RT.gtakeP (v := .pointer (some ⟨b_1, 0, none⟩)) 18 rfl (by kernel_rfl) (.inr ⟨hb_71, trivial⟩) (wantedF1 rfl rfl rfl rfl) (fun hg _ => (x_moveP rfl)) ?_
          refine RT.gtakeP (v := .pointer (some ⟨b_68, 0, none⟩)) 19 rfl (by kernel_rfl) (.inr ⟨hb_71, trivial⟩) (wantedF1 rfl rfl rfl rfl) (fun hg _ => (litV (v' := .pointer (some ⟨b_68, 0, none⟩)) (x_idxAN (i := 0) Try.underlying62 ty3 rfl rfl (by decide)) rfl)) ?_
          refine RT.gtake (v := .int .i64 ((c).a)) 20 rfl (by kernel_rfl) ⟨hb_71, trivial⟩ (wantedF1 rfl rfl rfl rfl) (fun hg => by rintro _ ⟨hb_71, -⟩; exact (x_ld (v := .int .i64 ((c).a)) ty3 rfl rfl (hb_71.cl.field (i := 0) rfl))) ?_
          refine RT.gtakeP (v := .pointer (some ⟨b_68, 1, none⟩)) 21 rfl (by kernel_rfl) (.inr ⟨hb_71, trivial⟩) (wantedF1 rfl rfl rfl rfl) (fun hg _ => (litV (v' := .pointer (some ⟨b_68, 1, none⟩)) (x_idxAN (i := 1) Try.underlying62 ty3 rfl rfl (by decide)) rfl)) ?_
          refine RT.gtake (v := .int .i64 ((c).b)) 22 rfl (by kernel_rfl) ⟨hb_71, trivial⟩ (wantedF1 rfl rfl rfl rfl) (fun hg => by rintro _ ⟨hb_71, -⟩; exact (x_ld (v := .int .i64 ((c).b)) ty3 rfl rfl (hb_71.cl.field (i := 1) rfl))) ?_
          refine RT.gtakeP (v := .pointer (some ⟨b_1, 0, none⟩)) 24 rfl (by kernel_rfl) (.inr ⟨hb_71, trivial⟩) (wantedF1 rfl rfl rfl rfl) (fun hg _ => (x_moveP rfl)) ?_
          refine RT.gtakeP (v := .pointer (some ⟨b_68, 1, none⟩)) 25 rfl (by kernel_rfl) (.inr ⟨hb_71, trivial⟩) (wantedF1 rfl rfl rfl rfl) (fun hg _ => (litV (v' := .pointer (some ⟨b_68, 1, none⟩)) (x_idxAN (i := 1) Try.underlying62 ty3 rfl rfl (by decide)) rfl)) ?_
          refine RT.gtake (v := .int .i64 ((c).b)) 26 rfl (by kernel_rfl) ⟨hb_71, trivial⟩ (wantedF1 rfl rfl rfl rfl) (fun hg => by rintro _ ⟨hb_71, -⟩; exact (x_ld (v := .int .i64 ((c).b)) ty3 rfl rfl (hb_71.cl.field (i := 1) rfl))) ?_
          refine RT.gtakeP (v := .pointer (some ⟨b_68, 0, none⟩)) 27 rfl (by kernel_rfl) (.inr ⟨hb_71, trivial⟩) (wantedF1 rfl rfl rfl rfl) (fun hg _ => (litV (v' := .pointer (some ⟨b_68, 0, none⟩)) (x_idxAN (i := 0) Try.underlying62 ty3 rfl rfl (by decide)) rfl)) ?_
          refine RT.gtake (v := .int .i64 ((c).a)) 28 rfl (by kernel_rfl) ⟨hb_71, trivial⟩ (wantedF1 rfl rfl rfl rfl) (fun hg => by rintro _ ⟨hb_71, -⟩; exact (x_ld (v := .int .i64 ((c).a)) ty3 rfl rfl (hb_71.cl.field (i := 0) rfl))) ?_
          refine RT.gst 23 rfl (by kernel_rfl) (wantedF1 rfl rfl rfl rfl) <| St1.call (vals := [.pointer (some ⟨b_1, 0, none⟩), .int .i64 ((c).a), .int .i64 ((c).b)]) en18 rfl (linkedD hS_85 ((c).a) ((c).b)) ?_
          rintro _ w_131 ⟨rfl, K_132⟩
          replace ho_15 := ho_15.ext K_132
          replace hQ_16 := hQ_16.ext K_132
          replace ho_38 := ho_38.ext K_132
          replace hQ_39 := hQ_39.ext K_132
          replace hb_71 := hb_71.ext K_132
          replace hS_85 := hS_85.ext K_132
          replace K0 := K0.ext K_132
          refine ⟨.inr ⟨hb_71, trivial⟩, ?_⟩
          refine RT.gst 29 rfl (by kernel_rfl) (wantedF1 rfl rfl rfl rfl) <| St1.call (vals := [.pointer (some ⟨b_1, 0, none⟩), .int .i64 ((c).b), .int .i64 ((c).a)]) en18 rfl (linkedD hS_85 ((c).b) ((c).a)) ?_
          rintro _ w_133 ⟨rfl, K_134⟩
          replace ho_15 := ho_15.ext K_134
          replace hQ_16 := hQ_16.ext K_134
          replace ho_38 := ho_38.ext K_134
          replace hQ_39 := hQ_39.ext K_134
          replace hb_71 := hb_71.ext K_134
          replace hS_85 := hS_85.ext K_134
          replace K0 := K0.ext K_134
          refine ⟨.inr ⟨hb_71, trivial⟩, ?_⟩
          refine RT.gtakeP (v := .bool (false)) 30 rfl (by kernel_rfl) (.inr ⟨hb_71, trivial⟩) (wantedF1 rfl rfl rfl rfl) (fun hg _ => (litF (x_neB Try.underlying4 rfl rfl) (by rw [linked_comm]; simp))) ?_
          refine RT.takeP (v := .bool (false)) 31 rfl (by kernel_rfl) (.inr ⟨hb_71, trivial⟩) (fun _ => (x_orF rfl rfl rfl)) ?_
          refine RT.takeP (v := .bool (false)) 32 rfl (by kernel_rfl) (.inr ⟨hb_71, trivial⟩) (fun _ => (x_moveB rfl)) ?_
          refine RT.gtakeP (v := .pointer (some ⟨b_1, 0, none⟩)) 33 rfl (by kernel_rfl) (.inr ⟨hb_71, trivial⟩) (wantedF1 rfl rfl rfl rfl) (fun hg _ => (x_moveP rfl)) ?_
          refine RT.gtakeP (v := .slice (a_34) ((ks_36.map Pk.k).length) (c_35)) 35 rfl (by kernel_rfl) (.inr ⟨hb_71, trivial⟩) (wantedF1 rfl rfl rfl rfl) (fun hg _ => (x_moveSl rfl)) ?_
          refine RT.gst 34 rfl (by kernel_rfl) (wantedF1 rfl rfl rfl rfl) <| St1.call (vals := [.pointer (some ⟨b_1, 0, none⟩)]) en15 rfl (packetsD hS_85 (by first | decide | assumption | omega)) ?_
          rintro _ w_138 ⟨a_135, c_136, ks_137, rfl, ho_139, hQ_140, hpe_141, hg_142, hg_143, hap_144, K_145⟩
          have pr_146 : ∀ q_, own a_135 q_ → ¬ own a_11 q_ := apartNew hg_142 ho_15.own_lt
          have pr_147 : ∀ q_, own a_135 q_ → ¬ mgsS ks_13 q_ := apartNew hg_142 hQ_16.own_lt
          have pr_148 : ∀ q_, own a_135 q_ → ¬ own a_34 q_ := apartNew hg_142 ho_38.own_lt
          have pr_149 : ∀ q_, own a_135 q_ → ¬ mgsS ks_36 q_ := apartNew hg_142 hQ_39.own_lt
          have pr_150 : ¬ own a_135 b_68 := notNew hg_142 hb_71.lt
          have pr_151 : ∀ q_, own a_135 q_ → ¬ F_83 q_ := apartNew hg_142 hS_85.own_lt
          have pg_152 : ∀ q_, own a_135 q_ → w.heap.size ≤ q_ := fun q_ h => Nat.le_trans K0.size (hg_142 q_ h)
          have pr_153 : ∀ q_, mgsS ks_137 q_ → ¬ own a_11 q_ := apartNew hg_143 ho_15.own_lt
          have pr_154 : ∀ q_, mgsS ks_137 q_ → ¬ mgsS ks_13 q_ := apartNew hg_143 hQ_16.own_lt
          have pr_155 : ∀ q_, mgsS ks_137 q_ → ¬ own a_34 q_ := apartNew hg_143 ho_38.own_lt
          have pr_156 : ∀ q_, mgsS ks_137 q_ → ¬ mgsS ks_36 q_ := apartNew hg_143 hQ_39.own_lt
          have pr_157 : ¬ mgsS ks_137 b_68 := notNew hg_143 hb_71.lt
          have pr_158 : ∀ q_, mgsS ks_137 q_ → ¬ F_83 q_ := apartNew hg_143 hS_85.own_lt
          have pg_159 : ∀ q_, mgsS ks_137 q_ → w.heap.size ≤ q_ := fun q_ h => Nat.le_trans K0.size (hg_143 q_ h)
          clear hg_142 hg_143
          have hkl_ks_137 : (ks_137.map Pk.k).length = ((snI (1 + m8) 0 ([] : List (Int × MV)) (ks_13.map Pk.v) ks_13.length).pv).length := by have := congrArg List.length hpe_141; simpa using this
          replace ho_15 := ho_15.ext K_145
          replace hQ_16 := hQ_16.ext K_145
          replace ho_38 := ho_38.ext K_145
          replace hQ_39 := hQ_39.ext K_145
          replace hb_71 := hb_71.ext K_145
          replace hS_85 := hS_85.ext K_145
          replace K0 := K0.ext K_145
          refine ⟨.inr ⟨hb_71, trivial⟩, ?_⟩
          refine RT.gst 36 rfl (by kernel_rfl) (wantedF1 rfl rfl rfl rfl) <| St1.call (vals := [.slice (a_135) ((ks_137.map Pk.k).length) (c_136), .slice (a_34) ((ks_36.map Pk.k).length) (c_35)]) en16 rfl (sameP_T (ks := ks_137) (us := ks_36) ho_139.sl ho_38.sl hQ_140 hQ_39 (by have h_ := congrArg List.length hpe_141; simp only [List.length_map] at h_; omega) (hpe_141.trans hpe_40.symm)) ?_
          rintro _ w_160 ⟨rfl, K_161⟩
          replace ho_15 := ho_15.ext K_161
          replace hQ_16 := hQ_16.ext K_161
          replace ho_38 := ho_38.ext K_161
          replace hQ_39 := hQ_39.ext K_161
          replace hb_71 := hb_71.ext K_161
          replace hS_85 := hS_85.ext K_161
          replace ho_139 := ho_139.ext K_161
          replace hQ_140 := hQ_140.ext K_161
          replace K0 := K0.ext K_161
          refine ⟨.inr ⟨hb_71, trivial⟩, ?_⟩
          refine RT.gtakeP (v := .bool (false)) 37 rfl (by kernel_rfl) (.inr ⟨hb_71, trivial⟩) (wantedF1 rfl rfl rfl rfl) (fun hg _ => (x_not (b := true) rfl)) ?_
          refine RT.takeP (v := .bool (false)) 38 rfl (by kernel_rfl) (.inr ⟨hb_71, trivial⟩) (fun _ => (x_orF rfl rfl rfl)) ?_
          refine RT.done (by kernel_rfl) ?_
          refine Run.condF rfl ?_
          refine Run.skip ?_
          refine Run.inBlock ?_
          refine Run.region ?_
          refine RL.val (litI (c := ((i + 1 : Nat) : Int)) (x_add rfl rfl (by omega) (by omega)) rfl) ?_
          refine RL.val (x_moveI rfl) ?_
          refine RL.nil ?_
          refine ih1 (i + 1) _ _ ?_ (by omega)
          refine ⟨F_83, cutL (1 + m8) cs ((c).b) ((c).a), ⟨rfl, rfl, rfl, rfl, rfl, rfl, trivial⟩, K0, ho_15, hQ_16, ho_38, hQ_39, hS_85, pr_88, pr_89, pr_90, pr_91, pg_93, ?_, ?_, ?_⟩
          · omega
          · omega
          · exact cut_nodup hcl hnd
      · skip
        have hcl : linkedB (1 + m8) cs c.a c.b = false := by simpa using hc55
        refine Run.region ?_
        refine RL.val (x_moveP rfl) ?_
        refine RL.val (litV (v' := .pointer (some ⟨b_68, 1, none⟩)) (x_idxAN (i := 1) Try.underlying62 ty3 rfl rfl (by decide)) rfl) ?_
        refine RL.val (x_ld (v := .int .i64 ((c).b)) ty3 rfl rfl (hb_71.cl.field (i := 1) rfl)) ?_
        refine RL.val (litV (v' := .pointer (some ⟨b_68, 0, none⟩)) (x_idxAN (i := 0) Try.underlying62 ty3 rfl rfl (by decide)) rfl) ?_
        refine RL.val (x_ld (v := .int .i64 ((c).a)) ty3 rfl rfl (hb_71.cl.field (i := 0) rfl)) ?_
        refine RL.st rfl <| St1.call (vals := [.pointer (some ⟨b_1, 0, none⟩), .int .i64 ((c).b), .int .i64 ((c).a)]) en20 rfl (mendD hO_55 ((c).b) ((c).a)) ?_
        rintro _ w_163 ⟨F_162, rfl, hS_164, hm_165, K_166⟩
        have pr_167 : ∀ q_, F_162 q_ → ¬ own a_11 q_ := hm_165.apart pr_56 ho_15.own_lt
        have pr_168 : ∀ q_, F_162 q_ → ¬ mgsS ks_13 q_ := hm_165.apart pr_57 hQ_16.own_lt
        have pr_169 : ∀ q_, F_162 q_ → ¬ own a_34 q_ := hm_165.apart pr_58 ho_38.own_lt
        have pr_170 : ∀ q_, F_162 q_ → ¬ mgsS ks_36 q_ := hm_165.apart pr_59 hQ_39.own_lt
        have pr_171 : ¬ F_162 b_68 := hm_165.not pr_78 hb_71.lt
        have pg_172 : ∀ q_, F_162 q_ → w.heap.size ≤ q_ := hm_165.ge pr_60 K0.size
        replace ho_15 := ho_15.keepO K_166 (fun q_ h1 h2 => pr_56 q_ h2 h1)
        replace hQ_16 := hQ_16.keepO K_166 (fun q_ h1 h2 => pr_57 q_ h2 h1)
        replace ho_38 := ho_38.keepO K_166 (fun q_ h1 h2 => pr_58 q_ h2 h1)
        replace hQ_39 := hQ_39.keepO K_166 (fun q_ h1 h2 => pr_59 q_ h2 h1)
        replace hb_71 := hb_71.keep K_166 pr_78
        replace K0 := K0.new K_166 pr_60
        clear hm_165
        refine RL.val (x_assignI rfl) ?_
        refine RL.nil ?_
        refine Run.seq ?_
        refine Run.region ?_
        refine RL.val (litV (v' := .pointer (some ⟨b_68, 0, none⟩)) (x_idxAN (i := 0) Try.underlying62 ty3 rfl rfl (by decide)) rfl) ?_
        refine RL.val (x_ld (v := .int .i64 ((c).a)) ty3 rfl rfl (hb_71.cl.field (i := 0) rfl)) ?_
        refine RL.val (litV (v' := .pointer (some ⟨b_68, 1, none⟩)) (x_idxAN (i := 1) Try.underlying62 ty3 rfl rfl (by decide)) rfl) ?_
        refine RL.val (x_ld (v := .int .i64 ((c).b)) ty3 rfl rfl (hb_71.cl.field (i := 1) rfl)) ?_
        refine RL.val (x_neI rfl rfl) ?_
        refine RL.val (x_moveB rfl) ?_
        refine RL.gval (wantedT rfl rfl rfl rfl) (fun hg => (litV (v' := .pointer (some ⟨b_68, 0, none⟩)) (x_idxAN (i := 0) Try.underlying62 ty3 rfl rfl (by decide)) rfl)) ?_
        refine RL.gval (wantedT rfl rfl rfl rfl) (fun hg => (x_ld (v := .int .i64 ((c).a)) ty3 (gvr hg) rfl (hb_71.cl.field (i := 0) rfl))) ?_
        refine RL.gval (wantedT rfl rfl rfl rfl) (fun hg => (x_geI (gvr hg) rfl)) ?_
        refine RL.val (x_and rfl rfl rfl) ?_
        refine RL.val (x_moveB rfl) ?_
        refine RL.gval (wantedT rfl rfl rfl rfl) (fun hg => (litV (v' := .pointer (some ⟨b_68, 0, none⟩)) (x_idxAN (i := 0) Try.underlying62 ty3 rfl rfl (by decide)) rfl)) ?_
        refine RL.gval (wantedT rfl rfl rfl rfl) (fun hg => (x_ld (v := .int .i64 ((c).a)) ty3 (gvr hg) rfl (hb_71.cl.field (i := 0) rfl))) ?_
        refine RL.gval (wantedT rfl rfl rfl rfl) (fun hg => (x_moveI rfl)) ?_
        refine RL.gval (wantedT rfl rfl rfl rfl) (fun hg => (x_ltI (gvr hg) (gvr hg))) ?_
        refine RL.val (x_and rfl rfl rfl) ?_
        refine RL.val (x_moveB rfl) ?_
        refine RL.gval (wantedT rfl rfl rfl rfl) (fun hg => (litV (v' := .pointer (some ⟨b_68, 1, none⟩)) (x_idxAN (i := 1) Try.underlying62 ty3 rfl rfl (by decide)) rfl)) ?_
        refine RL.gval (wantedT rfl rfl rfl rfl) (fun hg => (x_ld (v := .int .i64 ((c).b)) ty3 (gvr hg) rfl (hb_71.cl.field (i := 1) rfl))) ?_
        refine RL.gval (wantedT rfl rfl rfl rfl) (fun hg => (x_geI (gvr hg) rfl)) ?_
        refine RL.val (x_and rfl rfl rfl) ?_
        refine RL.val (x_moveB rfl) ?_
        refine RL.gval (wantedT rfl rfl rfl rfl) (fun hg => (litV (v' := .pointer (some ⟨b_68, 1, none⟩)) (x_idxAN (i := 1) Try.underlying62 ty3 rfl rfl (by decide)) rfl)) ?_
        refine RL.gval (wantedT rfl rfl rfl rfl) (fun hg => (x_ld (v := .int .i64 ((c).b)) ty3 (gvr hg) rfl (hb_71.cl.field (i := 1) rfl))) ?_
        refine RL.gval (wantedT rfl rfl rfl rfl) (fun hg => (x_moveI rfl)) ?_
        refine RL.gval (wantedT rfl rfl rfl rfl) (fun hg => (x_ltI (gvr hg) (gvr hg))) ?_
        refine RL.val (x_and rfl rfl rfl) ?_
        refine RL.val (litV (v' := .bool (twoB (1 + m8) c.a c.b)) (x_assignB rfl) (congrArg Value.bool two_eq)) ?_
        refine RL.nil ?_
        refine Run.seq ?_
        by_cases htw : twoB (1 + m8) c.a c.b = true
        · refine Run.drawT [] (m := 39) (by kernel_rfl) rfl ?_
          intro w_173 K_174
          replace ho_15 := ho_15.ext K_174
          replace hQ_16 := hQ_16.ext K_174
          replace ho_38 := ho_38.ext K_174
          replace hQ_39 := hQ_39.ext K_174
          replace hb_71 := hb_71.ext K_174
          replace hS_164 := hS_164.ext K_174
          replace K0 := K0.ext K_174
          refine ⟨fun w' => Blk w' b_68 [.int .i64 ((c).a), .int .i64 ((c).b)] 62 ∧ True, ?_⟩
          refine RT.takeP (v := .int .i64 (mendE (1 + m8) cs ((c).b) ((c).a))) 0 rfl (by kernel_rfl) (.inr ⟨hb_71, trivial⟩) (fun _ => (x_moveI rfl)) ?_
          refine RT.takeP (v := .bool ((mendE (1 + m8) cs ((c).b) ((c).a)) == 0)) 1 rfl (by kernel_rfl) (.inr ⟨hb_71, trivial⟩) (fun _ => (x_eqI rfl rfl)) ?_
          refine RT.takeP (v := .bool (twoB (1 + m8) c.a c.b)) 2 rfl (by kernel_rfl) (.inr ⟨hb_71, trivial⟩) (fun _ => (x_moveB rfl)) ?_
          refine RT.takeP (v := .bool (false)) 3 rfl (by kernel_rfl) (.inr ⟨hb_71, trivial⟩) (fun _ => (litF (x_neB Try.underlying4 rfl rfl) (both_e (mendE_at hcl)))) ?_
          refine RT.takeP (v := .bool (false)) 4 rfl (by kernel_rfl) (.inr ⟨hb_71, trivial⟩) (fun _ => (x_moveB rfl)) ?_
          refine RT.gtakeP (v := .bool (true)) 5 rfl (by kernel_rfl) (.inr ⟨hb_71, trivial⟩) (wantedF1 rfl rfl rfl rfl) (fun hg _ => (litT (x_moveB rfl) htw)) ?_
          refine RT.gtakeP (v := .bool (true)) 6 rfl (by kernel_rfl) (.inr ⟨hb_71, trivial⟩) (wantedF1 rfl rfl rfl rfl) (fun hg _ => (x_moveB rfl)) ?_
          refine RT.gtakeP (v := .pointer (some ⟨b_1, 0, none⟩)) 7 rfl (by kernel_rfl) (.inr ⟨hb_71, trivial⟩) (wantedT1 rfl rfl rfl rfl) (fun hg _ => (x_moveP rfl)) ?_
          refine RT.gtakeP (v := .pointer (some ⟨b_68, 0, none⟩)) 8 rfl (by kernel_rfl) (.inr ⟨hb_71, trivial⟩) (wantedT1 rfl rfl rfl rfl) (fun hg _ => (litV (v' := .pointer (some ⟨b_68, 0, none⟩)) (x_idxAN (i := 0) Try.underlying62 ty3 rfl rfl (by decide)) rfl)) ?_
          refine RT.gtake (v := .int .i64 ((c).a)) 9 rfl (by kernel_rfl) ⟨hb_71, trivial⟩ (wantedT1 rfl rfl rfl rfl) (fun hg => by rintro _ ⟨hb_71, -⟩; exact (x_ld (v := .int .i64 ((c).a)) ty3 rfl rfl (hb_71.cl.field (i := 0) rfl))) ?_
          refine RT.gtakeP (v := .pointer (some ⟨b_68, 1, none⟩)) 10 rfl (by kernel_rfl) (.inr ⟨hb_71, trivial⟩) (wantedT1 rfl rfl rfl rfl) (fun hg _ => (litV (v' := .pointer (some ⟨b_68, 1, none⟩)) (x_idxAN (i := 1) Try.underlying62 ty3 rfl rfl (by decide)) rfl)) ?_
          refine RT.gtake (v := .int .i64 ((c).b)) 11 rfl (by kernel_rfl) ⟨hb_71, trivial⟩ (wantedT1 rfl rfl rfl rfl) (fun hg => by rintro _ ⟨hb_71, -⟩; exact (x_ld (v := .int .i64 ((c).b)) ty3 rfl rfl (hb_71.cl.field (i := 1) rfl))) ?_
          refine RT.gtakeP (v := .bool (linkedB (1 + m8) cs ((c).a) ((c).b))) 13 rfl (by kernel_rfl) (.inr ⟨hb_71, trivial⟩) (wantedT1 rfl rfl rfl rfl) (fun hg _ => (x_moveB rfl)) ?_
          refine RT.gst 12 rfl (by kernel_rfl) (wantedT1 rfl rfl rfl rfl) <| St1.call (vals := [.pointer (some ⟨b_1, 0, none⟩), .int .i64 ((c).a), .int .i64 ((c).b)]) en18 rfl (linkedD hS_164 ((c).a) ((c).b)) ?_
          rintro _ w_175 ⟨rfl, K_176⟩
          replace ho_15 := ho_15.ext K_176
          replace hQ_16 := hQ_16.ext K_176
          replace ho_38 := ho_38.ext K_176
          replace hQ_39 := hQ_39.ext K_176
          replace hb_71 := hb_71.ext K_176
          replace hS_164 := hS_164.ext K_176
          replace K0 := K0.ext K_176
          refine ⟨.inr ⟨hb_71, trivial⟩, ?_⟩
          refine RT.gtakeP (v := .bool (false)) 14 rfl (by kernel_rfl) (.inr ⟨hb_71, trivial⟩) (wantedT1 rfl rfl rfl rfl) (fun hg _ => (litF (x_eqB Try.underlying4 rfl rfl) (by rw [both_mend hcl htw hnd, hcl]; rfl))) ?_
          refine RT.gtakeP (v := .bool (false)) 15 rfl (by kernel_rfl) (.inr ⟨hb_71, trivial⟩) (wantedF1 rfl rfl rfl rfl) (fun hg _ => (x_andT rfl rfl rfl)) ?_
          refine RT.takeP (v := .bool (false)) 16 rfl (by kernel_rfl) (.inr ⟨hb_71, trivial⟩) (fun _ => (x_orF rfl rfl rfl)) ?_
          refine RT.takeP (v := .bool (false)) 17 rfl (by kernel_rfl) (.inr ⟨hb_71, trivial⟩) (fun _ => (x_moveB rfl)) ?_
          refine RT.gtakeP (v := .pointer (some ⟨b_1, 0, none⟩)) 18 rfl (by kernel_rfl) (.inr ⟨hb_71, trivial⟩) (wantedF1 rfl rfl rfl rfl) (fun hg _ => (x_moveP rfl)) ?_
          refine RT.gtakeP (v := .pointer (some ⟨b_68, 0, none⟩)) 19 rfl (by kernel_rfl) (.inr ⟨hb_71, trivial⟩) (wantedF1 rfl rfl rfl rfl) (fun hg _ => (litV (v' := .pointer (some ⟨b_68, 0, none⟩)) (x_idxAN (i := 0) Try.underlying62 ty3 rfl rfl (by decide)) rfl)) ?_
          refine RT.gtake (v := .int .i64 ((c).a)) 20 rfl (by kernel_rfl) ⟨hb_71, trivial⟩ (wantedF1 rfl rfl rfl rfl) (fun hg => by rintro _ ⟨hb_71, -⟩; exact (x_ld (v := .int .i64 ((c).a)) ty3 rfl rfl (hb_71.cl.field (i := 0) rfl))) ?_
          refine RT.gtakeP (v := .pointer (some ⟨b_68, 1, none⟩)) 21 rfl (by kernel_rfl) (.inr ⟨hb_71, trivial⟩) (wantedF1 rfl rfl rfl rfl) (fun hg _ => (litV (v' := .pointer (some ⟨b_68, 1, none⟩)) (x_idxAN (i := 1) Try.underlying62 ty3 rfl rfl (by decide)) rfl)) ?_
          refine RT.gtake (v := .int .i64 ((c).b)) 22 rfl (by kernel_rfl) ⟨hb_71, trivial⟩ (wantedF1 rfl rfl rfl rfl) (fun hg => by rintro _ ⟨hb_71, -⟩; exact (x_ld (v := .int .i64 ((c).b)) ty3 rfl rfl (hb_71.cl.field (i := 1) rfl))) ?_
          refine RT.gtakeP (v := .pointer (some ⟨b_1, 0, none⟩)) 24 rfl (by kernel_rfl) (.inr ⟨hb_71, trivial⟩) (wantedF1 rfl rfl rfl rfl) (fun hg _ => (x_moveP rfl)) ?_
          refine RT.gtakeP (v := .pointer (some ⟨b_68, 1, none⟩)) 25 rfl (by kernel_rfl) (.inr ⟨hb_71, trivial⟩) (wantedF1 rfl rfl rfl rfl) (fun hg _ => (litV (v' := .pointer (some ⟨b_68, 1, none⟩)) (x_idxAN (i := 1) Try.underlying62 ty3 rfl rfl (by decide)) rfl)) ?_
          refine RT.gtake (v := .int .i64 ((c).b)) 26 rfl (by kernel_rfl) ⟨hb_71, trivial⟩ (wantedF1 rfl rfl rfl rfl) (fun hg => by rintro _ ⟨hb_71, -⟩; exact (x_ld (v := .int .i64 ((c).b)) ty3 rfl rfl (hb_71.cl.field (i := 1) rfl))) ?_
          refine RT.gtakeP (v := .pointer (some ⟨b_68, 0, none⟩)) 27 rfl (by kernel_rfl) (.inr ⟨hb_71, trivial⟩) (wantedF1 rfl rfl rfl rfl) (fun hg _ => (litV (v' := .pointer (some ⟨b_68, 0, none⟩)) (x_idxAN (i := 0) Try.underlying62 ty3 rfl rfl (by decide)) rfl)) ?_
          refine RT.gtake (v := .int .i64 ((c).a)) 28 rfl (by kernel_rfl) ⟨hb_71, trivial⟩ (wantedF1 rfl rfl rfl rfl) (fun hg => by rintro _ ⟨hb_71, -⟩; exact (x_ld (v := .int .i64 ((c).a)) ty3 rfl rfl (hb_71.cl.field (i := 0) rfl))) ?_
          refine RT.gst 23 rfl (by kernel_rfl) (wantedF1 rfl rfl rfl rfl) <| St1.call (vals := [.pointer (some ⟨b_1, 0, none⟩), .int .i64 ((c).a), .int .i64 ((c).b)]) en18 rfl (linkedD hS_164 ((c).a) ((c).b)) ?_
          rintro _ w_177 ⟨rfl, K_178⟩
          replace ho_15 := ho_15.ext K_178
          replace hQ_16 := hQ_16.ext K_178
          replace ho_38 := ho_38.ext K_178
          replace hQ_39 := hQ_39.ext K_178
          replace hb_71 := hb_71.ext K_178
          replace hS_164 := hS_164.ext K_178
          replace K0 := K0.ext K_178
          refine ⟨.inr ⟨hb_71, trivial⟩, ?_⟩
          refine RT.gst 29 rfl (by kernel_rfl) (wantedF1 rfl rfl rfl rfl) <| St1.call (vals := [.pointer (some ⟨b_1, 0, none⟩), .int .i64 ((c).b), .int .i64 ((c).a)]) en18 rfl (linkedD hS_164 ((c).b) ((c).a)) ?_
          rintro _ w_179 ⟨rfl, K_180⟩
          replace ho_15 := ho_15.ext K_180
          replace hQ_16 := hQ_16.ext K_180
          replace ho_38 := ho_38.ext K_180
          replace hQ_39 := hQ_39.ext K_180
          replace hb_71 := hb_71.ext K_180
          replace hS_164 := hS_164.ext K_180
          replace K0 := K0.ext K_180
          refine ⟨.inr ⟨hb_71, trivial⟩, ?_⟩
          refine RT.gtakeP (v := .bool (false)) 30 rfl (by kernel_rfl) (.inr ⟨hb_71, trivial⟩) (wantedF1 rfl rfl rfl rfl) (fun hg _ => (litF (x_neB Try.underlying4 rfl rfl) (by rw [linked_comm]; simp))) ?_
          refine RT.takeP (v := .bool (false)) 31 rfl (by kernel_rfl) (.inr ⟨hb_71, trivial⟩) (fun _ => (x_orF rfl rfl rfl)) ?_
          refine RT.takeP (v := .bool (false)) 32 rfl (by kernel_rfl) (.inr ⟨hb_71, trivial⟩) (fun _ => (x_moveB rfl)) ?_
          refine RT.gtakeP (v := .pointer (some ⟨b_1, 0, none⟩)) 33 rfl (by kernel_rfl) (.inr ⟨hb_71, trivial⟩) (wantedF1 rfl rfl rfl rfl) (fun hg _ => (x_moveP rfl)) ?_
          refine RT.gtakeP (v := .slice (a_34) ((ks_36.map Pk.k).length) (c_35)) 35 rfl (by kernel_rfl) (.inr ⟨hb_71, trivial⟩) (wantedF1 rfl rfl rfl rfl) (fun hg _ => (x_moveSl rfl)) ?_
          refine RT.gst 34 rfl (by kernel_rfl) (wantedF1 rfl rfl rfl rfl) <| St1.call (vals := [.pointer (some ⟨b_1, 0, none⟩)]) en15 rfl (packetsD hS_164 (by first | decide | assumption | omega)) ?_
          rintro _ w_184 ⟨a_181, c_182, ks_183, rfl, ho_185, hQ_186, hpe_187, hg_188, hg_189, hap_190, K_191⟩
          have pr_192 : ∀ q_, own a_181 q_ → ¬ own a_11 q_ := apartNew hg_188 ho_15.own_lt
          have pr_193 : ∀ q_, own a_181 q_ → ¬ mgsS ks_13 q_ := apartNew hg_188 hQ_16.own_lt
          have pr_194 : ∀ q_, own a_181 q_ → ¬ own a_34 q_ := apartNew hg_188 ho_38.own_lt
          have pr_195 : ∀ q_, own a_181 q_ → ¬ mgsS ks_36 q_ := apartNew hg_188 hQ_39.own_lt
          have pr_196 : ¬ own a_181 b_68 := notNew hg_188 hb_71.lt
          have pr_197 : ∀ q_, own a_181 q_ → ¬ F_162 q_ := apartNew hg_188 hS_164.own_lt
          have pg_198 : ∀ q_, own a_181 q_ → w.heap.size ≤ q_ := fun q_ h => Nat.le_trans K0.size (hg_188 q_ h)
          have pr_199 : ∀ q_, mgsS ks_183 q_ → ¬ own a_11 q_ := apartNew hg_189 ho_15.own_lt
          have pr_200 : ∀ q_, mgsS ks_183 q_ → ¬ mgsS ks_13 q_ := apartNew hg_189 hQ_16.own_lt
          have pr_201 : ∀ q_, mgsS ks_183 q_ → ¬ own a_34 q_ := apartNew hg_189 ho_38.own_lt
          have pr_202 : ∀ q_, mgsS ks_183 q_ → ¬ mgsS ks_36 q_ := apartNew hg_189 hQ_39.own_lt
          have pr_203 : ¬ mgsS ks_183 b_68 := notNew hg_189 hb_71.lt
          have pr_204 : ∀ q_, mgsS ks_183 q_ → ¬ F_162 q_ := apartNew hg_189 hS_164.own_lt
          have pg_205 : ∀ q_, mgsS ks_183 q_ → w.heap.size ≤ q_ := fun q_ h => Nat.le_trans K0.size (hg_189 q_ h)
          clear hg_188 hg_189
          have hkl_ks_183 : (ks_183.map Pk.k).length = ((snI (1 + m8) 0 ([] : List (Int × MV)) (ks_13.map Pk.v) ks_13.length).pv).length := by have := congrArg List.length hpe_187; simpa using this
          replace ho_15 := ho_15.ext K_191
          replace hQ_16 := hQ_16.ext K_191
          replace ho_38 := ho_38.ext K_191
          replace hQ_39 := hQ_39.ext K_191
          replace hb_71 := hb_71.ext K_191
          replace hS_164 := hS_164.ext K_191
          replace K0 := K0.ext K_191
          refine ⟨.inr ⟨hb_71, trivial⟩, ?_⟩
          refine RT.gst 36 rfl (by kernel_rfl) (wantedF1 rfl rfl rfl rfl) <| St1.call (vals := [.slice (a_181) ((ks_183.map Pk.k).length) (c_182), .slice (a_34) ((ks_36.map Pk.k).length) (c_35)]) en16 rfl (sameP_T (ks := ks_183) (us := ks_36) ho_185.sl ho_38.sl hQ_186 hQ_39 (by have h_ := congrArg List.length hpe_187; simp only [List.length_map] at h_; omega) (hpe_187.trans hpe_40.symm)) ?_
          rintro _ w_206 ⟨rfl, K_207⟩
          replace ho_15 := ho_15.ext K_207
          replace hQ_16 := hQ_16.ext K_207
          replace ho_38 := ho_38.ext K_207
          replace hQ_39 := hQ_39.ext K_207
          replace hb_71 := hb_71.ext K_207
          replace hS_164 := hS_164.ext K_207
          replace ho_185 := ho_185.ext K_207
          replace hQ_186 := hQ_186.ext K_207
          replace K0 := K0.ext K_207
          refine ⟨.inr ⟨hb_71, trivial⟩, ?_⟩
          refine RT.gtakeP (v := .bool (false)) 37 rfl (by kernel_rfl) (.inr ⟨hb_71, trivial⟩) (wantedF1 rfl rfl rfl rfl) (fun hg _ => (x_not (b := true) rfl)) ?_
          refine RT.takeP (v := .bool (false)) 38 rfl (by kernel_rfl) (.inr ⟨hb_71, trivial⟩) (fun _ => (x_orF rfl rfl rfl)) ?_
          refine RT.done (by kernel_rfl) ?_
          refine Run.condF rfl ?_
          refine Run.skip ?_
          refine Run.inBlock ?_
          refine Run.region ?_
          refine RL.val (litI (c := ((i + 1 : Nat) : Int)) (x_add rfl rfl (by omega) (by omega)) rfl) ?_
          refine RL.val (x_moveI rfl) ?_
          refine RL.nil ?_
          refine ih1 (i + 1) _ _ ?_ (by omega)
          refine ⟨F_162, mendL (1 + m8) cs ((c).b) ((c).a), ⟨rfl, rfl, rfl, rfl, rfl, rfl, trivial⟩, K0, ho_15, hQ_16, ho_38, hQ_39, hS_164, pr_167, pr_168, pr_169, pr_170, pg_172, ?_, ?_, ?_⟩
          · omega
          · omega
          · exact mend_nodup hnd
        · refine Run.drawT [] (m := 39) (by kernel_rfl) rfl ?_
          intro w_208 K_209
          replace ho_15 := ho_15.ext K_209
          replace hQ_16 := hQ_16.ext K_209
          replace ho_38 := ho_38.ext K_209
          replace hQ_39 := hQ_39.ext K_209
          replace hb_71 := hb_71.ext K_209
          replace hS_164 := hS_164.ext K_209
          replace K0 := K0.ext K_209
          refine ⟨fun w' => Blk w' b_68 [.int .i64 ((c).a), .int .i64 ((c).b)] 62 ∧ True, ?_⟩
          refine RT.takeP (v := .int .i64 (mendE (1 + m8) cs ((c).b) ((c).a))) 0 rfl (by kernel_rfl) (.inr ⟨hb_71, trivial⟩) (fun _ => (x_moveI rfl)) ?_
          refine RT.takeP (v := .bool ((mendE (1 + m8) cs ((c).b) ((c).a)) == 0)) 1 rfl (by kernel_rfl) (.inr ⟨hb_71, trivial⟩) (fun _ => (x_eqI rfl rfl)) ?_
          refine RT.takeP (v := .bool (twoB (1 + m8) c.a c.b)) 2 rfl (by kernel_rfl) (.inr ⟨hb_71, trivial⟩) (fun _ => (x_moveB rfl)) ?_
          refine RT.takeP (v := .bool (false)) 3 rfl (by kernel_rfl) (.inr ⟨hb_71, trivial⟩) (fun _ => (litF (x_neB Try.underlying4 rfl rfl) (both_e (mendE_at hcl)))) ?_
          refine RT.takeP (v := .bool (false)) 4 rfl (by kernel_rfl) (.inr ⟨hb_71, trivial⟩) (fun _ => (x_moveB rfl)) ?_
          refine RT.gtakeP (v := .bool (false)) 5 rfl (by kernel_rfl) (.inr ⟨hb_71, trivial⟩) (wantedF1 rfl rfl rfl rfl) (fun hg _ => (litF (x_moveB rfl) (by simpa using htw))) ?_
          refine RT.gtakeP (v := .bool (false)) 6 rfl (by kernel_rfl) (.inr ⟨hb_71, trivial⟩) (wantedF1 rfl rfl rfl rfl) (fun hg _ => (x_moveB rfl)) ?_
          refine RT.gtakeP (v := undef) 7 rfl (by kernel_rfl) (.inr ⟨hb_71, trivial⟩) (wantedT0 rfl rfl rfl rfl) (fun hg => by cases hg) ?_
          refine RT.gtakeP (v := undef) 8 rfl (by kernel_rfl) (.inr ⟨hb_71, trivial⟩) (wantedT0 rfl rfl rfl rfl) (fun hg => by cases hg) ?_
          refine RT.gtakeP (v := undef) 9 rfl (by kernel_rfl) (.inr ⟨hb_71, trivial⟩) (wantedT0 rfl rfl rfl rfl) (fun hg => by cases hg) ?_
          refine RT.gtakeP (v := undef) 10 rfl (by kernel_rfl) (.inr ⟨hb_71, trivial⟩) (wantedT0 rfl rfl rfl rfl) (fun hg => by cases hg) ?_
          refine RT.gtakeP (v := undef) 11 rfl (by kernel_rfl) (.inr ⟨hb_71, trivial⟩) (wantedT0 rfl rfl rfl rfl) (fun hg => by cases hg) ?_
          refine RT.gtakeP (v := undef) 13 rfl (by kernel_rfl) (.inr ⟨hb_71, trivial⟩) (wantedT0 rfl rfl rfl rfl) (fun hg => by cases hg) ?_
          refine RT.gT 12 rfl (by kernel_rfl) (wantedT0 rfl rfl rfl rfl) (.inr ⟨hb_71, trivial⟩) ?_
          refine RT.gtakeP (v := undef) 14 rfl (by kernel_rfl) (.inr ⟨hb_71, trivial⟩) (wantedT0 rfl rfl rfl rfl) (fun hg => by cases hg) ?_
          refine RT.gtakeP (v := .bool (false)) 15 rfl (by kernel_rfl) (.inr ⟨hb_71, trivial⟩) (wantedF1 rfl rfl rfl rfl) (fun hg _ => (x_and (b := false) (e := false) rfl rfl rfl)) ?_
          refine RT.takeP (v := .bool (false)) 16 rfl (by kernel_rfl) (.inr ⟨hb_71, trivial⟩) (fun _ => (x_orF rfl rfl rfl)) ?_
          refine RT.takeP (v := .bool (false)) 17 rfl (by kernel_rfl) (.inr ⟨hb_71, trivial⟩) (fun _ => (x_moveB rfl)) ?_
          refine RT.gtakeP (v := .pointer (some ⟨b_1, 0, none⟩)) 18 rfl (by kernel_rfl) (.inr ⟨hb_71, trivial⟩) (wantedF1 rfl rfl rfl rfl) (fun hg _ => (x_moveP rfl)) ?_
          refine RT.gtakeP (v := .pointer (some ⟨b_68, 0, none⟩)) 19 rfl (by kernel_rfl) (.inr ⟨hb_71, trivial⟩) (wantedF1 rfl rfl rfl rfl) (fun hg _ => (litV (v' := .pointer (some ⟨b_68, 0, none⟩)) (x_idxAN (i := 0) Try.underlying62 ty3 rfl rfl (by decide)) rfl)) ?_
          refine RT.gtake (v := .int .i64 ((c).a)) 20 rfl (by kernel_rfl) ⟨hb_71, trivial⟩ (wantedF1 rfl rfl rfl rfl) (fun hg => by rintro _ ⟨hb_71, -⟩; exact (x_ld (v := .int .i64 ((c).a)) ty3 rfl rfl (hb_71.cl.field (i := 0) rfl))) ?_
          refine RT.gtakeP (v := .pointer (some ⟨b_68, 1, none⟩)) 21 rfl (by kernel_rfl) (.inr ⟨hb_71, trivial⟩) (wantedF1 rfl rfl rfl rfl) (fun hg _ => (litV (v' := .pointer (some ⟨b_68, 1, none⟩)) (x_idxAN (i := 1) Try.underlying62 ty3 rfl rfl (by decide)) rfl)) ?_
          refine RT.gtake (v := .int .i64 ((c).b)) 22 rfl (by kernel_rfl) ⟨hb_71, trivial⟩ (wantedF1 rfl rfl rfl rfl) (fun hg => by rintro _ ⟨hb_71, -⟩; exact (x_ld (v := .int .i64 ((c).b)) ty3 rfl rfl (hb_71.cl.field (i := 1) rfl))) ?_
          refine RT.gtakeP (v := .pointer (some ⟨b_1, 0, none⟩)) 24 rfl (by kernel_rfl) (.inr ⟨hb_71, trivial⟩) (wantedF1 rfl rfl rfl rfl) (fun hg _ => (x_moveP rfl)) ?_
          refine RT.gtakeP (v := .pointer (some ⟨b_68, 1, none⟩)) 25 rfl (by kernel_rfl) (.inr ⟨hb_71, trivial⟩) (wantedF1 rfl rfl rfl rfl) (fun hg _ => (litV (v' := .pointer (some ⟨b_68, 1, none⟩)) (x_idxAN (i := 1) Try.underlying62 ty3 rfl rfl (by decide)) rfl)) ?_
          refine RT.gtake (v := .int .i64 ((c).b)) 26 rfl (by kernel_rfl) ⟨hb_71, trivial⟩ (wantedF1 rfl rfl rfl rfl) (fun hg => by rintro _ ⟨hb_71, -⟩; exact (x_ld (v := .int .i64 ((c).b)) ty3 rfl rfl (hb_71.cl.field (i := 1) rfl))) ?_
          refine RT.gtakeP (v := .pointer (some ⟨b_68, 0, none⟩)) 27 rfl (by kernel_rfl) (.inr ⟨hb_71, trivial⟩) (wantedF1 rfl rfl rfl rfl) (fun hg _ => (litV (v' := .pointer (some ⟨b_68, 0, none⟩)) (x_idxAN (i := 0) Try.underlying62 ty3 rfl rfl (by decide)) rfl)) ?_
          refine RT.gtake (v := .int .i64 ((c).a)) 28 rfl (by kernel_rfl) ⟨hb_71, trivial⟩ (wantedF1 rfl rfl rfl rfl) (fun hg => by rintro _ ⟨hb_71, -⟩; exact (x_ld (v := .int .i64 ((c).a)) ty3 rfl rfl (hb_71.cl.field (i := 0) rfl))) ?_
          refine RT.gst 23 rfl (by kernel_rfl) (wantedF1 rfl rfl rfl rfl) <| St1.call (vals := [.pointer (some ⟨b_1, 0, none⟩), .int .i64 ((c).a), .int .i64 ((c).b)]) en18 rfl (linkedD hS_164 ((c).a) ((c).b)) ?_
          rintro _ w_210 ⟨rfl, K_211⟩
          replace ho_15 := ho_15.ext K_211
          replace hQ_16 := hQ_16.ext K_211
          replace ho_38 := ho_38.ext K_211
          replace hQ_39 := hQ_39.ext K_211
          replace hb_71 := hb_71.ext K_211
          replace hS_164 := hS_164.ext K_211
          replace K0 := K0.ext K_211
          refine ⟨.inr ⟨hb_71, trivial⟩, ?_⟩
          refine RT.gst 29 rfl (by kernel_rfl) (wantedF1 rfl rfl rfl rfl) <| St1.call (vals := [.pointer (some ⟨b_1, 0, none⟩), .int .i64 ((c).b), .int .i64 ((c).a)]) en18 rfl (linkedD hS_164 ((c).b) ((c).a)) ?_
          rintro _ w_212 ⟨rfl, K_213⟩
          replace ho_15 := ho_15.ext K_213
          replace hQ_16 := hQ_16.ext K_213
          replace ho_38 := ho_38.ext K_213
          replace hQ_39 := hQ_39.ext K_213
          replace hb_71 := hb_71.ext K_213
          replace hS_164 := hS_164.ext K_213
          replace K0 := K0.ext K_213
          refine ⟨.inr ⟨hb_71, trivial⟩, ?_⟩
          refine RT.gtakeP (v := .bool (false)) 30 rfl (by kernel_rfl) (.inr ⟨hb_71, trivial⟩) (wantedF1 rfl rfl rfl rfl) (fun hg _ => (litF (x_neB Try.underlying4 rfl rfl) (by rw [linked_comm]; simp))) ?_
          refine RT.takeP (v := .bool (false)) 31 rfl (by kernel_rfl) (.inr ⟨hb_71, trivial⟩) (fun _ => (x_orF rfl rfl rfl)) ?_
          refine RT.takeP (v := .bool (false)) 32 rfl (by kernel_rfl) (.inr ⟨hb_71, trivial⟩) (fun _ => (x_moveB rfl)) ?_
          refine RT.gtakeP (v := .pointer (some ⟨b_1, 0, none⟩)) 33 rfl (by kernel_rfl) (.inr ⟨hb_71, trivial⟩) (wantedF1 rfl rfl rfl rfl) (fun hg _ => (x_moveP rfl)) ?_
          refine RT.gtakeP (v := .slice (a_34) ((ks_36.map Pk.k).length) (c_35)) 35 rfl (by kernel_rfl) (.inr ⟨hb_71, trivial⟩) (wantedF1 rfl rfl rfl rfl) (fun hg _ => (x_moveSl rfl)) ?_
          refine RT.gst 34 rfl (by kernel_rfl) (wantedF1 rfl rfl rfl rfl) <| St1.call (vals := [.pointer (some ⟨b_1, 0, none⟩)]) en15 rfl (packetsD hS_164 (by first | decide | assumption | omega)) ?_
          rintro _ w_217 ⟨a_214, c_215, ks_216, rfl, ho_218, hQ_219, hpe_220, hg_221, hg_222, hap_223, K_224⟩
          have pr_225 : ∀ q_, own a_214 q_ → ¬ own a_11 q_ := apartNew hg_221 ho_15.own_lt
          have pr_226 : ∀ q_, own a_214 q_ → ¬ mgsS ks_13 q_ := apartNew hg_221 hQ_16.own_lt
          have pr_227 : ∀ q_, own a_214 q_ → ¬ own a_34 q_ := apartNew hg_221 ho_38.own_lt
          have pr_228 : ∀ q_, own a_214 q_ → ¬ mgsS ks_36 q_ := apartNew hg_221 hQ_39.own_lt
          have pr_229 : ¬ own a_214 b_68 := notNew hg_221 hb_71.lt
          have pr_230 : ∀ q_, own a_214 q_ → ¬ F_162 q_ := apartNew hg_221 hS_164.own_lt
          have pg_231 : ∀ q_, own a_214 q_ → w.heap.size ≤ q_ := fun q_ h => Nat.le_trans K0.size (hg_221 q_ h)
          have pr_232 : ∀ q_, mgsS ks_216 q_ → ¬ own a_11 q_ := apartNew hg_222 ho_15.own_lt
          have pr_233 : ∀ q_, mgsS ks_216 q_ → ¬ mgsS ks_13 q_ := apartNew hg_222 hQ_16.own_lt
          have pr_234 : ∀ q_, mgsS ks_216 q_ → ¬ own a_34 q_ := apartNew hg_222 ho_38.own_lt
          have pr_235 : ∀ q_, mgsS ks_216 q_ → ¬ mgsS ks_36 q_ := apartNew hg_222 hQ_39.own_lt
          have pr_236 : ¬ mgsS ks_216 b_68 := notNew hg_222 hb_71.lt
          have pr_237 : ∀ q_, mgsS ks_216 q_ → ¬ F_162 q_ := apartNew hg_222 hS_164.own_lt
          have pg_238 : ∀ q_, mgsS ks_216 q_ → w.heap.size ≤ q_ := fun q_ h => Nat.le_trans K0.size (hg_222 q_ h)
          clear hg_221 hg_222
          have hkl_ks_216 : (ks_216.map Pk.k).length = ((snI (1 + m8) 0 ([] : List (Int × MV)) (ks_13.map Pk.v) ks_13.length).pv).length := by have := congrArg List.length hpe_220; simpa using this
          replace ho_15 := ho_15.ext K_224
          replace hQ_16 := hQ_16.ext K_224
          replace ho_38 := ho_38.ext K_224
          replace hQ_39 := hQ_39.ext K_224
          replace hb_71 := hb_71.ext K_224
          replace hS_164 := hS_164.ext K_224
          replace K0 := K0.ext K_224
          refine ⟨.inr ⟨hb_71, trivial⟩, ?_⟩
          refine RT.gst 36 rfl (by kernel_rfl) (wantedF1 rfl rfl rfl rfl) <| St1.call (vals := [.slice (a_214) ((ks_216.map Pk.k).length) (c_215), .slice (a_34) ((ks_36.map Pk.k).length) (c_35)]) en16 rfl (sameP_T (ks := ks_216) (us := ks_36) ho_218.sl ho_38.sl hQ_219 hQ_39 (by have h_ := congrArg List.length hpe_220; simp only [List.length_map] at h_; omega) (hpe_220.trans hpe_40.symm)) ?_
          rintro _ w_239 ⟨rfl, K_240⟩
          replace ho_15 := ho_15.ext K_240
          replace hQ_16 := hQ_16.ext K_240
          replace ho_38 := ho_38.ext K_240
          replace hQ_39 := hQ_39.ext K_240
          replace hb_71 := hb_71.ext K_240
          replace hS_164 := hS_164.ext K_240
          replace ho_218 := ho_218.ext K_240
          replace hQ_219 := hQ_219.ext K_240
          replace K0 := K0.ext K_240
          refine ⟨.inr ⟨hb_71, trivial⟩, ?_⟩
          refine RT.gtakeP (v := .bool (false)) 37 rfl (by kernel_rfl) (.inr ⟨hb_71, trivial⟩) (wantedF1 rfl rfl rfl rfl) (fun hg _ => (x_not (b := true) rfl)) ?_
          refine RT.takeP (v := .bool (false)) 38 rfl (by kernel_rfl) (.inr ⟨hb_71, trivial⟩) (fun _ => (x_orF rfl rfl rfl)) ?_
          refine RT.done (by kernel_rfl) ?_
          refine Run.condF rfl ?_
          refine Run.skip ?_
          refine Run.inBlock ?_
          refine Run.region ?_
          refine RL.val (litI (c := ((i + 1 : Nat) : Int)) (x_add rfl rfl (by omega) (by omega)) rfl) ?_
          refine RL.val (x_moveI rfl) ?_
          refine RL.nil ?_
          refine ih1 (i + 1) _ _ ?_ (by omega)
          refine ⟨F_162, mendL (1 + m8) cs ((c).b) ((c).a), ⟨rfl, rfl, rfl, rfl, rfl, rfl, trivial⟩, K0, ho_15, hQ_16, ho_38, hQ_39, hS_164, pr_167, pr_168, pr_169, pr_170, pg_172, ?_, ?_, ?_⟩
          · omega
          · omega
          · exact mend_nodup hnd
  · try simp only [br] at hc43
    refine Run.exit rfl ?_
    refine Run.seq ?_
    refine Run.region ?_
    refine RL.val (x_assignB rfl) ?_
    refine RL.nil ?_
    refine Run.ret1 (v := .bool (true)) Try.func5 rfl rfl ?_
    exact ⟨_, rfl, rfl, K0⟩

end Go.Proofs.Ytdlaoncjiolckaa
