/-
  Layer 22: WorldMade.
-/
import Derived.Test.YtdlaoncjiolckaaRows
import Derived.Test.YtdlaoncjiolckaaWl
namespace Go.Proofs.Ytdlaoncjiolckaa
attribute [local irreducible] St1 RL RA RT RT1 Run

section
variable {nodes id a : Int} {pv : List (Int × MV)} {tk : List Int} {S ms : List Mg} {ks : List Pk}
theorem made_send (hl : pv.length ≤ 512) (hP : ∀ x ∈ pv, x.2 ∈ S.map Mg.v) (hT : ∀ a ∈ tk, a ≤ id ∧ ∀ x ∈ pv, x.1 ≠ a) (hkv : ks.map Pk.v = ms.map Mg.v) :
    (∀ x ∈ (snI nodes id pv (ks.map Pk.v) ks.length).pv, x.2 ∈ (S ++ ms).map Mg.v) ∧ ∀ a ∈ tk, a ≤ (snI nodes id pv (ks.map Pk.v) ks.length).id ∧ ∀ x ∈ (snI nodes id pv (ks.map Pk.v) ks.length).pv, x.1 ≠ a := by
  have hk : ks.length ≤ (ks.map Pk.v).length := by rw [List.length_map]; exact Nat.le_refl _
  obtain ⟨h1, h2, h3, h4⟩ := sn_b (nodes := nodes) (id := id) (vs := ks.map Pk.v) hl ks.length hk
  refine ⟨fun x hx => ?_, fun a ha => ⟨by have := (hT a ha).1; omega, fun x hx => ?_⟩⟩
  · rw [List.map_append, List.mem_append]
    rcases sn_mem ks.length hk x hx with h | h
    · exact .inl (hP x h)
    · exact .inr (hkv ▸ h.1)
  · rcases sn_mem ks.length hk x hx with h | h
    · exact (hT a ha).2 x h
    · have := (hT a ha).1; have := h.2.1; omega
theorem made_del (hP : ∀ x ∈ pv, x.2 ∈ S.map Mg.v) (hT : ∀ a ∈ tk, a ≤ id ∧ ∀ x ∈ pv, x.1 ≠ a) (ha : a ≤ id) : (∀ x ∈ delP pv a, x.2 ∈ S.map Mg.v) ∧ ∀ b ∈ tk ++ [a], b ≤ id ∧ ∀ x ∈ delP pv a, x.1 ≠ b := by
  refine ⟨fun x hx => hP x (del_sub x hx).1, fun b hb => ?_⟩
  rcases List.mem_append.1 hb with hb | hb
  · exact ⟨(hT b hb).1, fun x hx => (hT b hb).2 x (del_sub x hx).1⟩
  · simp only [List.mem_singleton] at hb
    subst hb
    exact ⟨ha, fun x hx => (del_sub x hx).2⟩
theorem made_lose (hP : ∀ x ∈ pv, x.2 ∈ S.map Mg.v) (hT : ∀ a ∈ tk, a ≤ id ∧ ∀ x ∈ pv, x.1 ≠ a) : (∀ x ∈ delP pv a, x.2 ∈ S.map Mg.v) ∧ ∀ b ∈ tk, b ≤ id ∧ ∀ x ∈ delP pv a, x.1 ≠ b :=
  ⟨fun x hx => hP x (del_sub x hx).1, fun b hb => ⟨(hT b hb).1, fun x hx => (hT b hb).2 x (del_sub x hx).1⟩⟩
theorem made_twice (hP : ∀ x ∈ pv, x.2 ∈ S.map Mg.v) (hT : ∀ a ∈ tk, a ≤ id ∧ ∀ x ∈ pv, x.1 ≠ a) : (∀ x ∈ twiceL id pv a, x.2 ∈ S.map Mg.v) ∧ ∀ b ∈ tk, b ≤ twiceN id pv a ∧ ∀ x ∈ twiceL id pv a, x.1 ≠ b := by
  have hn : id ≤ twiceN id pv a := by unfold twiceN; split <;> omega
  refine ⟨fun x hx => ?_, fun b hb => ⟨by have := (hT b hb).1; omega, fun x hx => ?_⟩⟩
  · rcases twice_mem x hx with h | ⟨_, y, hy, h⟩
    · exact hP x h
    · exact h ▸ hP y hy
  · rcases twice_mem x hx with h | ⟨h, _⟩
    · exact (hT b hb).2 x h
    · have := (hT b hb).1; omega
end
theorem twiceN_le (id : Int) (pv : List (Int × MV)) (a : Int) : twiceN id pv a ≤ id + 1 := by unfold twiceN; split <;> omega

theorem ty4 : Ty Try.prog 4 1 1 (.bool (false)) false := ty_of (by kernel_rfl) (by kernel_rfl)
theorem ty32 : Ty Try.prog 32 4 48 (.agg #[.int .i64 (0), .slice (none) (0) (0), .int .i64 (0), .int .i64 (0)]) true := ty_of (by kernel_rfl) (by kernel_rfl)
theorem en10 : Enters Try.prog 10 := enters_of Try.func10 rfl (by kernel_rfl)
theorem en12 : Enters Try.prog 12 := enters_of Try.func12 rfl (by kernel_rfl)

set_option maxRecDepth 100000 in
set_option maxHeartbeats 4000000 in
theorem law_made (u : Int) (hu : 0 ≤ u ∧ u ≤ 18446744073709551615) (al : Option Addr) (xs : List DoC) (cl : Nat) (w : World) (hl : SlOf w al xs) (hxl : xs.length ≤ 1048576) (hq : ∀ o ∈ xs, DoOk w o) :
    Calls Try.prog 3 #[.int .u64 (u), .slice (al) (xs.length) (cl)] w (Ret (fun v w' => v = .bool true ∧ Ext w w')) := by
  obtain ⟨m8, hm8, hm80, hm87⟩ := eight u hu.1 hu.2
  have hn : 1 ≤ 1 + m8 ∧ 1 + m8 ≤ 8 := ⟨by omega, by omega⟩
  refine calls_run (n := 126) Try.func3 rfl rfl rfl ?_
  refine Run.seq ?_
  refine Run.region ?_
  refine RL.val (x_assignB rfl) ?_
  refine RL.nil ?_
  refine Run.seq ?_
  refine Run.region ?_
  refine RL.val (x_moveI rfl) ?_
  refine RL.val (x_rem rfl rfl (by decide)) ?_
  refine RL.val (litI (c := m8) (x_convI rfl ⟨_, Try.underlying22⟩ Try.underlying3) hm8) ?_
  refine RL.val (x_add rfl rfl (by omega) (by omega)) ?_
  refine RL.val (x_assignI rfl) ?_
  refine RL.nil ?_
  refine Run.seq ?_
  refine Run.region ?_
  refine RL.val (x_moveI rfl) ?_
  refine RL.st rfl <| St1.call (vals := [.int .i64 (1 + m8)]) en7 rfl (newD (1 + m8) _) ?_
  rintro _ w_3 (⟨hb_7, _, _⟩ | ⟨_, b_1, F_2, rfl, hS_4, hg_5, K_6⟩)
  · exact absurd hn hb_7
  have pg_8 : ∀ q_, F_2 q_ → w.heap.size ≤ q_ := fun q_ h => Nat.le_trans (Nat.le_refl _) (hg_5 q_ h)
  clear hg_5
  have K0 := (K_6 : Ext w _)
  refine RL.val (x_moveT rfl) ?_
  refine RL.val (x_extract rfl rfl) ?_
  refine RL.val (x_extract rfl rfl) ?_
  refine RL.val (x_assignP rfl) ?_
  refine RL.val (x_assignI rfl) ?_
  refine RL.nil ?_
  refine Run.seq ?_
  refine Run.seq ?_
  refine Run.region ?_
  refine RL.val (x_moveI rfl) ?_
  refine RL.val (litF (x_neI rfl rfl) (by decide)) ?_
  refine RL.val (x_moveB rfl) ?_
  refine RL.gst (wantedF1 rfl rfl rfl rfl) <| St1.val (x_moveP rfl) ?_
  refine RL.gst (wantedF1 rfl rfl rfl rfl) <| St1.val (litF (x_ptrNil Try.underlying24 rfl rfl) rfl) ?_
  refine RL.val (x_orF rfl rfl rfl) ?_
  refine RL.val (x_moveB rfl) ?_
  refine RL.gst (wantedF1 rfl rfl rfl rfl) <| St1.call (vals := []) en8 rfl (awake_ _) ?_
  rintro _ w_9 ⟨rfl, K_10⟩
  replace hS_4 := hS_4.ext K_10
  replace K0 := K0.ext K_10
  refine RL.gst (wantedF1 rfl rfl rfl rfl) <| St1.val (x_not (b := true) rfl) ?_
  refine RL.val (x_orF rfl rfl rfl) ?_
  refine RL.nil ?_
  refine Run.condF rfl ?_
  refine Run.skip ?_
  refine Run.seq ?_
  refine Run.region ?_
  refine RL.val (x_assignSl rfl) ?_
  refine RL.nil ?_
  refine Run.seq ?_
  refine Run.region ?_
  refine RL.st rfl <| St1.makeMap (κ := Int) ?_
  intro m_11 w_12 hl_13 hM_14 K_15
  have pr_16 : ∀ q_, one m_11 q_ → ¬ F_2 q_ := apartNew (ge_one hl_13) hS_4.own_lt
  have pg_17 : ∀ q_, one m_11 q_ → w.heap.size ≤ q_ := fun q_ h => Nat.le_trans K0.size ((ge_one hl_13) q_ h)
  clear hl_13
  replace hS_4 := hS_4.ext K_15
  replace K0 := K0.ext K_15
  refine RL.val (x_assignM rfl) ?_
  refine RL.nil ?_
  refine Run.seq ?_
  refine Run.region ?_
  refine RL.val (x_assignI rfl) ?_
  refine RL.nil ?_
  refine Run.seq ?_
  refine Run.seq ?_
  refine Run.region ?_
  refine RL.val (x_moveSl rfl) ?_
  refine RL.val (x_lenSl Try.underlying23 rfl) ?_
  refine RL.val (x_moveI rfl) ?_
  refine RL.nil ?_
  refine Run.block ?_
  refine Run.loop (ι := Nat) (fun i ρ' w' => ∃ F1 : Nat → Prop, ∃ pv : List (Int × MV), ∃ id : Int, ∃ tk : List Int, ∃ S : List Mg, ∃ am : Option Addr, ∃ cm : Nat, Holds ρ' [(6, .pointer (some ⟨b_1, 0, none⟩)), (8, .slice (am) ((S.map Mg.c).length) (cm)), (9, .map (some m_11)), (10, .int .i64 (((pv.length : Nat) : Int))), (36, .slice (al) (xs.length) (cl)), (37, .int .i64 (((xs.length : Nat) : Int))), (38, .int .i64 (((i : Nat) : Int)))] ∧ Ext w w' ∧ (WldAt w' b_1 F1 (1 + m8) id 0 pv ([] : List LinkC)) ∧ (MapAt w' m_11 (akT tk)) ∧ (OwnSl w' 48 am cm (S.map Mg.c)) ∧ (∀ q_, F1 q_ → ¬ one m_11 q_) ∧ (∀ q_, F1 q_ → ¬ own am q_) ∧ (∀ q_, F1 q_ → w.heap.size ≤ q_) ∧ (∀ q_, one m_11 q_ → ¬ own am q_) ∧ (∀ q_, one m_11 q_ → w.heap.size ≤ q_) ∧ (∀ q_, own am q_ → w.heap.size ≤ q_) ∧ (i ≤ xs.length) ∧ (i ≤ 61) ∧ (id ≤ 513 * (i : Int)) ∧ (S.length ≤ 1048576 * i) ∧ (∀ m ∈ S, SixR w m.s m.v ∧ VOk m.v) ∧ (∀ x ∈ pv, x.2 ∈ S.map Mg.v) ∧ (∀ a ∈ tk, a ≤ id ∧ ∀ x ∈ pv, x.1 ≠ a)) (fun i => xs.length - i) 0 ?_ ?_
  · have ho_29 := OwnSl.nil (α := MsgC) w_12 48
    refine ⟨_, [], 0, [], [], _, _, ⟨rfl, rfl, rfl, rfl, rfl, rfl, rfl, trivial⟩, K0, hS_4, hM_14, ho_29, (fun q_ h1 h2 => pr_16 q_ h2 h1), (fun q_ h1 h2 => (fun q_ h1 _ => own_none q_ h1) q_ h2 h1), pg_8, (fun q_ h1 h2 => (fun q_ h1 _ => own_none q_ h1) q_ h2 h1), pg_17, (fun q_ h1 => absurd h1 (own_none q_)), ?_, ?_, ?_, ?_, ?_, ?_, ?_⟩
    · omega
    · omega
    · omega
    · exact Nat.zero_le _
    · exact fun m h => absurd h (by simp)
    · exact fun m h => absurd h (by simp)
    · exact fun m h => absurd h (by simp)
  clear hS_4 hM_14
  clear K0
  rintro i ρ_30 w_18 ⟨F1, pv, id, tk, S, am, cm, hH_19, K0, hO_20, hO_21, ho_22, pr_23, pr_24, pr_25, pr_26, pr_27, pr_28, hi, hi2, hid, hSl, hS, hP, hT⟩ ih1
  obtain ⟨ρ₀, rfl⟩ := hH_19.ex
  clear hH_19
  refine Run.seq ?_
  refine Run.region ?_
  refine RL.val (x_ltI rfl rfl) ?_
  refine RL.nil ?_
  refine Run.seq ?_
  refine Run.cond rfl (fun hc39 => ?_) (fun hc39 => ?_)
  · try simp only [br] at hc39
    refine Run.skip ?_
    refine Run.seq ?_
    refine Run.block ?_
    refine Run.seq ?_
    refine Run.region ?_
    refine RL.val (x_moveI rfl) ?_
    obtain ⟨b_31, o_32, o, hx, ha_33, hc_34⟩ := hl.el (i := i) (by first | omega | (simp only [List.length_set]; omega))
    have hc_34_lt := hc_34.lt
    replace hc_34 := hc_34.ext K0
    refine RL.val (x_idxN Try.underlying23 ty32 rfl rfl ha_33 (by first | omega | (simp only [List.length_set]; omega))) ?_
    refine RL.val (x_ldV (v := .agg #[.int .i64 ((o).op), .slice ((o).msgs.a) ((o).msgs.len) ((o).msgs.cap), .int .i64 ((o).a), .int .i64 ((o).b)]) (y := o) ty32 rfl hc_34 rfl) ?_
    refine RL.st rfl <| St1.alloc ty32 ?_
    intro b_37 w_38 hl_41 hb_40 K_39
    replace hb_40 : Blk w_38 b_37 [.int .i64 (0), .slice (none) (0) (0), .int .i64 (0), .int .i64 (0)] 32 := hb_40
    have ne_42 : b_31 < b_37 := Nat.lt_of_lt_of_le hc_34.lt hl_41
    have pr_43 : ¬ F1 b_37 := fun h => absurd (hO_20.own_lt _ h) (by omega)
    have pr_44 : ¬ one m_11 b_37 := fun h => absurd (hO_21.own_lt _ h) (by omega)
    have pr_45 : ¬ own am b_37 := fun h => absurd (ho_22.own_lt _ h) (by omega)
    have : w.heap.size ≤ b_37 := Nat.le_trans K0.size hl_41
    clear hl_41
    replace hO_20 := hO_20.ext K_39
    replace hO_21 := hO_21.ext K_39
    replace ho_22 := ho_22.ext K_39
    replace hc_34 := hc_34.ext K_39
    replace K0 := K0.ext K_39
    refine RL.val (x_assignI rfl) ?_
    refine RL.st rfl <| St1.store (v := .agg #[.int .i64 ((o).op), .slice ((o).msgs.a) ((o).msgs.len) ((o).msgs.cap), .int .i64 ((o).a), .int .i64 ((o).b)]) ty32 rfl rfl rfl (by simp [Value.cells, Value.oneCell']) hb_40 (by simp) ?_
    intro w_46 hb_40_ K_47
    have hb_40' : Blk w_46 b_37 [.int .i64 ((o).op), .slice ((o).msgs.a) ((o).msgs.len) ((o).msgs.cap), .int .i64 ((o).a), .int .i64 ((o).b)] 32 := hb_40_
    clear hb_40_
    replace hO_20 := hO_20.keepO K_47 (fun q_ hq_ eq_ => pr_43 (by simp only [one] at eq_; rw [← eq_]; exact hq_))
    replace hO_21 := hO_21.keepO K_47 (fun q_ hq_ eq_ => pr_44 (by simp only [one] at eq_; rw [← eq_]; exact hq_))
    replace ho_22 := ho_22.keepO K_47 (fun q_ hq_ eq_ => pr_45 (by simp only [one] at eq_; rw [← eq_]; exact hq_))
    replace hc_34 := hc_34.keep K_47 (by simp only [one]; omega)
    replace K0 := K0.new K_47 (fun x hx => by simp only [one] at hx; omega)
    replace hb_40 := hb_40'
    clear hb_40'
    refine RL.nil ?_
    obtain ⟨hop, ms, hmn, hml0, hml, hms⟩ := hq o (List.mem_of_getElem? hx)
    have hmcl : (ms.map Mg.c).length = ms.length := List.length_map ..
    refine Run.seq ?_
    refine Run.seq ?_
    refine Run.region ?_
    refine RL.val (x_moveI rfl) ?_
    refine RL.val (x_gtI rfl rfl) ?_
    refine RL.nil ?_
    refine Run.cond rfl (fun hc44 => ?_) (fun hc44 => ?_)
    · try simp only [br] at hc44
      refine Run.exit rfl ?_
      refine Run.seq ?_
      refine Run.region ?_
      refine RL.val (x_assignB rfl) ?_
      refine RL.nil ?_
      refine Run.ret1 (v := .bool (true)) Try.func3 rfl rfl ?_
      exact ⟨_, rfl, rfl, K0⟩
    · try simp only [br] at hc44
      refine Run.skip ?_
      refine Run.seq ?_
      refine Run.seq ?_
      refine Run.region ?_
      refine RL.val (x_fld (o' := 0) Try.underlying32 rfl ty3 rfl rfl rfl) ?_
      refine RL.val (x_ld (v := .int .i64 ((o).op)) ty3 rfl rfl (hb_40.cl.field (i := 0) rfl)) ?_
      refine RL.val (x_convI rfl ⟨_, Try.underlying3⟩ Try.underlying22) ?_
      refine RL.val (x_rem rfl rfl (by decide)) ?_
      refine RL.nil ?_
      refine Run.block ?_
      refine Run.seq ?_
      refine Run.seq ?_
      refine Run.region ?_
      refine RL.val (x_eqI rfl rfl) ?_
      refine RL.val (x_assignB rfl) ?_
      refine RL.nil ?_
      refine Run.cond rfl (fun hc56 => ?_) (fun hc56 => ?_)
      · try simp only [br] at hc56
        refine Run.skip ?_
        refine Run.cond rfl (fun hc56 => ?_) (fun hc56 => ?_)
        · try simp only [br] at hc56
          refine Run.seq ?_
          have hok0 := hO_20.ok
          have hlen0 := hok0.len
          refine Run.region ?_
          refine RL.val (x_moveP rfl) ?_
          refine RL.val (x_fld (o' := 1) Try.underlying32 rfl ty29 rfl rfl rfl) ?_
          refine RL.val (litSl (m' := (ms.map Mg.c).length) (x_ld (v := .slice ((o).msgs.a) ((o).msgs.len) ((o).msgs.cap)) ty29 rfl rfl (hb_40.cl.field (i := 1) rfl)) hmn) ?_
          refine RL.st rfl <| St1.call (vals := [.slice ((o).msgs.a) ((ms.map Mg.c).length) ((o).msgs.cap)]) en10 rfl (msgs_ _ ms _ _ (hml0.ext K0) (fun m hm => ⟨(hms m hm).1.ext K0, (hms m hm).2⟩) hml) ?_
          rintro _ w_51 ⟨a_48, c_49, ks_50, rfl, ho_52, hQ_53, hkv_54, hg_55, hg_56, hap_57, K_58⟩
          have pr_59 : ∀ q_, own a_48 q_ → ¬ F1 q_ := apartNew hg_55 hO_20.own_lt
          have pr_60 : ∀ q_, own a_48 q_ → ¬ one m_11 q_ := apartNew hg_55 hO_21.own_lt
          have pr_61 : ∀ q_, own a_48 q_ → ¬ own am q_ := apartNew hg_55 ho_22.own_lt
          have pr_62 : ¬ own a_48 b_37 := notNew hg_55 hb_40.lt
          have pg_63 : ∀ q_, own a_48 q_ → w.heap.size ≤ q_ := fun q_ h => Nat.le_trans K0.size (hg_55 q_ h)
          have pr_64 : ∀ q_, mgsS ks_50 q_ → ¬ F1 q_ := apartNew hg_56 hO_20.own_lt
          have pr_65 : ∀ q_, mgsS ks_50 q_ → ¬ one m_11 q_ := apartNew hg_56 hO_21.own_lt
          have pr_66 : ∀ q_, mgsS ks_50 q_ → ¬ own am q_ := apartNew hg_56 ho_22.own_lt
          have pr_67 : ¬ mgsS ks_50 b_37 := notNew hg_56 hb_40.lt
          have pg_68 : ∀ q_, mgsS ks_50 q_ → w.heap.size ≤ q_ := fun q_ h => Nat.le_trans K0.size (hg_56 q_ h)
          clear hg_55 hg_56
          replace hO_20 := hO_20.ext K_58
          replace hO_21 := hO_21.ext K_58
          replace ho_22 := ho_22.ext K_58
          replace hb_40 := hb_40.ext K_58
          replace K0 := K0.ext K_58
          have hkl_ks_50 : ks_50.length = ms.length := by have := congrArg List.length hkv_54; simpa using this
          refine RL.st rfl <| St1.call (vals := [.pointer (some ⟨b_1, 0, none⟩), .slice (a_48) ((ks_50.map Pk.c).length) (c_49)]) en9 rfl (sendK hO_20 _ ks_50 _ ho_52.sl hQ_53 (fun x_ hx_ => pr_59 _ ⟨x_, hx_, rfl⟩) pr_64 (by omega) (by first | decide | assumption | omega)) ?_
          rintro _ w_70 ⟨F_69, rfl, hS_71, hm_72, K_73⟩
          have pr_74 : ∀ q_, F_69 q_ → ¬ one m_11 q_ := hm_72.apart pr_23 hO_21.own_lt
          have pr_75 : ∀ q_, F_69 q_ → ¬ own am q_ := hm_72.apart pr_24 ho_22.own_lt
          have pr_76 : ¬ F_69 b_37 := hm_72.not pr_43 hb_40.lt
          have pr_77 : ∀ q_, F_69 q_ → ¬ own a_48 q_ := hm_72.apart (fun q_ h1 h2 => pr_59 q_ h2 h1) ho_52.own_lt
          have pr_78 : ∀ q_, F_69 q_ → ¬ mgsS ks_50 q_ := hm_72.apart (fun q_ h1 h2 => pr_64 q_ h2 h1) hQ_53.own_lt
          have pg_79 : ∀ q_, F_69 q_ → w.heap.size ≤ q_ := hm_72.ge pr_25 K0.size
          replace hO_21 := hO_21.keepO K_73 (fun q_ h1 h2 => pr_23 q_ h2 h1)
          replace ho_22 := ho_22.keepO K_73 (fun q_ h1 h2 => pr_24 q_ h2 h1)
          replace hb_40 := hb_40.keep K_73 pr_43
          replace ho_52 := ho_52.keepO K_73 pr_59
          replace hQ_53 := hQ_53.keepO K_73 pr_64
          replace K0 := K0.new K_73 pr_25
          clear hm_72
          refine RL.val (x_assignI rfl) ?_
          refine RL.nil ?_
          obtain ⟨hb1, hb2, hb3, hb4⟩ := sn_b (nodes := (1 + m8)) (id := id) (vs := ks_50.map Pk.v) hok0.len ks_50.length (by rw [List.length_map]; exact Nat.le_refl _)
          refine Run.seq ?_
          refine Run.seq ?_
          refine Run.region ?_
          refine RL.val (x_moveI rfl) ?_
          refine RL.val (x_ltI rfl rfl) ?_
          refine RL.val (x_moveB rfl) ?_
          refine RL.gval (wantedF rfl rfl rfl rfl) (fun hg => (x_moveI rfl)) ?_
          refine RL.gval (wantedF rfl rfl rfl rfl) (fun hg => (x_fld (o' := 1) Try.underlying32 rfl ty29 rfl rfl rfl)) ?_
          refine RL.gval (wantedF rfl rfl rfl rfl) (fun hg => (litSl (m' := (ms.map Mg.c).length) (x_ld (v := .slice ((o).msgs.a) ((o).msgs.len) ((o).msgs.cap)) ty29 (gvr hg) rfl (hb_40.cl.field (i := 1) rfl)) hmn)) ?_
          refine RL.gval (wantedF rfl rfl rfl rfl) (fun hg => (x_lenSl Try.underlying29 (gvr hg))) ?_
          refine RL.gval (wantedF rfl rfl rfl rfl) (fun hg => (x_gtI (gvr hg) (gvr hg))) ?_
          refine RL.val (x_or rfl rfl rfl) ?_
          refine RL.nil ?_
          refine Run.cond rfl (fun hc72 => ?_) (fun hc72 => ?_)
          · try simp only [br] at hc72
            exact absurd hc72 (by omega)
          · try simp only [br] at hc72
            refine Run.skip ?_
            refine Run.seq ?_
            refine Run.region ?_
            refine RL.val (x_moveI rfl) ?_
            refine RL.val (x_moveI rfl) ?_
            refine RL.val (litI (c := (((((snI (1 + m8) id pv (ks_50.map Pk.v) ks_50.length).pv).length : Nat) : Int))) (litI (c := ((pv.length + ((snI (1 + m8) id pv (ks_50.map Pk.v) ks_50.length).n) : Nat) : Int)) (x_add rfl rfl (by omega) (by omega)) rfl) (by omega)) ?_
            refine RL.val (x_assignI rfl) ?_
            refine RL.nil ?_
            refine Run.region ?_
            refine RL.val (x_moveSl rfl) ?_
            refine RL.val (x_fld (o' := 1) Try.underlying32 rfl ty29 rfl rfl rfl) ?_
            refine RL.val (litSl (m' := (ms.map Mg.c).length) (x_ld (v := .slice ((o).msgs.a) ((o).msgs.len) ((o).msgs.cap)) ty29 rfl rfl (hb_40.cl.field (i := 1) rfl)) hmn) ?_
            refine RL.st rfl <| St1.append (xs := S.map Mg.c) (ys := ms.map Mg.c) Try.underlying29 ty48 rfl rfl rfl ho_22 (hml0.ext K0) (by rw [List.length_map, List.length_map]; omega) (by decide) ?_
            intro a_80 c_81 w_82 ho_83 K_84 hm_85 hrm_86
            have pr_87 : ∀ q_, own a_80 q_ → ¬ one m_11 q_ := hm_85.apart (fun q_ h1 h2 => pr_26 q_ h2 h1) hO_21.own_lt
            have pr_88 : ¬ own a_80 b_37 := hm_85.not pr_45 hb_40.lt
            have pr_89 : ∀ q_, own a_80 q_ → ¬ own a_48 q_ := hm_85.apart (fun q_ h1 h2 => pr_61 q_ h2 h1) ho_52.own_lt
            have pr_90 : ∀ q_, own a_80 q_ → ¬ mgsS ks_50 q_ := hm_85.apart (fun q_ h1 h2 => pr_66 q_ h2 h1) hQ_53.own_lt
            have pr_91 : ∀ q_, own a_80 q_ → ¬ F_69 q_ := hm_85.apart (fun q_ h1 h2 => pr_75 q_ h2 h1) hS_71.own_lt
            have pg_92 : ∀ q_, own a_80 q_ → w.heap.size ≤ q_ := hm_85.ge pr_28 K0.size
            replace hO_21 := hO_21.keepO K_84 pr_26
            replace hb_40 := hb_40.keep K_84 pr_45
            replace ho_52 := ho_52.keepO K_84 pr_61
            replace hQ_53 := hQ_53.keepO K_84 pr_66
            replace hS_71 := hS_71.keepO K_84 pr_75
            replace K0 := K0.new K_84 pr_28
            clear hm_85
            clear hrm_86
            refine RL.val (x_assignSl rfl) ?_
            refine RL.nil ?_
            refine Run.inBlock ?_
            refine Run.seq ?_
            have hok1 := hS_71.ok
            have hlen1 := hok1.len
            refine Run.region ?_
            refine RL.val (x_moveP rfl) ?_
            refine RL.st rfl <| St1.call (vals := [.pointer (some ⟨b_1, 0, none⟩)]) en15 rfl (packetsD hS_71 (by first | decide | assumption | omega)) ?_
            rintro _ w_96 ⟨a_93, c_94, ks_95, rfl, ho_97, hQ_98, hpe_99, hg_100, hg_101, hap_102, K_103⟩
            have pr_104 : ∀ q_, own a_93 q_ → ¬ one m_11 q_ := apartNew hg_100 hO_21.own_lt
            have pr_105 : ¬ own a_93 b_37 := notNew hg_100 hb_40.lt
            have pr_106 : ∀ q_, own a_93 q_ → ¬ own a_48 q_ := apartNew hg_100 ho_52.own_lt
            have pr_107 : ∀ q_, own a_93 q_ → ¬ mgsS ks_50 q_ := apartNew hg_100 hQ_53.own_lt
            have pr_108 : ∀ q_, own a_93 q_ → ¬ F_69 q_ := apartNew hg_100 hS_71.own_lt
            have pr_109 : ∀ q_, own a_93 q_ → ¬ own a_80 q_ := apartNew hg_100 ho_83.own_lt
            have pg_110 : ∀ q_, own a_93 q_ → w.heap.size ≤ q_ := fun q_ h => Nat.le_trans K0.size (hg_100 q_ h)
            have pr_111 : ∀ q_, mgsS ks_95 q_ → ¬ one m_11 q_ := apartNew hg_101 hO_21.own_lt
            have pr_112 : ¬ mgsS ks_95 b_37 := notNew hg_101 hb_40.lt
            have pr_113 : ∀ q_, mgsS ks_95 q_ → ¬ own a_48 q_ := apartNew hg_101 ho_52.own_lt
            have pr_114 : ∀ q_, mgsS ks_95 q_ → ¬ mgsS ks_50 q_ := apartNew hg_101 hQ_53.own_lt
            have pr_115 : ∀ q_, mgsS ks_95 q_ → ¬ F_69 q_ := apartNew hg_101 hS_71.own_lt
            have pr_116 : ∀ q_, mgsS ks_95 q_ → ¬ own a_80 q_ := apartNew hg_101 ho_83.own_lt
            have pg_117 : ∀ q_, mgsS ks_95 q_ → w.heap.size ≤ q_ := fun q_ h => Nat.le_trans K0.size (hg_101 q_ h)
            clear hg_100 hg_101
            have hkl_ks_95 : (ks_95.map Pk.k).length = ((snI (1 + m8) id pv (ks_50.map Pk.v) ks_50.length).pv).length := by have := congrArg List.length hpe_99; simpa using this
            replace hO_21 := hO_21.ext K_103
            replace hb_40 := hb_40.ext K_103
            replace ho_52 := ho_52.ext K_103
            replace hQ_53 := hQ_53.ext K_103
            replace hS_71 := hS_71.ext K_103
            replace ho_83 := ho_83.ext K_103
            replace K0 := K0.ext K_103
            refine RL.val (x_lenSl Try.underlying53 rfl) ?_
            refine RL.val (x_moveI rfl) ?_
            refine RL.val (x_neI rfl rfl) ?_
            refine RL.val (x_moveB rfl) ?_
            refine RL.gval (wantedF rfl rfl rfl rfl) (fun hg => (x_moveI rfl)) ?_
            refine RL.gval (wantedF rfl rfl rfl rfl) (fun hg => (x_gtI (gvr hg) rfl)) ?_
            refine RL.val (x_or rfl rfl rfl) ?_
            refine RL.nil ?_
            refine Run.cond rfl (fun hc124 => ?_) (fun hc124 => ?_)
            · try simp only [br] at hc124
              exact absurd hc124 (by omega)
            · try simp only [br] at hc124
              refine Run.skip ?_
              refine Run.inBlock ?_
              refine Run.region ?_
              refine RL.val (litI (c := ((i + 1 : Nat) : Int)) (x_add rfl rfl (by omega) (by omega)) rfl) ?_
              refine RL.val (x_moveI rfl) ?_
              refine RL.nil ?_
              rw [← List.map_append] at ho_83
              have hP2 := made_send (nodes := (1 + m8)) hok0.len hP hT hkv_54
              refine ih1 (i + 1) _ _ ?_ (by omega)
              rw [← List.map_append]
              refine ⟨F_69, (snI (1 + m8) id pv (ks_50.map Pk.v) ks_50.length).pv, (snI (1 + m8) id pv (ks_50.map Pk.v) ks_50.length).id, tk, (S ++ ms), _, _, ⟨rfl, rfl, rfl, rfl, rfl, rfl, rfl, trivial⟩, K0, hS_71, hO_21, ho_83, pr_74, (fun q_ h1 h2 => pr_91 q_ h2 h1), pg_79, (fun q_ h1 h2 => pr_87 q_ h2 h1), pr_27, pg_92, ?_, ?_, ?_, ?_, ?_, ?_, ?_⟩
              · omega
              · omega
              · omega
              · simp only [List.length_append]; omega
              · exact fun m hm => (List.mem_append.1 hm).elim (hS m) (hms m)
              · exact hP2.1
              · exact hP2.2
        · try simp only [br] at hc56
          refine Run.seq ?_
          refine Run.seq ?_
          refine Run.region ?_
          refine RL.val (x_eqI rfl rfl) ?_
          refine RL.val (x_assignB rfl) ?_
          refine RL.nil ?_
          refine Run.cond rfl (fun hc80 => ?_) (fun hc80 => ?_)
          · try simp only [br] at hc80
            refine Run.skip ?_
            refine Run.cond rfl (fun hc80 => ?_) (fun hc80 => ?_)
            · try simp only [br] at hc80
              refine Run.seq ?_
              have hok0 := hO_20.ok
              have hlen0 := hok0.len
              refine Run.region ?_
              refine RL.val (x_moveP rfl) ?_
              refine RL.val (x_fld (o' := 2) Try.underlying32 rfl ty3 rfl rfl rfl) ?_
              refine RL.val (x_ld (v := .int .i64 ((o).a)) ty3 rfl rfl (hb_40.cl.field (i := 2) rfl)) ?_
              refine RL.st rfl <| St1.call (vals := [.pointer (some ⟨b_1, 0, none⟩), .int .i64 ((o).a)]) en11 rfl (takeX hO_20 ((o).a)) ?_
              rintro _ w_122 ⟨V_118, hV_119, F_120, s_121, rfl, hS_123, hO_124, hv_125, hin_126, hap_127, hm_128, K_129⟩
              have pr_131 : ∀ q_, ownS s_121 q_ → ¬ one m_11 q_ := fun q_ h_ => pr_23 q_ (hin_126 q_ h_)
              have pr_132 : ∀ q_, ownS s_121 q_ → ¬ own am q_ := fun q_ h_ => pr_24 q_ (hin_126 q_ h_)
              have pr_133 : ¬ ownS s_121 b_37 := fun h_ => pr_43 (hin_126 _ h_)
              have pr_134 : ∀ q_, F_120 q_ → ¬ one m_11 q_ := hm_128.apart pr_23 hO_21.own_lt
              have pr_135 : ∀ q_, F_120 q_ → ¬ own am q_ := hm_128.apart pr_24 ho_22.own_lt
              have pr_136 : ¬ F_120 b_37 := hm_128.not pr_43 hb_40.lt
              have pg_137 : ∀ q_, F_120 q_ → w.heap.size ≤ q_ := hm_128.ge pr_25 K0.size
              replace hO_21 := hO_21.keepO K_129 (fun q_ h1 h2 => pr_23 q_ h2 h1)
              replace ho_22 := ho_22.keepO K_129 (fun q_ h1 h2 => pr_24 q_ h2 h1)
              replace hb_40 := hb_40.keep K_129 pr_43
              replace K0 := K0.new K_129 pr_25
              clear hm_128
              have pg_138 : ∀ q_, ownS s_121 q_ → w.heap.size ≤ q_ := fun q_ h_ => pr_25 q_ (hin_126 q_ h_)
              refine RL.val (x_moveT rfl) ?_
              refine RL.val (x_extract rfl rfl) ?_
              refine RL.val (x_extract rfl rfl) ?_
              refine RL.st rfl <| St1.alloc ty48 ?_
              intro b_139 w_140 hl_143 hb_142 K_141
              replace hb_142 : Blk w_140 b_139 [.int .i64 (0), .int .i64 (0), .int .i64 (0), .int .i64 (0), .string (⟨#[]⟩), .slice (none) (0) (0), .slice (none) (0) (0), .slice (none) (0) (0), .int .i64 (0), .int .i64 (0), .int .i64 (0), .int .i64 (0), .int .i64 (0), .int .i64 (0), .slice (none) (0) (0), .slice (none) (0) (0), .slice (none) (0) (0)] 48 := hb_142
              have ne_144 : b_37 < b_139 := Nat.lt_of_lt_of_le hb_40.lt hl_143
              have pr_145 : ¬ one m_11 b_139 := fun h => absurd (hO_21.own_lt _ h) (by omega)
              have pr_146 : ¬ own am b_139 := fun h => absurd (ho_22.own_lt _ h) (by omega)
              have pr_147 : ¬ F_120 b_139 := fun h => absurd (hS_123.own_lt _ h) (by omega)
              have pr_148 : ¬ ownS s_121 b_139 := fun h => absurd (hO_124.own_lt _ h) (by omega)
              have : w.heap.size ≤ b_139 := Nat.le_trans K0.size hl_143
              clear hl_143
              replace hO_21 := hO_21.ext K_141
              replace ho_22 := ho_22.ext K_141
              replace hb_40 := hb_40.ext K_141
              replace hS_123 := hS_123.ext K_141
              replace hO_124 := hO_124.ext K_141
              replace K0 := K0.ext K_141
              refine RL.st rfl <| St1.store (v := .agg #[.int .i64 (((mkC V_118 s_121)).kind), .int .i64 (((mkC V_118 s_121)).frm), .int .i64 (((mkC V_118 s_121)).to), .int .i64 (((mkC V_118 s_121)).req), .string (((mkC V_118 s_121)).key), .slice (s_121.ea) (V_118.ent.length) (s_121.ec), .slice (s_121.ma) (V_118.mrk.length) (s_121.mc), .slice (s_121.ca) (V_118.cl.length) (s_121.cc), .int .i64 (((mkC V_118 s_121)).owner), .int .i64 (((mkC V_118 s_121)).part), .int .i64 (((mkC V_118 s_121)).n), .int .i64 ((((mkC V_118 s_121)).ring).parts), .int .i64 ((((mkC V_118 s_121)).ring).copies), .int .i64 ((((mkC V_118 s_121)).ring).spots), .slice (s_121.ba) (V_118.mem.length) (s_121.bc), .slice (s_121.pa) (V_118.pe.length) (s_121.pc), .slice (s_121.sa) (V_118.su.length) (s_121.sc)]) ty48 rfl rfl rfl (by simp [Value.cells, Value.oneCell']) hb_142 (by simp) ?_
              intro w_149 hb_142_ K_150
              have hb_142' : Blk w_149 b_139 [.int .i64 (((mkC V_118 s_121)).kind), .int .i64 (((mkC V_118 s_121)).frm), .int .i64 (((mkC V_118 s_121)).to), .int .i64 (((mkC V_118 s_121)).req), .string (((mkC V_118 s_121)).key), .slice (s_121.ea) (V_118.ent.length) (s_121.ec), .slice (s_121.ma) (V_118.mrk.length) (s_121.mc), .slice (s_121.ca) (V_118.cl.length) (s_121.cc), .int .i64 (((mkC V_118 s_121)).owner), .int .i64 (((mkC V_118 s_121)).part), .int .i64 (((mkC V_118 s_121)).n), .int .i64 ((((mkC V_118 s_121)).ring).parts), .int .i64 ((((mkC V_118 s_121)).ring).copies), .int .i64 ((((mkC V_118 s_121)).ring).spots), .slice (s_121.ba) (V_118.mem.length) (s_121.bc), .slice (s_121.pa) (V_118.pe.length) (s_121.pc), .slice (s_121.sa) (V_118.su.length) (s_121.sc)] 48 := hb_142_
              clear hb_142_
              replace hO_21 := hO_21.keepO K_150 (fun q_ hq_ eq_ => pr_145 (by simp only [one] at eq_; rw [← eq_]; exact hq_))
              replace ho_22 := ho_22.keepO K_150 (fun q_ hq_ eq_ => pr_146 (by simp only [one] at eq_; rw [← eq_]; exact hq_))
              replace hb_40 := hb_40.keep K_150 (by simp only [one]; omega)
              replace hS_123 := hS_123.keepO K_150 (fun q_ hq_ eq_ => pr_147 (by simp only [one] at eq_; rw [← eq_]; exact hq_))
              replace hO_124 := hO_124.keepO K_150 (fun q_ hq_ eq_ => pr_148 (by simp only [one] at eq_; rw [← eq_]; exact hq_))
              replace K0 := K0.new K_150 (fun x hx => by simp only [one] at hx; omega)
              replace hb_142 := hb_142'
              clear hb_142'
              refine RL.val (x_assignI rfl) ?_
              refine RL.nil ?_
              refine Run.seq ?_
              refine Run.seq ?_
              refine Run.region ?_
              refine RL.val (x_moveI rfl) ?_
              refine RL.val (x_neI rfl rfl) ?_
              refine RL.nil ?_
              refine Run.cond rfl (fun hc91 => ?_) (fun hc91 => ?_)
              · try simp only [br] at hc91
                have htl := takeNo hc91
                have he : (takeL (1 + m8) ([] : List LinkC) pv ((o).a)).length = pv.length := by rw [htl]
                refine Run.exit rfl ?_
                refine Run.seq ?_
                have hok1 := hS_123.ok
                have hlen1 := hok1.len
                refine Run.region ?_
                refine RL.val (x_moveP rfl) ?_
                refine RL.st rfl <| St1.call (vals := [.pointer (some ⟨b_1, 0, none⟩)]) en15 rfl (packetsD hS_123 (by first | decide | assumption | omega)) ?_
                rintro _ w_154 ⟨a_151, c_152, ks_153, rfl, ho_155, hQ_156, hpe_157, hg_158, hg_159, hap_160, K_161⟩
                have pr_162 : ∀ q_, own a_151 q_ → ¬ one m_11 q_ := apartNew hg_158 hO_21.own_lt
                have pr_163 : ∀ q_, own a_151 q_ → ¬ own am q_ := apartNew hg_158 ho_22.own_lt
                have pr_164 : ¬ own a_151 b_37 := notNew hg_158 hb_40.lt
                have pr_165 : ∀ q_, own a_151 q_ → ¬ F_120 q_ := apartNew hg_158 hS_123.own_lt
                have pr_166 : ∀ q_, own a_151 q_ → ¬ ownS s_121 q_ := apartNew hg_158 hO_124.own_lt
                have pr_167 : ¬ own a_151 b_139 := notNew hg_158 hb_142.lt
                have pg_168 : ∀ q_, own a_151 q_ → w.heap.size ≤ q_ := fun q_ h => Nat.le_trans K0.size (hg_158 q_ h)
                have pr_169 : ∀ q_, mgsS ks_153 q_ → ¬ one m_11 q_ := apartNew hg_159 hO_21.own_lt
                have pr_170 : ∀ q_, mgsS ks_153 q_ → ¬ own am q_ := apartNew hg_159 ho_22.own_lt
                have pr_171 : ¬ mgsS ks_153 b_37 := notNew hg_159 hb_40.lt
                have pr_172 : ∀ q_, mgsS ks_153 q_ → ¬ F_120 q_ := apartNew hg_159 hS_123.own_lt
                have pr_173 : ∀ q_, mgsS ks_153 q_ → ¬ ownS s_121 q_ := apartNew hg_159 hO_124.own_lt
                have pr_174 : ¬ mgsS ks_153 b_139 := notNew hg_159 hb_142.lt
                have pg_175 : ∀ q_, mgsS ks_153 q_ → w.heap.size ≤ q_ := fun q_ h => Nat.le_trans K0.size (hg_159 q_ h)
                clear hg_158 hg_159
                have hkl_ks_153 : (ks_153.map Pk.k).length = (takeL (1 + m8) ([] : List LinkC) pv ((o).a)).length := by have := congrArg List.length hpe_157; simpa using this
                replace hO_21 := hO_21.ext K_161
                replace ho_22 := ho_22.ext K_161
                replace hb_40 := hb_40.ext K_161
                replace hS_123 := hS_123.ext K_161
                replace hO_124 := hO_124.ext K_161
                replace hb_142 := hb_142.ext K_161
                replace K0 := K0.ext K_161
                refine RL.val (x_lenSl Try.underlying53 rfl) ?_
                refine RL.val (x_moveI rfl) ?_
                refine RL.val (x_neI rfl rfl) ?_
                refine RL.val (x_moveB rfl) ?_
                refine RL.gval (wantedF rfl rfl rfl rfl) (fun hg => (x_moveI rfl)) ?_
                refine RL.gval (wantedF rfl rfl rfl rfl) (fun hg => (x_gtI (gvr hg) rfl)) ?_
                refine RL.val (x_or rfl rfl rfl) ?_
                refine RL.nil ?_
                refine Run.cond rfl (fun hc124 => ?_) (fun hc124 => ?_)
                · try simp only [br] at hc124
                  exact absurd hc124 (by omega)
                · try simp only [br] at hc124
                  refine Run.skip ?_
                  refine Run.inBlock ?_
                  refine Run.region ?_
                  refine RL.val (litI (c := ((i + 1 : Nat) : Int)) (x_add rfl rfl (by omega) (by omega)) rfl) ?_
                  refine RL.val (x_moveI rfl) ?_
                  refine RL.nil ?_
                  have hP2 := And.intro hP hT
                  rw [← htl] at hP2
                  refine ih1 (i + 1) _ _ ?_ (by omega)
                  rw [← he]
                  refine ⟨F_120, takeL (1 + m8) ([] : List LinkC) pv ((o).a), id, tk, S, _, _, ⟨rfl, rfl, rfl, rfl, rfl, rfl, rfl, trivial⟩, K0, hS_123, hO_21, ho_22, pr_134, pr_135, pg_137, pr_26, pr_27, pr_28, ?_, ?_, ?_, ?_, ?_, ?_, ?_⟩
                  · omega
                  · omega
                  · omega
                  · omega
                  · exact hS
                  · exact hP2.1
                  · exact hP2.2
              · try simp only [br] at hc91
                obtain ⟨hin, htl⟩ := take0 hc91
                rw [hV_119] at hin
                have hdl : (delP pv o.a).length + 1 = pv.length := del_len hok0.rise hin
                have he : (takeL (1 + m8) ([] : List LinkC) pv ((o).a)).length + 1 = pv.length := by rw [htl]; exact hdl
                have hnt : o.a ∉ tk := fun h => (hT _ h).2 _ hin rfl
                have hany : (S.map Mg.v).any (fun y => decide (y = V_118)) = true := List.any_eq_true.2 ⟨V_118, hP _ hin, decide_eq_true rfl⟩
                refine Run.skip ?_
                refine Run.seq ?_
                refine Run.seq ?_
                refine Run.region ?_
                refine RL.val (x_moveM rfl) ?_
                refine RL.val (x_fld (o' := 2) Try.underlying32 rfl ty3 rfl rfl rfl) ?_
                refine RL.val (x_ld (v := .int .i64 ((o).a)) ty3 rfl rfl (hb_40.cl.field (i := 2) rfl)) ?_
                refine RL.val (litF (litV (v' := .bool (decide ((o).a ∈ tk))) (x_lookup Try.underlying30 Try.underlying3 rfl ty4 rfl rfl hO_21) (akT_get _ _)) (decide_eq_false hnt)) ?_
                refine RL.val (x_moveB rfl) ?_
                refine RL.gst (wantedF1 rfl rfl rfl rfl) <| St1.val (x_moveSl rfl) ?_
                refine RL.gst (wantedF1 rfl rfl rfl rfl) <| St1.val (x_lds (cs := #[.int .i64 (((mkC V_118 s_121)).kind), .int .i64 (((mkC V_118 s_121)).frm), .int .i64 (((mkC V_118 s_121)).to), .int .i64 (((mkC V_118 s_121)).req), .string (((mkC V_118 s_121)).key), .slice (s_121.ea) (V_118.ent.length) (s_121.ec), .slice (s_121.ma) (V_118.mrk.length) (s_121.mc), .slice (s_121.ca) (V_118.cl.length) (s_121.cc), .int .i64 (((mkC V_118 s_121)).owner), .int .i64 (((mkC V_118 s_121)).part), .int .i64 (((mkC V_118 s_121)).n), .int .i64 ((((mkC V_118 s_121)).ring).parts), .int .i64 ((((mkC V_118 s_121)).ring).copies), .int .i64 ((((mkC V_118 s_121)).ring).spots), .slice (s_121.ba) (V_118.mem.length) (s_121.bc), .slice (s_121.pa) (V_118.pe.length) (s_121.pc), .slice (s_121.sa) (V_118.su.length) (s_121.sc)]) ty48 rfl rfl (hb_142.cl.drop 0 17)) ?_
                refine RL.gst (wantedF1 rfl rfl rfl rfl) <| St1.call (vals := [.slice (am) ((S.map Mg.c).length) (cm), .agg #[.int .i64 (((mkC V_118 s_121)).kind), .int .i64 (((mkC V_118 s_121)).frm), .int .i64 (((mkC V_118 s_121)).to), .int .i64 (((mkC V_118 s_121)).req), .string (((mkC V_118 s_121)).key), .slice (s_121.ea) (V_118.ent.length) (s_121.ec), .slice (s_121.ma) (V_118.mrk.length) (s_121.mc), .slice (s_121.ca) (V_118.cl.length) (s_121.cc), .int .i64 (((mkC V_118 s_121)).owner), .int .i64 (((mkC V_118 s_121)).part), .int .i64 (((mkC V_118 s_121)).n), .int .i64 ((((mkC V_118 s_121)).ring).parts), .int .i64 ((((mkC V_118 s_121)).ring).copies), .int .i64 ((((mkC V_118 s_121)).ring).spots), .slice (s_121.ba) (V_118.mem.length) (s_121.bc), .slice (s_121.pa) (V_118.pe.length) (s_121.pc), .slice (s_121.sa) (V_118.su.length) (s_121.sc)]]) en12 rfl (among_ _ S _ V_118 s_121 _ ho_22.sl (fun m hm => ⟨(hS m hm).1.ext K0, (hS m hm).2⟩) hO_124.r (by omega)) ?_
                rintro _ w_176 ⟨rfl, K_177⟩
                replace hO_21 := hO_21.ext K_177
                replace ho_22 := ho_22.ext K_177
                replace hb_40 := hb_40.ext K_177
                replace hS_123 := hS_123.ext K_177
                replace hO_124 := hO_124.ext K_177
                replace hb_142 := hb_142.ext K_177
                replace K0 := K0.ext K_177
                refine RL.gst (wantedF1 rfl rfl rfl rfl) <| St1.val (x_not rfl) ?_
                refine RL.val (x_orF rfl rfl rfl) ?_
                refine RL.nil ?_
                refine Run.cond rfl (fun hc101 => ?_) (fun hc101 => ?_)
                · try simp only [br] at hc101
                  exact absurd hc101 (by simp [hany])
                · try simp only [br] at hc101
                  refine Run.skip ?_
                  refine Run.seq ?_
                  refine Run.region ?_
                  refine RL.val (x_moveM rfl) ?_
                  refine RL.val (x_fld (o' := 2) Try.underlying32 rfl ty3 rfl rfl rfl) ?_
                  refine RL.val (x_ld (v := .int .i64 ((o).a)) ty3 rfl rfl (hb_40.cl.field (i := 2) rfl)) ?_
                  refine RL.st rfl <| St1.mapUpdate (v := .bool (true)) Try.underlying30 Try.underlying3 rfl rfl rfl rfl hO_21 ?_
                  intro w_178 hM_179 K_180
                  replace hM_179 : MapAt w_178 m_11 (akT (tk ++ [(o).a])) := (akT_put hnt ▸ hM_179)
                  replace ho_22 := ho_22.keepO K_180 (fun q_ h1 h2 => pr_26 q_ h2 h1)
                  replace hb_40 := hb_40.keep K_180 pr_44
                  replace hS_123 := hS_123.keepO K_180 pr_134
                  replace hO_124 := hO_124.keepO K_180 pr_131
                  replace hb_142 := hb_142.keep K_180 pr_145
                  replace K0 := K0.new K_180 pr_27
                  replace hO_21 := hM_179
                  clear hM_179
                  refine RL.nil ?_
                  refine Run.region ?_
                  refine RL.val (x_moveI rfl) ?_
                  refine RL.val (litI (c := ((((takeL (1 + m8) ([] : List LinkC) pv ((o).a)).length : Nat) : Int))) (x_sub rfl rfl (by omega) (by omega)) (by omega)) ?_
                  refine RL.val (x_assignI rfl) ?_
                  refine RL.nil ?_
                  refine Run.inBlock ?_
                  refine Run.seq ?_
                  have hok1 := hS_123.ok
                  have hlen1 := hok1.len
                  refine Run.region ?_
                  refine RL.val (x_moveP rfl) ?_
                  refine RL.st rfl <| St1.call (vals := [.pointer (some ⟨b_1, 0, none⟩)]) en15 rfl (packetsD hS_123 (by first | decide | assumption | omega)) ?_
                  rintro _ w_184 ⟨a_181, c_182, ks_183, rfl, ho_185, hQ_186, hpe_187, hg_188, hg_189, hap_190, K_191⟩
                  have pr_192 : ∀ q_, own a_181 q_ → ¬ one m_11 q_ := apartNew hg_188 hO_21.own_lt
                  have pr_193 : ∀ q_, own a_181 q_ → ¬ own am q_ := apartNew hg_188 ho_22.own_lt
                  have pr_194 : ¬ own a_181 b_37 := notNew hg_188 hb_40.lt
                  have pr_195 : ∀ q_, own a_181 q_ → ¬ F_120 q_ := apartNew hg_188 hS_123.own_lt
                  have pr_196 : ∀ q_, own a_181 q_ → ¬ ownS s_121 q_ := apartNew hg_188 hO_124.own_lt
                  have pr_197 : ¬ own a_181 b_139 := notNew hg_188 hb_142.lt
                  have pg_198 : ∀ q_, own a_181 q_ → w.heap.size ≤ q_ := fun q_ h => Nat.le_trans K0.size (hg_188 q_ h)
                  have pr_199 : ∀ q_, mgsS ks_183 q_ → ¬ one m_11 q_ := apartNew hg_189 hO_21.own_lt
                  have pr_200 : ∀ q_, mgsS ks_183 q_ → ¬ own am q_ := apartNew hg_189 ho_22.own_lt
                  have pr_201 : ¬ mgsS ks_183 b_37 := notNew hg_189 hb_40.lt
                  have pr_202 : ∀ q_, mgsS ks_183 q_ → ¬ F_120 q_ := apartNew hg_189 hS_123.own_lt
                  have pr_203 : ∀ q_, mgsS ks_183 q_ → ¬ ownS s_121 q_ := apartNew hg_189 hO_124.own_lt
                  have pr_204 : ¬ mgsS ks_183 b_139 := notNew hg_189 hb_142.lt
                  have pg_205 : ∀ q_, mgsS ks_183 q_ → w.heap.size ≤ q_ := fun q_ h => Nat.le_trans K0.size (hg_189 q_ h)
                  clear hg_188 hg_189
                  have hkl_ks_183 : (ks_183.map Pk.k).length = (takeL (1 + m8) ([] : List LinkC) pv ((o).a)).length := by have := congrArg List.length hpe_187; simpa using this
                  replace hO_21 := hO_21.ext K_191
                  replace ho_22 := ho_22.ext K_191
                  replace hb_40 := hb_40.ext K_191
                  replace hS_123 := hS_123.ext K_191
                  replace hO_124 := hO_124.ext K_191
                  replace hb_142 := hb_142.ext K_191
                  replace K0 := K0.ext K_191
                  refine RL.val (x_lenSl Try.underlying53 rfl) ?_
                  refine RL.val (x_moveI rfl) ?_
                  refine RL.val (x_neI rfl rfl) ?_
                  refine RL.val (x_moveB rfl) ?_
                  refine RL.gval (wantedF rfl rfl rfl rfl) (fun hg => (x_moveI rfl)) ?_
                  refine RL.gval (wantedF rfl rfl rfl rfl) (fun hg => (x_gtI (gvr hg) rfl)) ?_
                  refine RL.val (x_or rfl rfl rfl) ?_
                  refine RL.nil ?_
                  refine Run.cond rfl (fun hc124 => ?_) (fun hc124 => ?_)
                  · try simp only [br] at hc124
                    exact absurd hc124 (by omega)
                  · try simp only [br] at hc124
                    refine Run.skip ?_
                    refine Run.inBlock ?_
                    refine Run.region ?_
                    refine RL.val (litI (c := ((i + 1 : Nat) : Int)) (x_add rfl rfl (by omega) (by omega)) rfl) ?_
                    refine RL.val (x_moveI rfl) ?_
                    refine RL.nil ?_
                    have hP2 := made_del hP hT (hok0.le _ hin).2
                    rw [← htl] at hP2
                    refine ih1 (i + 1) _ _ ?_ (by omega)
                    refine ⟨F_120, takeL (1 + m8) ([] : List LinkC) pv ((o).a), id, (tk ++ [(o).a]), S, _, _, ⟨rfl, rfl, rfl, rfl, rfl, rfl, rfl, trivial⟩, K0, hS_123, hO_21, ho_22, pr_134, pr_135, pg_137, pr_26, pr_27, pr_28, ?_, ?_, ?_, ?_, ?_, ?_, ?_⟩
                    · omega
                    · omega
                    · omega
                    · omega
                    · exact hS
                    · exact hP2.1
                    · exact hP2.2
            · try simp only [br] at hc80
              refine Run.seq ?_
              refine Run.region ?_
              refine RL.val (x_eqI rfl rfl) ?_
              refine RL.val (x_assignB rfl) ?_
              refine RL.nil ?_
              refine Run.cond rfl (fun hc107 => ?_) (fun hc107 => ?_)
              · try simp only [br] at hc107
                refine Run.seq ?_
                have hok0 := hO_20.ok
                have hlen0 := hok0.len
                refine Run.region ?_
                refine RL.val (x_moveP rfl) ?_
                refine RL.val (x_fld (o' := 2) Try.underlying32 rfl ty3 rfl rfl rfl) ?_
                refine RL.val (x_ld (v := .int .i64 ((o).a)) ty3 rfl rfl (hb_40.cl.field (i := 2) rfl)) ?_
                refine RL.st rfl <| St1.call (vals := [.pointer (some ⟨b_1, 0, none⟩), .int .i64 ((o).a)]) en13 rfl (loseD hO_20 ((o).a)) ?_
                rintro _ w_207 ⟨F_206, rfl, hS_208, hm_209, K_210⟩
                have pr_211 : ∀ q_, F_206 q_ → ¬ one m_11 q_ := hm_209.apart pr_23 hO_21.own_lt
                have pr_212 : ∀ q_, F_206 q_ → ¬ own am q_ := hm_209.apart pr_24 ho_22.own_lt
                have pr_213 : ¬ F_206 b_37 := hm_209.not pr_43 hb_40.lt
                have pg_214 : ∀ q_, F_206 q_ → w.heap.size ≤ q_ := hm_209.ge pr_25 K0.size
                replace hO_21 := hO_21.keepO K_210 (fun q_ h1 h2 => pr_23 q_ h2 h1)
                replace ho_22 := ho_22.keepO K_210 (fun q_ h1 h2 => pr_24 q_ h2 h1)
                replace hb_40 := hb_40.keep K_210 pr_43
                replace K0 := K0.new K_210 pr_25
                clear hm_209
                refine RL.val (x_eqI rfl rfl) ?_
                refine RL.nil ?_
                refine Run.cond rfl (fun hc113 => ?_) (fun hc113 => ?_)
                · try simp only [br] at hc113
                  have he := (lose_len hok0.rise).1 hc113
                  refine Run.region ?_
                  refine RL.val (x_moveI rfl) ?_
                  refine RL.val (litI (c := ((((delP pv ((o).a)).length : Nat) : Int))) (x_sub rfl rfl (by omega) (by omega)) (by omega)) ?_
                  refine RL.val (x_assignI rfl) ?_
                  refine RL.nil ?_
                  refine Run.inBlock ?_
                  refine Run.seq ?_
                  have hok1 := hS_208.ok
                  have hlen1 := hok1.len
                  refine Run.region ?_
                  refine RL.val (x_moveP rfl) ?_
                  refine RL.st rfl <| St1.call (vals := [.pointer (some ⟨b_1, 0, none⟩)]) en15 rfl (packetsD hS_208 (by first | decide | assumption | omega)) ?_
                  rintro _ w_218 ⟨a_215, c_216, ks_217, rfl, ho_219, hQ_220, hpe_221, hg_222, hg_223, hap_224, K_225⟩
                  have pr_226 : ∀ q_, own a_215 q_ → ¬ one m_11 q_ := apartNew hg_222 hO_21.own_lt
                  have pr_227 : ∀ q_, own a_215 q_ → ¬ own am q_ := apartNew hg_222 ho_22.own_lt
                  have pr_228 : ¬ own a_215 b_37 := notNew hg_222 hb_40.lt
                  have pr_229 : ∀ q_, own a_215 q_ → ¬ F_206 q_ := apartNew hg_222 hS_208.own_lt
                  have pg_230 : ∀ q_, own a_215 q_ → w.heap.size ≤ q_ := fun q_ h => Nat.le_trans K0.size (hg_222 q_ h)
                  have pr_231 : ∀ q_, mgsS ks_217 q_ → ¬ one m_11 q_ := apartNew hg_223 hO_21.own_lt
                  have pr_232 : ∀ q_, mgsS ks_217 q_ → ¬ own am q_ := apartNew hg_223 ho_22.own_lt
                  have pr_233 : ¬ mgsS ks_217 b_37 := notNew hg_223 hb_40.lt
                  have pr_234 : ∀ q_, mgsS ks_217 q_ → ¬ F_206 q_ := apartNew hg_223 hS_208.own_lt
                  have pg_235 : ∀ q_, mgsS ks_217 q_ → w.heap.size ≤ q_ := fun q_ h => Nat.le_trans K0.size (hg_223 q_ h)
                  clear hg_222 hg_223
                  have hkl_ks_217 : (ks_217.map Pk.k).length = (delP pv ((o).a)).length := by have := congrArg List.length hpe_221; simpa using this
                  replace hO_21 := hO_21.ext K_225
                  replace ho_22 := ho_22.ext K_225
                  replace hb_40 := hb_40.ext K_225
                  replace hS_208 := hS_208.ext K_225
                  replace K0 := K0.ext K_225
                  refine RL.val (x_lenSl Try.underlying53 rfl) ?_
                  refine RL.val (x_moveI rfl) ?_
                  refine RL.val (x_neI rfl rfl) ?_
                  refine RL.val (x_moveB rfl) ?_
                  refine RL.gval (wantedF rfl rfl rfl rfl) (fun hg => (x_moveI rfl)) ?_
                  refine RL.gval (wantedF rfl rfl rfl rfl) (fun hg => (x_gtI (gvr hg) rfl)) ?_
                  refine RL.val (x_or rfl rfl rfl) ?_
                  refine RL.nil ?_
                  refine Run.cond rfl (fun hc124 => ?_) (fun hc124 => ?_)
                  · try simp only [br] at hc124
                    exact absurd hc124 (by omega)
                  · try simp only [br] at hc124
                    refine Run.skip ?_
                    refine Run.inBlock ?_
                    refine Run.region ?_
                    refine RL.val (litI (c := ((i + 1 : Nat) : Int)) (x_add rfl rfl (by omega) (by omega)) rfl) ?_
                    refine RL.val (x_moveI rfl) ?_
                    refine RL.nil ?_
                    have hP2 := made_lose (a := o.a) hP hT
                    refine ih1 (i + 1) _ _ ?_ (by omega)
                    refine ⟨F_206, delP pv ((o).a), id, tk, S, _, _, ⟨rfl, rfl, rfl, rfl, rfl, rfl, rfl, trivial⟩, K0, hS_208, hO_21, ho_22, pr_211, pr_212, pg_214, pr_26, pr_27, pr_28, ?_, ?_, ?_, ?_, ?_, ?_, ?_⟩
                    · omega
                    · omega
                    · omega
                    · omega
                    · exact hS
                    · exact hP2.1
                    · exact hP2.2
                · try simp only [br] at hc113
                  have he := (lose_len hok0.rise).2 hc113
                  refine Run.skip ?_
                  refine Run.inBlock ?_
                  refine Run.seq ?_
                  have hok1 := hS_208.ok
                  have hlen1 := hok1.len
                  refine Run.region ?_
                  refine RL.val (x_moveP rfl) ?_
                  refine RL.st rfl <| St1.call (vals := [.pointer (some ⟨b_1, 0, none⟩)]) en15 rfl (packetsD hS_208 (by first | decide | assumption | omega)) ?_
                  rintro _ w_239 ⟨a_236, c_237, ks_238, rfl, ho_240, hQ_241, hpe_242, hg_243, hg_244, hap_245, K_246⟩
                  have pr_247 : ∀ q_, own a_236 q_ → ¬ one m_11 q_ := apartNew hg_243 hO_21.own_lt
                  have pr_248 : ∀ q_, own a_236 q_ → ¬ own am q_ := apartNew hg_243 ho_22.own_lt
                  have pr_249 : ¬ own a_236 b_37 := notNew hg_243 hb_40.lt
                  have pr_250 : ∀ q_, own a_236 q_ → ¬ F_206 q_ := apartNew hg_243 hS_208.own_lt
                  have pg_251 : ∀ q_, own a_236 q_ → w.heap.size ≤ q_ := fun q_ h => Nat.le_trans K0.size (hg_243 q_ h)
                  have pr_252 : ∀ q_, mgsS ks_238 q_ → ¬ one m_11 q_ := apartNew hg_244 hO_21.own_lt
                  have pr_253 : ∀ q_, mgsS ks_238 q_ → ¬ own am q_ := apartNew hg_244 ho_22.own_lt
                  have pr_254 : ¬ mgsS ks_238 b_37 := notNew hg_244 hb_40.lt
                  have pr_255 : ∀ q_, mgsS ks_238 q_ → ¬ F_206 q_ := apartNew hg_244 hS_208.own_lt
                  have pg_256 : ∀ q_, mgsS ks_238 q_ → w.heap.size ≤ q_ := fun q_ h => Nat.le_trans K0.size (hg_244 q_ h)
                  clear hg_243 hg_244
                  have hkl_ks_238 : (ks_238.map Pk.k).length = (delP pv ((o).a)).length := by have := congrArg List.length hpe_242; simpa using this
                  replace hO_21 := hO_21.ext K_246
                  replace ho_22 := ho_22.ext K_246
                  replace hb_40 := hb_40.ext K_246
                  replace hS_208 := hS_208.ext K_246
                  replace K0 := K0.ext K_246
                  refine RL.val (x_lenSl Try.underlying53 rfl) ?_
                  refine RL.val (x_moveI rfl) ?_
                  refine RL.val (x_neI rfl rfl) ?_
                  refine RL.val (x_moveB rfl) ?_
                  refine RL.gval (wantedF rfl rfl rfl rfl) (fun hg => (x_moveI rfl)) ?_
                  refine RL.gval (wantedF rfl rfl rfl rfl) (fun hg => (x_gtI (gvr hg) rfl)) ?_
                  refine RL.val (x_or rfl rfl rfl) ?_
                  refine RL.nil ?_
                  refine Run.cond rfl (fun hc124 => ?_) (fun hc124 => ?_)
                  · try simp only [br] at hc124
                    exact absurd hc124 (by omega)
                  · try simp only [br] at hc124
                    refine Run.skip ?_
                    refine Run.inBlock ?_
                    refine Run.region ?_
                    refine RL.val (litI (c := ((i + 1 : Nat) : Int)) (x_add rfl rfl (by omega) (by omega)) rfl) ?_
                    refine RL.val (x_moveI rfl) ?_
                    refine RL.nil ?_
                    have hP2 := made_lose (a := o.a) hP hT
                    refine ih1 (i + 1) _ _ ?_ (by omega)
                    rw [← he]
                    refine ⟨F_206, delP pv ((o).a), id, tk, S, _, _, ⟨rfl, rfl, rfl, rfl, rfl, rfl, rfl, trivial⟩, K0, hS_208, hO_21, ho_22, pr_211, pr_212, pg_214, pr_26, pr_27, pr_28, ?_, ?_, ?_, ?_, ?_, ?_, ?_⟩
                    · omega
                    · omega
                    · omega
                    · omega
                    · exact hS
                    · exact hP2.1
                    · exact hP2.2
              · try simp only [br] at hc107
                refine Run.seq ?_
                have hok0 := hO_20.ok
                have hlen0 := hok0.len
                refine Run.region ?_
                refine RL.val (x_moveP rfl) ?_
                refine RL.val (x_fld (o' := 2) Try.underlying32 rfl ty3 rfl rfl rfl) ?_
                refine RL.val (x_ld (v := .int .i64 ((o).a)) ty3 rfl rfl (hb_40.cl.field (i := 2) rfl)) ?_
                refine RL.st rfl <| St1.call (vals := [.pointer (some ⟨b_1, 0, none⟩), .int .i64 ((o).a)]) en14 rfl (twiceD hO_20 ((o).a) (by first | decide | assumption | omega)) ?_
                rintro _ w_258 ⟨F_257, rfl, hS_259, hm_260, K_261⟩
                have pr_262 : ∀ q_, F_257 q_ → ¬ one m_11 q_ := hm_260.apart pr_23 hO_21.own_lt
                have pr_263 : ∀ q_, F_257 q_ → ¬ own am q_ := hm_260.apart pr_24 ho_22.own_lt
                have pr_264 : ¬ F_257 b_37 := hm_260.not pr_43 hb_40.lt
                have pg_265 : ∀ q_, F_257 q_ → w.heap.size ≤ q_ := hm_260.ge pr_25 K0.size
                replace hO_21 := hO_21.keepO K_261 (fun q_ h1 h2 => pr_23 q_ h2 h1)
                replace ho_22 := ho_22.keepO K_261 (fun q_ h1 h2 => pr_24 q_ h2 h1)
                replace hb_40 := hb_40.keep K_261 pr_43
                replace K0 := K0.new K_261 pr_25
                clear hm_260
                refine RL.val (x_eqI rfl rfl) ?_
                refine RL.nil ?_
                refine Run.cond rfl (fun hc53 => ?_) (fun hc53 => ?_)
                · try simp only [br] at hc53
                  have hn := twiceN_le id pv o.a
                  have he := ((twice_len (id := id)).1 hc53).1
                  refine Run.region ?_
                  refine RL.val (x_moveI rfl) ?_
                  refine RL.val (litI (c := ((((twiceL id pv ((o).a)).length : Nat) : Int))) (litI (c := ((pv.length + 1 : Nat) : Int)) (x_add rfl rfl (by omega) (by omega)) rfl) (by omega)) ?_
                  refine RL.val (x_assignI rfl) ?_
                  refine RL.nil ?_
                  refine Run.inBlock ?_
                  refine Run.seq ?_
                  have hok1 := hS_259.ok
                  have hlen1 := hok1.len
                  refine Run.region ?_
                  refine RL.val (x_moveP rfl) ?_
                  refine RL.st rfl <| St1.call (vals := [.pointer (some ⟨b_1, 0, none⟩)]) en15 rfl (packetsD hS_259 (by first | decide | assumption | omega)) ?_
                  rintro _ w_269 ⟨a_266, c_267, ks_268, rfl, ho_270, hQ_271, hpe_272, hg_273, hg_274, hap_275, K_276⟩
                  have pr_277 : ∀ q_, own a_266 q_ → ¬ one m_11 q_ := apartNew hg_273 hO_21.own_lt
                  have pr_278 : ∀ q_, own a_266 q_ → ¬ own am q_ := apartNew hg_273 ho_22.own_lt
                  have pr_279 : ¬ own a_266 b_37 := notNew hg_273 hb_40.lt
                  have pr_280 : ∀ q_, own a_266 q_ → ¬ F_257 q_ := apartNew hg_273 hS_259.own_lt
                  have pg_281 : ∀ q_, own a_266 q_ → w.heap.size ≤ q_ := fun q_ h => Nat.le_trans K0.size (hg_273 q_ h)
                  have pr_282 : ∀ q_, mgsS ks_268 q_ → ¬ one m_11 q_ := apartNew hg_274 hO_21.own_lt
                  have pr_283 : ∀ q_, mgsS ks_268 q_ → ¬ own am q_ := apartNew hg_274 ho_22.own_lt
                  have pr_284 : ¬ mgsS ks_268 b_37 := notNew hg_274 hb_40.lt
                  have pr_285 : ∀ q_, mgsS ks_268 q_ → ¬ F_257 q_ := apartNew hg_274 hS_259.own_lt
                  have pg_286 : ∀ q_, mgsS ks_268 q_ → w.heap.size ≤ q_ := fun q_ h => Nat.le_trans K0.size (hg_274 q_ h)
                  clear hg_273 hg_274
                  have hkl_ks_268 : (ks_268.map Pk.k).length = (twiceL id pv ((o).a)).length := by have := congrArg List.length hpe_272; simpa using this
                  replace hO_21 := hO_21.ext K_276
                  replace ho_22 := ho_22.ext K_276
                  replace hb_40 := hb_40.ext K_276
                  replace hS_259 := hS_259.ext K_276
                  replace K0 := K0.ext K_276
                  refine RL.val (x_lenSl Try.underlying53 rfl) ?_
                  refine RL.val (x_moveI rfl) ?_
                  refine RL.val (x_neI rfl rfl) ?_
                  refine RL.val (x_moveB rfl) ?_
                  refine RL.gval (wantedF rfl rfl rfl rfl) (fun hg => (x_moveI rfl)) ?_
                  refine RL.gval (wantedF rfl rfl rfl rfl) (fun hg => (x_gtI (gvr hg) rfl)) ?_
                  refine RL.val (x_or rfl rfl rfl) ?_
                  refine RL.nil ?_
                  refine Run.cond rfl (fun hc124 => ?_) (fun hc124 => ?_)
                  · try simp only [br] at hc124
                    exact absurd hc124 (by omega)
                  · try simp only [br] at hc124
                    refine Run.skip ?_
                    refine Run.inBlock ?_
                    refine Run.region ?_
                    refine RL.val (litI (c := ((i + 1 : Nat) : Int)) (x_add rfl rfl (by omega) (by omega)) rfl) ?_
                    refine RL.val (x_moveI rfl) ?_
                    refine RL.nil ?_
                    have hP2 := made_twice (a := o.a) hP hT
                    refine ih1 (i + 1) _ _ ?_ (by omega)
                    refine ⟨F_257, twiceL id pv ((o).a), twiceN id pv ((o).a), tk, S, _, _, ⟨rfl, rfl, rfl, rfl, rfl, rfl, rfl, trivial⟩, K0, hS_259, hO_21, ho_22, pr_262, pr_263, pg_265, pr_26, pr_27, pr_28, ?_, ?_, ?_, ?_, ?_, ?_, ?_⟩
                    · omega
                    · omega
                    · omega
                    · omega
                    · exact hS
                    · exact hP2.1
                    · exact hP2.2
                · try simp only [br] at hc53
                  have hn := twiceN_le id pv o.a
                  have he := ((twice_len (id := id)).2 hc53).1
                  refine Run.skip ?_
                  refine Run.inBlock ?_
                  refine Run.seq ?_
                  have hok1 := hS_259.ok
                  have hlen1 := hok1.len
                  refine Run.region ?_
                  refine RL.val (x_moveP rfl) ?_
                  refine RL.st rfl <| St1.call (vals := [.pointer (some ⟨b_1, 0, none⟩)]) en15 rfl (packetsD hS_259 (by first | decide | assumption | omega)) ?_
                  rintro _ w_290 ⟨a_287, c_288, ks_289, rfl, ho_291, hQ_292, hpe_293, hg_294, hg_295, hap_296, K_297⟩
                  have pr_298 : ∀ q_, own a_287 q_ → ¬ one m_11 q_ := apartNew hg_294 hO_21.own_lt
                  have pr_299 : ∀ q_, own a_287 q_ → ¬ own am q_ := apartNew hg_294 ho_22.own_lt
                  have pr_300 : ¬ own a_287 b_37 := notNew hg_294 hb_40.lt
                  have pr_301 : ∀ q_, own a_287 q_ → ¬ F_257 q_ := apartNew hg_294 hS_259.own_lt
                  have pg_302 : ∀ q_, own a_287 q_ → w.heap.size ≤ q_ := fun q_ h => Nat.le_trans K0.size (hg_294 q_ h)
                  have pr_303 : ∀ q_, mgsS ks_289 q_ → ¬ one m_11 q_ := apartNew hg_295 hO_21.own_lt
                  have pr_304 : ∀ q_, mgsS ks_289 q_ → ¬ own am q_ := apartNew hg_295 ho_22.own_lt
                  have pr_305 : ¬ mgsS ks_289 b_37 := notNew hg_295 hb_40.lt
                  have pr_306 : ∀ q_, mgsS ks_289 q_ → ¬ F_257 q_ := apartNew hg_295 hS_259.own_lt
                  have pg_307 : ∀ q_, mgsS ks_289 q_ → w.heap.size ≤ q_ := fun q_ h => Nat.le_trans K0.size (hg_295 q_ h)
                  clear hg_294 hg_295
                  have hkl_ks_289 : (ks_289.map Pk.k).length = (twiceL id pv ((o).a)).length := by have := congrArg List.length hpe_293; simpa using this
                  replace hO_21 := hO_21.ext K_297
                  replace ho_22 := ho_22.ext K_297
                  replace hb_40 := hb_40.ext K_297
                  replace hS_259 := hS_259.ext K_297
                  replace K0 := K0.ext K_297
                  refine RL.val (x_lenSl Try.underlying53 rfl) ?_
                  refine RL.val (x_moveI rfl) ?_
                  refine RL.val (x_neI rfl rfl) ?_
                  refine RL.val (x_moveB rfl) ?_
                  refine RL.gval (wantedF rfl rfl rfl rfl) (fun hg => (x_moveI rfl)) ?_
                  refine RL.gval (wantedF rfl rfl rfl rfl) (fun hg => (x_gtI (gvr hg) rfl)) ?_
                  refine RL.val (x_or rfl rfl rfl) ?_
                  refine RL.nil ?_
                  refine Run.cond rfl (fun hc124 => ?_) (fun hc124 => ?_)
                  · try simp only [br] at hc124
                    exact absurd hc124 (by omega)
                  · try simp only [br] at hc124
                    refine Run.skip ?_
                    refine Run.inBlock ?_
                    refine Run.region ?_
                    refine RL.val (litI (c := ((i + 1 : Nat) : Int)) (x_add rfl rfl (by omega) (by omega)) rfl) ?_
                    refine RL.val (x_moveI rfl) ?_
                    refine RL.nil ?_
                    have hP2 := made_twice (a := o.a) hP hT
                    refine ih1 (i + 1) _ _ ?_ (by omega)
                    rw [← he]
                    refine ⟨F_257, twiceL id pv ((o).a), twiceN id pv ((o).a), tk, S, _, _, ⟨rfl, rfl, rfl, rfl, rfl, rfl, rfl, trivial⟩, K0, hS_259, hO_21, ho_22, pr_262, pr_263, pg_265, pr_26, pr_27, pr_28, ?_, ?_, ?_, ?_, ?_, ?_, ?_⟩
                    · omega
                    · omega
                    · omega
                    · omega
                    · exact hS
                    · exact hP2.1
                    · exact hP2.2
          · try simp only [br] at hc80
            refine Run.region ?_
            refine RL.val (x_eqI rfl rfl) ?_
            refine RL.val (x_assignB rfl) ?_
            refine RL.nil ?_
            refine Run.cond rfl (fun hc80 => ?_) (fun hc80 => ?_)
            · try simp only [br] at hc80
              refine Run.seq ?_
              have hok0 := hO_20.ok
              have hlen0 := hok0.len
              refine Run.region ?_
              refine RL.val (x_moveP rfl) ?_
              refine RL.val (x_fld (o' := 2) Try.underlying32 rfl ty3 rfl rfl rfl) ?_
              refine RL.val (x_ld (v := .int .i64 ((o).a)) ty3 rfl rfl (hb_40.cl.field (i := 2) rfl)) ?_
              refine RL.st rfl <| St1.call (vals := [.pointer (some ⟨b_1, 0, none⟩), .int .i64 ((o).a)]) en11 rfl (takeX hO_20 ((o).a)) ?_
              rintro _ w_312 ⟨V_308, hV_309, F_310, s_311, rfl, hS_313, hO_314, hv_315, hin_316, hap_317, hm_318, K_319⟩
              have pr_321 : ∀ q_, ownS s_311 q_ → ¬ one m_11 q_ := fun q_ h_ => pr_23 q_ (hin_316 q_ h_)
              have pr_322 : ∀ q_, ownS s_311 q_ → ¬ own am q_ := fun q_ h_ => pr_24 q_ (hin_316 q_ h_)
              have pr_323 : ¬ ownS s_311 b_37 := fun h_ => pr_43 (hin_316 _ h_)
              have pr_324 : ∀ q_, F_310 q_ → ¬ one m_11 q_ := hm_318.apart pr_23 hO_21.own_lt
              have pr_325 : ∀ q_, F_310 q_ → ¬ own am q_ := hm_318.apart pr_24 ho_22.own_lt
              have pr_326 : ¬ F_310 b_37 := hm_318.not pr_43 hb_40.lt
              have pg_327 : ∀ q_, F_310 q_ → w.heap.size ≤ q_ := hm_318.ge pr_25 K0.size
              replace hO_21 := hO_21.keepO K_319 (fun q_ h1 h2 => pr_23 q_ h2 h1)
              replace ho_22 := ho_22.keepO K_319 (fun q_ h1 h2 => pr_24 q_ h2 h1)
              replace hb_40 := hb_40.keep K_319 pr_43
              replace K0 := K0.new K_319 pr_25
              clear hm_318
              have pg_328 : ∀ q_, ownS s_311 q_ → w.heap.size ≤ q_ := fun q_ h_ => pr_25 q_ (hin_316 q_ h_)
              refine RL.val (x_moveT rfl) ?_
              refine RL.val (x_extract rfl rfl) ?_
              refine RL.val (x_extract rfl rfl) ?_
              refine RL.st rfl <| St1.alloc ty48 ?_
              intro b_329 w_330 hl_333 hb_332 K_331
              replace hb_332 : Blk w_330 b_329 [.int .i64 (0), .int .i64 (0), .int .i64 (0), .int .i64 (0), .string (⟨#[]⟩), .slice (none) (0) (0), .slice (none) (0) (0), .slice (none) (0) (0), .int .i64 (0), .int .i64 (0), .int .i64 (0), .int .i64 (0), .int .i64 (0), .int .i64 (0), .slice (none) (0) (0), .slice (none) (0) (0), .slice (none) (0) (0)] 48 := hb_332
              have ne_334 : b_37 < b_329 := Nat.lt_of_lt_of_le hb_40.lt hl_333
              have pr_335 : ¬ one m_11 b_329 := fun h => absurd (hO_21.own_lt _ h) (by omega)
              have pr_336 : ¬ own am b_329 := fun h => absurd (ho_22.own_lt _ h) (by omega)
              have pr_337 : ¬ F_310 b_329 := fun h => absurd (hS_313.own_lt _ h) (by omega)
              have pr_338 : ¬ ownS s_311 b_329 := fun h => absurd (hO_314.own_lt _ h) (by omega)
              have : w.heap.size ≤ b_329 := Nat.le_trans K0.size hl_333
              clear hl_333
              replace hO_21 := hO_21.ext K_331
              replace ho_22 := ho_22.ext K_331
              replace hb_40 := hb_40.ext K_331
              replace hS_313 := hS_313.ext K_331
              replace hO_314 := hO_314.ext K_331
              replace K0 := K0.ext K_331
              refine RL.st rfl <| St1.store (v := .agg #[.int .i64 (((mkC V_308 s_311)).kind), .int .i64 (((mkC V_308 s_311)).frm), .int .i64 (((mkC V_308 s_311)).to), .int .i64 (((mkC V_308 s_311)).req), .string (((mkC V_308 s_311)).key), .slice (s_311.ea) (V_308.ent.length) (s_311.ec), .slice (s_311.ma) (V_308.mrk.length) (s_311.mc), .slice (s_311.ca) (V_308.cl.length) (s_311.cc), .int .i64 (((mkC V_308 s_311)).owner), .int .i64 (((mkC V_308 s_311)).part), .int .i64 (((mkC V_308 s_311)).n), .int .i64 ((((mkC V_308 s_311)).ring).parts), .int .i64 ((((mkC V_308 s_311)).ring).copies), .int .i64 ((((mkC V_308 s_311)).ring).spots), .slice (s_311.ba) (V_308.mem.length) (s_311.bc), .slice (s_311.pa) (V_308.pe.length) (s_311.pc), .slice (s_311.sa) (V_308.su.length) (s_311.sc)]) ty48 rfl rfl rfl (by simp [Value.cells, Value.oneCell']) hb_332 (by simp) ?_
              intro w_339 hb_332_ K_340
              have hb_332' : Blk w_339 b_329 [.int .i64 (((mkC V_308 s_311)).kind), .int .i64 (((mkC V_308 s_311)).frm), .int .i64 (((mkC V_308 s_311)).to), .int .i64 (((mkC V_308 s_311)).req), .string (((mkC V_308 s_311)).key), .slice (s_311.ea) (V_308.ent.length) (s_311.ec), .slice (s_311.ma) (V_308.mrk.length) (s_311.mc), .slice (s_311.ca) (V_308.cl.length) (s_311.cc), .int .i64 (((mkC V_308 s_311)).owner), .int .i64 (((mkC V_308 s_311)).part), .int .i64 (((mkC V_308 s_311)).n), .int .i64 ((((mkC V_308 s_311)).ring).parts), .int .i64 ((((mkC V_308 s_311)).ring).copies), .int .i64 ((((mkC V_308 s_311)).ring).spots), .slice (s_311.ba) (V_308.mem.length) (s_311.bc), .slice (s_311.pa) (V_308.pe.length) (s_311.pc), .slice (s_311.sa) (V_308.su.length) (s_311.sc)] 48 := hb_332_
              clear hb_332_
              replace hO_21 := hO_21.keepO K_340 (fun q_ hq_ eq_ => pr_335 (by simp only [one] at eq_; rw [← eq_]; exact hq_))
              replace ho_22 := ho_22.keepO K_340 (fun q_ hq_ eq_ => pr_336 (by simp only [one] at eq_; rw [← eq_]; exact hq_))
              replace hb_40 := hb_40.keep K_340 (by simp only [one]; omega)
              replace hS_313 := hS_313.keepO K_340 (fun q_ hq_ eq_ => pr_337 (by simp only [one] at eq_; rw [← eq_]; exact hq_))
              replace hO_314 := hO_314.keepO K_340 (fun q_ hq_ eq_ => pr_338 (by simp only [one] at eq_; rw [← eq_]; exact hq_))
              replace K0 := K0.new K_340 (fun x hx => by simp only [one] at hx; omega)
              replace hb_332 := hb_332'
              clear hb_332'
              refine RL.val (x_assignI rfl) ?_
              refine RL.nil ?_
              refine Run.seq ?_
              refine Run.seq ?_
              refine Run.region ?_
              refine RL.val (x_moveI rfl) ?_
              refine RL.val (x_neI rfl rfl) ?_
              refine RL.nil ?_
              refine Run.cond rfl (fun hc91 => ?_) (fun hc91 => ?_)
              · try simp only [br] at hc91
                have htl := takeNo hc91
                have he : (takeL (1 + m8) ([] : List LinkC) pv ((o).a)).length = pv.length := by rw [htl]
                refine Run.exit rfl ?_
                refine Run.seq ?_
                have hok1 := hS_313.ok
                have hlen1 := hok1.len
                refine Run.region ?_
                refine RL.val (x_moveP rfl) ?_
                refine RL.st rfl <| St1.call (vals := [.pointer (some ⟨b_1, 0, none⟩)]) en15 rfl (packetsD hS_313 (by first | decide | assumption | omega)) ?_
                rintro _ w_344 ⟨a_341, c_342, ks_343, rfl, ho_345, hQ_346, hpe_347, hg_348, hg_349, hap_350, K_351⟩
                have pr_352 : ∀ q_, own a_341 q_ → ¬ one m_11 q_ := apartNew hg_348 hO_21.own_lt
                have pr_353 : ∀ q_, own a_341 q_ → ¬ own am q_ := apartNew hg_348 ho_22.own_lt
                have pr_354 : ¬ own a_341 b_37 := notNew hg_348 hb_40.lt
                have pr_355 : ∀ q_, own a_341 q_ → ¬ F_310 q_ := apartNew hg_348 hS_313.own_lt
                have pr_356 : ∀ q_, own a_341 q_ → ¬ ownS s_311 q_ := apartNew hg_348 hO_314.own_lt
                have pr_357 : ¬ own a_341 b_329 := notNew hg_348 hb_332.lt
                have pg_358 : ∀ q_, own a_341 q_ → w.heap.size ≤ q_ := fun q_ h => Nat.le_trans K0.size (hg_348 q_ h)
                have pr_359 : ∀ q_, mgsS ks_343 q_ → ¬ one m_11 q_ := apartNew hg_349 hO_21.own_lt
                have pr_360 : ∀ q_, mgsS ks_343 q_ → ¬ own am q_ := apartNew hg_349 ho_22.own_lt
                have pr_361 : ¬ mgsS ks_343 b_37 := notNew hg_349 hb_40.lt
                have pr_362 : ∀ q_, mgsS ks_343 q_ → ¬ F_310 q_ := apartNew hg_349 hS_313.own_lt
                have pr_363 : ∀ q_, mgsS ks_343 q_ → ¬ ownS s_311 q_ := apartNew hg_349 hO_314.own_lt
                have pr_364 : ¬ mgsS ks_343 b_329 := notNew hg_349 hb_332.lt
                have pg_365 : ∀ q_, mgsS ks_343 q_ → w.heap.size ≤ q_ := fun q_ h => Nat.le_trans K0.size (hg_349 q_ h)
                clear hg_348 hg_349
                have hkl_ks_343 : (ks_343.map Pk.k).length = (takeL (1 + m8) ([] : List LinkC) pv ((o).a)).length := by have := congrArg List.length hpe_347; simpa using this
                replace hO_21 := hO_21.ext K_351
                replace ho_22 := ho_22.ext K_351
                replace hb_40 := hb_40.ext K_351
                replace hS_313 := hS_313.ext K_351
                replace hO_314 := hO_314.ext K_351
                replace hb_332 := hb_332.ext K_351
                replace K0 := K0.ext K_351
                refine RL.val (x_lenSl Try.underlying53 rfl) ?_
                refine RL.val (x_moveI rfl) ?_
                refine RL.val (x_neI rfl rfl) ?_
                refine RL.val (x_moveB rfl) ?_
                refine RL.gval (wantedF rfl rfl rfl rfl) (fun hg => (x_moveI rfl)) ?_
                refine RL.gval (wantedF rfl rfl rfl rfl) (fun hg => (x_gtI (gvr hg) rfl)) ?_
                refine RL.val (x_or rfl rfl rfl) ?_
                refine RL.nil ?_
                refine Run.cond rfl (fun hc124 => ?_) (fun hc124 => ?_)
                · try simp only [br] at hc124
                  exact absurd hc124 (by omega)
                · try simp only [br] at hc124
                  refine Run.skip ?_
                  refine Run.inBlock ?_
                  refine Run.region ?_
                  refine RL.val (litI (c := ((i + 1 : Nat) : Int)) (x_add rfl rfl (by omega) (by omega)) rfl) ?_
                  refine RL.val (x_moveI rfl) ?_
                  refine RL.nil ?_
                  have hP2 := And.intro hP hT
                  rw [← htl] at hP2
                  refine ih1 (i + 1) _ _ ?_ (by omega)
                  rw [← he]
                  refine ⟨F_310, takeL (1 + m8) ([] : List LinkC) pv ((o).a), id, tk, S, _, _, ⟨rfl, rfl, rfl, rfl, rfl, rfl, rfl, trivial⟩, K0, hS_313, hO_21, ho_22, pr_324, pr_325, pg_327, pr_26, pr_27, pr_28, ?_, ?_, ?_, ?_, ?_, ?_, ?_⟩
                  · omega
                  · omega
                  · omega
                  · omega
                  · exact hS
                  · exact hP2.1
                  · exact hP2.2
              · try simp only [br] at hc91
                obtain ⟨hin, htl⟩ := take0 hc91
                rw [hV_309] at hin
                have hdl : (delP pv o.a).length + 1 = pv.length := del_len hok0.rise hin
                have he : (takeL (1 + m8) ([] : List LinkC) pv ((o).a)).length + 1 = pv.length := by rw [htl]; exact hdl
                have hnt : o.a ∉ tk := fun h => (hT _ h).2 _ hin rfl
                have hany : (S.map Mg.v).any (fun y => decide (y = V_308)) = true := List.any_eq_true.2 ⟨V_308, hP _ hin, decide_eq_true rfl⟩
                refine Run.skip ?_
                refine Run.seq ?_
                refine Run.seq ?_
                refine Run.region ?_
                refine RL.val (x_moveM rfl) ?_
                refine RL.val (x_fld (o' := 2) Try.underlying32 rfl ty3 rfl rfl rfl) ?_
                refine RL.val (x_ld (v := .int .i64 ((o).a)) ty3 rfl rfl (hb_40.cl.field (i := 2) rfl)) ?_
                refine RL.val (litF (litV (v' := .bool (decide ((o).a ∈ tk))) (x_lookup Try.underlying30 Try.underlying3 rfl ty4 rfl rfl hO_21) (akT_get _ _)) (decide_eq_false hnt)) ?_
                refine RL.val (x_moveB rfl) ?_
                refine RL.gst (wantedF1 rfl rfl rfl rfl) <| St1.val (x_moveSl rfl) ?_
                refine RL.gst (wantedF1 rfl rfl rfl rfl) <| St1.val (x_lds (cs := #[.int .i64 (((mkC V_308 s_311)).kind), .int .i64 (((mkC V_308 s_311)).frm), .int .i64 (((mkC V_308 s_311)).to), .int .i64 (((mkC V_308 s_311)).req), .string (((mkC V_308 s_311)).key), .slice (s_311.ea) (V_308.ent.length) (s_311.ec), .slice (s_311.ma) (V_308.mrk.length) (s_311.mc), .slice (s_311.ca) (V_308.cl.length) (s_311.cc), .int .i64 (((mkC V_308 s_311)).owner), .int .i64 (((mkC V_308 s_311)).part), .int .i64 (((mkC V_308 s_311)).n), .int .i64 ((((mkC V_308 s_311)).ring).parts), .int .i64 ((((mkC V_308 s_311)).ring).copies), .int .i64 ((((mkC V_308 s_311)).ring).spots), .slice (s_311.ba) (V_308.mem.length) (s_311.bc), .slice (s_311.pa) (V_308.pe.length) (s_311.pc), .slice (s_311.sa) (V_308.su.length) (s_311.sc)]) ty48 rfl rfl (hb_332.cl.drop 0 17)) ?_
                refine RL.gst (wantedF1 rfl rfl rfl rfl) <| St1.call (vals := [.slice (am) ((S.map Mg.c).length) (cm), .agg #[.int .i64 (((mkC V_308 s_311)).kind), .int .i64 (((mkC V_308 s_311)).frm), .int .i64 (((mkC V_308 s_311)).to), .int .i64 (((mkC V_308 s_311)).req), .string (((mkC V_308 s_311)).key), .slice (s_311.ea) (V_308.ent.length) (s_311.ec), .slice (s_311.ma) (V_308.mrk.length) (s_311.mc), .slice (s_311.ca) (V_308.cl.length) (s_311.cc), .int .i64 (((mkC V_308 s_311)).owner), .int .i64 (((mkC V_308 s_311)).part), .int .i64 (((mkC V_308 s_311)).n), .int .i64 ((((mkC V_308 s_311)).ring).parts), .int .i64 ((((mkC V_308 s_311)).ring).copies), .int .i64 ((((mkC V_308 s_311)).ring).spots), .slice (s_311.ba) (V_308.mem.length) (s_311.bc), .slice (s_311.pa) (V_308.pe.length) (s_311.pc), .slice (s_311.sa) (V_308.su.length) (s_311.sc)]]) en12 rfl (among_ _ S _ V_308 s_311 _ ho_22.sl (fun m hm => ⟨(hS m hm).1.ext K0, (hS m hm).2⟩) hO_314.r (by omega)) ?_
                rintro _ w_366 ⟨rfl, K_367⟩
                replace hO_21 := hO_21.ext K_367
                replace ho_22 := ho_22.ext K_367
                replace hb_40 := hb_40.ext K_367
                replace hS_313 := hS_313.ext K_367
                replace hO_314 := hO_314.ext K_367
                replace hb_332 := hb_332.ext K_367
                replace K0 := K0.ext K_367
                refine RL.gst (wantedF1 rfl rfl rfl rfl) <| St1.val (x_not rfl) ?_
                refine RL.val (x_orF rfl rfl rfl) ?_
                refine RL.nil ?_
                refine Run.cond rfl (fun hc101 => ?_) (fun hc101 => ?_)
                · try simp only [br] at hc101
                  exact absurd hc101 (by simp [hany])
                · try simp only [br] at hc101
                  refine Run.skip ?_
                  refine Run.seq ?_
                  refine Run.region ?_
                  refine RL.val (x_moveM rfl) ?_
                  refine RL.val (x_fld (o' := 2) Try.underlying32 rfl ty3 rfl rfl rfl) ?_
                  refine RL.val (x_ld (v := .int .i64 ((o).a)) ty3 rfl rfl (hb_40.cl.field (i := 2) rfl)) ?_
                  refine RL.st rfl <| St1.mapUpdate (v := .bool (true)) Try.underlying30 Try.underlying3 rfl rfl rfl rfl hO_21 ?_
                  intro w_368 hM_369 K_370
                  replace hM_369 : MapAt w_368 m_11 (akT (tk ++ [(o).a])) := (akT_put hnt ▸ hM_369)
                  replace ho_22 := ho_22.keepO K_370 (fun q_ h1 h2 => pr_26 q_ h2 h1)
                  replace hb_40 := hb_40.keep K_370 pr_44
                  replace hS_313 := hS_313.keepO K_370 pr_324
                  replace hO_314 := hO_314.keepO K_370 pr_321
                  replace hb_332 := hb_332.keep K_370 pr_335
                  replace K0 := K0.new K_370 pr_27
                  replace hO_21 := hM_369
                  clear hM_369
                  refine RL.nil ?_
                  refine Run.region ?_
                  refine RL.val (x_moveI rfl) ?_
                  refine RL.val (litI (c := ((((takeL (1 + m8) ([] : List LinkC) pv ((o).a)).length : Nat) : Int))) (x_sub rfl rfl (by omega) (by omega)) (by omega)) ?_
                  refine RL.val (x_assignI rfl) ?_
                  refine RL.nil ?_
                  refine Run.inBlock ?_
                  refine Run.seq ?_
                  have hok1 := hS_313.ok
                  have hlen1 := hok1.len
                  refine Run.region ?_
                  refine RL.val (x_moveP rfl) ?_
                  refine RL.st rfl <| St1.call (vals := [.pointer (some ⟨b_1, 0, none⟩)]) en15 rfl (packetsD hS_313 (by first | decide | assumption | omega)) ?_
                  rintro _ w_374 ⟨a_371, c_372, ks_373, rfl, ho_375, hQ_376, hpe_377, hg_378, hg_379, hap_380, K_381⟩
                  have pr_382 : ∀ q_, own a_371 q_ → ¬ one m_11 q_ := apartNew hg_378 hO_21.own_lt
                  have pr_383 : ∀ q_, own a_371 q_ → ¬ own am q_ := apartNew hg_378 ho_22.own_lt
                  have pr_384 : ¬ own a_371 b_37 := notNew hg_378 hb_40.lt
                  have pr_385 : ∀ q_, own a_371 q_ → ¬ F_310 q_ := apartNew hg_378 hS_313.own_lt
                  have pr_386 : ∀ q_, own a_371 q_ → ¬ ownS s_311 q_ := apartNew hg_378 hO_314.own_lt
                  have pr_387 : ¬ own a_371 b_329 := notNew hg_378 hb_332.lt
                  have pg_388 : ∀ q_, own a_371 q_ → w.heap.size ≤ q_ := fun q_ h => Nat.le_trans K0.size (hg_378 q_ h)
                  have pr_389 : ∀ q_, mgsS ks_373 q_ → ¬ one m_11 q_ := apartNew hg_379 hO_21.own_lt
                  have pr_390 : ∀ q_, mgsS ks_373 q_ → ¬ own am q_ := apartNew hg_379 ho_22.own_lt
                  have pr_391 : ¬ mgsS ks_373 b_37 := notNew hg_379 hb_40.lt
                  have pr_392 : ∀ q_, mgsS ks_373 q_ → ¬ F_310 q_ := apartNew hg_379 hS_313.own_lt
                  have pr_393 : ∀ q_, mgsS ks_373 q_ → ¬ ownS s_311 q_ := apartNew hg_379 hO_314.own_lt
                  have pr_394 : ¬ mgsS ks_373 b_329 := notNew hg_379 hb_332.lt
                  have pg_395 : ∀ q_, mgsS ks_373 q_ → w.heap.size ≤ q_ := fun q_ h => Nat.le_trans K0.size (hg_379 q_ h)
                  clear hg_378 hg_379
                  have hkl_ks_373 : (ks_373.map Pk.k).length = (takeL (1 + m8) ([] : List LinkC) pv ((o).a)).length := by have := congrArg List.length hpe_377; simpa using this
                  replace hO_21 := hO_21.ext K_381
                  replace ho_22 := ho_22.ext K_381
                  replace hb_40 := hb_40.ext K_381
                  replace hS_313 := hS_313.ext K_381
                  replace hO_314 := hO_314.ext K_381
                  replace hb_332 := hb_332.ext K_381
                  replace K0 := K0.ext K_381
                  refine RL.val (x_lenSl Try.underlying53 rfl) ?_
                  refine RL.val (x_moveI rfl) ?_
                  refine RL.val (x_neI rfl rfl) ?_
                  refine RL.val (x_moveB rfl) ?_
                  refine RL.gval (wantedF rfl rfl rfl rfl) (fun hg => (x_moveI rfl)) ?_
                  refine RL.gval (wantedF rfl rfl rfl rfl) (fun hg => (x_gtI (gvr hg) rfl)) ?_
                  refine RL.val (x_or rfl rfl rfl) ?_
                  refine RL.nil ?_
                  refine Run.cond rfl (fun hc124 => ?_) (fun hc124 => ?_)
                  · try simp only [br] at hc124
                    exact absurd hc124 (by omega)
                  · try simp only [br] at hc124
                    refine Run.skip ?_
                    refine Run.inBlock ?_
                    refine Run.region ?_
                    refine RL.val (litI (c := ((i + 1 : Nat) : Int)) (x_add rfl rfl (by omega) (by omega)) rfl) ?_
                    refine RL.val (x_moveI rfl) ?_
                    refine RL.nil ?_
                    have hP2 := made_del hP hT (hok0.le _ hin).2
                    rw [← htl] at hP2
                    refine ih1 (i + 1) _ _ ?_ (by omega)
                    refine ⟨F_310, takeL (1 + m8) ([] : List LinkC) pv ((o).a), id, (tk ++ [(o).a]), S, _, _, ⟨rfl, rfl, rfl, rfl, rfl, rfl, rfl, trivial⟩, K0, hS_313, hO_21, ho_22, pr_324, pr_325, pg_327, pr_26, pr_27, pr_28, ?_, ?_, ?_, ?_, ?_, ?_, ?_⟩
                    · omega
                    · omega
                    · omega
                    · omega
                    · exact hS
                    · exact hP2.1
                    · exact hP2.2
            · try simp only [br] at hc80
              refine Run.seq ?_
              refine Run.region ?_
              refine RL.val (x_eqI rfl rfl) ?_
              refine RL.val (x_assignB rfl) ?_
              refine RL.nil ?_
              refine Run.cond rfl (fun hc107 => ?_) (fun hc107 => ?_)
              · try simp only [br] at hc107
                refine Run.seq ?_
                have hok0 := hO_20.ok
                have hlen0 := hok0.len
                refine Run.region ?_
                refine RL.val (x_moveP rfl) ?_
                refine RL.val (x_fld (o' := 2) Try.underlying32 rfl ty3 rfl rfl rfl) ?_
                refine RL.val (x_ld (v := .int .i64 ((o).a)) ty3 rfl rfl (hb_40.cl.field (i := 2) rfl)) ?_
                refine RL.st rfl <| St1.call (vals := [.pointer (some ⟨b_1, 0, none⟩), .int .i64 ((o).a)]) en13 rfl (loseD hO_20 ((o).a)) ?_
                rintro _ w_397 ⟨F_396, rfl, hS_398, hm_399, K_400⟩
                have pr_401 : ∀ q_, F_396 q_ → ¬ one m_11 q_ := hm_399.apart pr_23 hO_21.own_lt
                have pr_402 : ∀ q_, F_396 q_ → ¬ own am q_ := hm_399.apart pr_24 ho_22.own_lt
                have pr_403 : ¬ F_396 b_37 := hm_399.not pr_43 hb_40.lt
                have pg_404 : ∀ q_, F_396 q_ → w.heap.size ≤ q_ := hm_399.ge pr_25 K0.size
                replace hO_21 := hO_21.keepO K_400 (fun q_ h1 h2 => pr_23 q_ h2 h1)
                replace ho_22 := ho_22.keepO K_400 (fun q_ h1 h2 => pr_24 q_ h2 h1)
                replace hb_40 := hb_40.keep K_400 pr_43
                replace K0 := K0.new K_400 pr_25
                clear hm_399
                refine RL.val (x_eqI rfl rfl) ?_
                refine RL.nil ?_
                refine Run.cond rfl (fun hc113 => ?_) (fun hc113 => ?_)
                · try simp only [br] at hc113
                  have he := (lose_len hok0.rise).1 hc113
                  refine Run.region ?_
                  refine RL.val (x_moveI rfl) ?_
                  refine RL.val (litI (c := ((((delP pv ((o).a)).length : Nat) : Int))) (x_sub rfl rfl (by omega) (by omega)) (by omega)) ?_
                  refine RL.val (x_assignI rfl) ?_
                  refine RL.nil ?_
                  refine Run.inBlock ?_
                  refine Run.seq ?_
                  have hok1 := hS_398.ok
                  have hlen1 := hok1.len
                  refine Run.region ?_
                  refine RL.val (x_moveP rfl) ?_
                  refine RL.st rfl <| St1.call (vals := [.pointer (some ⟨b_1, 0, none⟩)]) en15 rfl (packetsD hS_398 (by first | decide | assumption | omega)) ?_
                  rintro _ w_408 ⟨a_405, c_406, ks_407, rfl, ho_409, hQ_410, hpe_411, hg_412, hg_413, hap_414, K_415⟩
                  have pr_416 : ∀ q_, own a_405 q_ → ¬ one m_11 q_ := apartNew hg_412 hO_21.own_lt
                  have pr_417 : ∀ q_, own a_405 q_ → ¬ own am q_ := apartNew hg_412 ho_22.own_lt
                  have pr_418 : ¬ own a_405 b_37 := notNew hg_412 hb_40.lt
                  have pr_419 : ∀ q_, own a_405 q_ → ¬ F_396 q_ := apartNew hg_412 hS_398.own_lt
                  have pg_420 : ∀ q_, own a_405 q_ → w.heap.size ≤ q_ := fun q_ h => Nat.le_trans K0.size (hg_412 q_ h)
                  have pr_421 : ∀ q_, mgsS ks_407 q_ → ¬ one m_11 q_ := apartNew hg_413 hO_21.own_lt
                  have pr_422 : ∀ q_, mgsS ks_407 q_ → ¬ own am q_ := apartNew hg_413 ho_22.own_lt
                  have pr_423 : ¬ mgsS ks_407 b_37 := notNew hg_413 hb_40.lt
                  have pr_424 : ∀ q_, mgsS ks_407 q_ → ¬ F_396 q_ := apartNew hg_413 hS_398.own_lt
                  have pg_425 : ∀ q_, mgsS ks_407 q_ → w.heap.size ≤ q_ := fun q_ h => Nat.le_trans K0.size (hg_413 q_ h)
                  clear hg_412 hg_413
                  have hkl_ks_407 : (ks_407.map Pk.k).length = (delP pv ((o).a)).length := by have := congrArg List.length hpe_411; simpa using this
                  replace hO_21 := hO_21.ext K_415
                  replace ho_22 := ho_22.ext K_415
                  replace hb_40 := hb_40.ext K_415
                  replace hS_398 := hS_398.ext K_415
                  replace K0 := K0.ext K_415
                  refine RL.val (x_lenSl Try.underlying53 rfl) ?_
                  refine RL.val (x_moveI rfl) ?_
                  refine RL.val (x_neI rfl rfl) ?_
                  refine RL.val (x_moveB rfl) ?_
                  refine RL.gval (wantedF rfl rfl rfl rfl) (fun hg => (x_moveI rfl)) ?_
                  refine RL.gval (wantedF rfl rfl rfl rfl) (fun hg => (x_gtI (gvr hg) rfl)) ?_
                  refine RL.val (x_or rfl rfl rfl) ?_
                  refine RL.nil ?_
                  refine Run.cond rfl (fun hc124 => ?_) (fun hc124 => ?_)
                  · try simp only [br] at hc124
                    exact absurd hc124 (by omega)
                  · try simp only [br] at hc124
                    refine Run.skip ?_
                    refine Run.inBlock ?_
                    refine Run.region ?_
                    refine RL.val (litI (c := ((i + 1 : Nat) : Int)) (x_add rfl rfl (by omega) (by omega)) rfl) ?_
                    refine RL.val (x_moveI rfl) ?_
                    refine RL.nil ?_
                    have hP2 := made_lose (a := o.a) hP hT
                    refine ih1 (i + 1) _ _ ?_ (by omega)
                    refine ⟨F_396, delP pv ((o).a), id, tk, S, _, _, ⟨rfl, rfl, rfl, rfl, rfl, rfl, rfl, trivial⟩, K0, hS_398, hO_21, ho_22, pr_401, pr_402, pg_404, pr_26, pr_27, pr_28, ?_, ?_, ?_, ?_, ?_, ?_, ?_⟩
                    · omega
                    · omega
                    · omega
                    · omega
                    · exact hS
                    · exact hP2.1
                    · exact hP2.2
                · try simp only [br] at hc113
                  have he := (lose_len hok0.rise).2 hc113
                  refine Run.skip ?_
                  refine Run.inBlock ?_
                  refine Run.seq ?_
                  have hok1 := hS_398.ok
                  have hlen1 := hok1.len
                  refine Run.region ?_
                  refine RL.val (x_moveP rfl) ?_
                  refine RL.st rfl <| St1.call (vals := [.pointer (some ⟨b_1, 0, none⟩)]) en15 rfl (packetsD hS_398 (by first | decide | assumption | omega)) ?_
                  rintro _ w_429 ⟨a_426, c_427, ks_428, rfl, ho_430, hQ_431, hpe_432, hg_433, hg_434, hap_435, K_436⟩
                  have pr_437 : ∀ q_, own a_426 q_ → ¬ one m_11 q_ := apartNew hg_433 hO_21.own_lt
                  have pr_438 : ∀ q_, own a_426 q_ → ¬ own am q_ := apartNew hg_433 ho_22.own_lt
                  have pr_439 : ¬ own a_426 b_37 := notNew hg_433 hb_40.lt
                  have pr_440 : ∀ q_, own a_426 q_ → ¬ F_396 q_ := apartNew hg_433 hS_398.own_lt
                  have pg_441 : ∀ q_, own a_426 q_ → w.heap.size ≤ q_ := fun q_ h => Nat.le_trans K0.size (hg_433 q_ h)
                  have pr_442 : ∀ q_, mgsS ks_428 q_ → ¬ one m_11 q_ := apartNew hg_434 hO_21.own_lt
                  have pr_443 : ∀ q_, mgsS ks_428 q_ → ¬ own am q_ := apartNew hg_434 ho_22.own_lt
                  have pr_444 : ¬ mgsS ks_428 b_37 := notNew hg_434 hb_40.lt
                  have pr_445 : ∀ q_, mgsS ks_428 q_ → ¬ F_396 q_ := apartNew hg_434 hS_398.own_lt
                  have pg_446 : ∀ q_, mgsS ks_428 q_ → w.heap.size ≤ q_ := fun q_ h => Nat.le_trans K0.size (hg_434 q_ h)
                  clear hg_433 hg_434
                  have hkl_ks_428 : (ks_428.map Pk.k).length = (delP pv ((o).a)).length := by have := congrArg List.length hpe_432; simpa using this
                  replace hO_21 := hO_21.ext K_436
                  replace ho_22 := ho_22.ext K_436
                  replace hb_40 := hb_40.ext K_436
                  replace hS_398 := hS_398.ext K_436
                  replace K0 := K0.ext K_436
                  refine RL.val (x_lenSl Try.underlying53 rfl) ?_
                  refine RL.val (x_moveI rfl) ?_
                  refine RL.val (x_neI rfl rfl) ?_
                  refine RL.val (x_moveB rfl) ?_
                  refine RL.gval (wantedF rfl rfl rfl rfl) (fun hg => (x_moveI rfl)) ?_
                  refine RL.gval (wantedF rfl rfl rfl rfl) (fun hg => (x_gtI (gvr hg) rfl)) ?_
                  refine RL.val (x_or rfl rfl rfl) ?_
                  refine RL.nil ?_
                  refine Run.cond rfl (fun hc124 => ?_) (fun hc124 => ?_)
                  · try simp only [br] at hc124
                    exact absurd hc124 (by omega)
                  · try simp only [br] at hc124
                    refine Run.skip ?_
                    refine Run.inBlock ?_
                    refine Run.region ?_
                    refine RL.val (litI (c := ((i + 1 : Nat) : Int)) (x_add rfl rfl (by omega) (by omega)) rfl) ?_
                    refine RL.val (x_moveI rfl) ?_
                    refine RL.nil ?_
                    have hP2 := made_lose (a := o.a) hP hT
                    refine ih1 (i + 1) _ _ ?_ (by omega)
                    rw [← he]
                    refine ⟨F_396, delP pv ((o).a), id, tk, S, _, _, ⟨rfl, rfl, rfl, rfl, rfl, rfl, rfl, trivial⟩, K0, hS_398, hO_21, ho_22, pr_401, pr_402, pg_404, pr_26, pr_27, pr_28, ?_, ?_, ?_, ?_, ?_, ?_, ?_⟩
                    · omega
                    · omega
                    · omega
                    · omega
                    · exact hS
                    · exact hP2.1
                    · exact hP2.2
              · try simp only [br] at hc107
                refine Run.seq ?_
                have hok0 := hO_20.ok
                have hlen0 := hok0.len
                refine Run.region ?_
                refine RL.val (x_moveP rfl) ?_
                refine RL.val (x_fld (o' := 2) Try.underlying32 rfl ty3 rfl rfl rfl) ?_
                refine RL.val (x_ld (v := .int .i64 ((o).a)) ty3 rfl rfl (hb_40.cl.field (i := 2) rfl)) ?_
                refine RL.st rfl <| St1.call (vals := [.pointer (some ⟨b_1, 0, none⟩), .int .i64 ((o).a)]) en14 rfl (twiceD hO_20 ((o).a) (by first | decide | assumption | omega)) ?_
                rintro _ w_448 ⟨F_447, rfl, hS_449, hm_450, K_451⟩
                have pr_452 : ∀ q_, F_447 q_ → ¬ one m_11 q_ := hm_450.apart pr_23 hO_21.own_lt
                have pr_453 : ∀ q_, F_447 q_ → ¬ own am q_ := hm_450.apart pr_24 ho_22.own_lt
                have pr_454 : ¬ F_447 b_37 := hm_450.not pr_43 hb_40.lt
                have pg_455 : ∀ q_, F_447 q_ → w.heap.size ≤ q_ := hm_450.ge pr_25 K0.size
                replace hO_21 := hO_21.keepO K_451 (fun q_ h1 h2 => pr_23 q_ h2 h1)
                replace ho_22 := ho_22.keepO K_451 (fun q_ h1 h2 => pr_24 q_ h2 h1)
                replace hb_40 := hb_40.keep K_451 pr_43
                replace K0 := K0.new K_451 pr_25
                clear hm_450
                refine RL.val (x_eqI rfl rfl) ?_
                refine RL.nil ?_
                refine Run.cond rfl (fun hc53 => ?_) (fun hc53 => ?_)
                · try simp only [br] at hc53
                  have hn := twiceN_le id pv o.a
                  have he := ((twice_len (id := id)).1 hc53).1
                  refine Run.region ?_
                  refine RL.val (x_moveI rfl) ?_
                  refine RL.val (litI (c := ((((twiceL id pv ((o).a)).length : Nat) : Int))) (litI (c := ((pv.length + 1 : Nat) : Int)) (x_add rfl rfl (by omega) (by omega)) rfl) (by omega)) ?_
                  refine RL.val (x_assignI rfl) ?_
                  refine RL.nil ?_
                  refine Run.inBlock ?_
                  refine Run.seq ?_
                  have hok1 := hS_449.ok
                  have hlen1 := hok1.len
                  refine Run.region ?_
                  refine RL.val (x_moveP rfl) ?_
                  refine RL.st rfl <| St1.call (vals := [.pointer (some ⟨b_1, 0, none⟩)]) en15 rfl (packetsD hS_449 (by first | decide | assumption | omega)) ?_
                  rintro _ w_459 ⟨a_456, c_457, ks_458, rfl, ho_460, hQ_461, hpe_462, hg_463, hg_464, hap_465, K_466⟩
                  have pr_467 : ∀ q_, own a_456 q_ → ¬ one m_11 q_ := apartNew hg_463 hO_21.own_lt
                  have pr_468 : ∀ q_, own a_456 q_ → ¬ own am q_ := apartNew hg_463 ho_22.own_lt
                  have pr_469 : ¬ own a_456 b_37 := notNew hg_463 hb_40.lt
                  have pr_470 : ∀ q_, own a_456 q_ → ¬ F_447 q_ := apartNew hg_463 hS_449.own_lt
                  have pg_471 : ∀ q_, own a_456 q_ → w.heap.size ≤ q_ := fun q_ h => Nat.le_trans K0.size (hg_463 q_ h)
                  have pr_472 : ∀ q_, mgsS ks_458 q_ → ¬ one m_11 q_ := apartNew hg_464 hO_21.own_lt
                  have pr_473 : ∀ q_, mgsS ks_458 q_ → ¬ own am q_ := apartNew hg_464 ho_22.own_lt
                  have pr_474 : ¬ mgsS ks_458 b_37 := notNew hg_464 hb_40.lt
                  have pr_475 : ∀ q_, mgsS ks_458 q_ → ¬ F_447 q_ := apartNew hg_464 hS_449.own_lt
                  have pg_476 : ∀ q_, mgsS ks_458 q_ → w.heap.size ≤ q_ := fun q_ h => Nat.le_trans K0.size (hg_464 q_ h)
                  clear hg_463 hg_464
                  have hkl_ks_458 : (ks_458.map Pk.k).length = (twiceL id pv ((o).a)).length := by have := congrArg List.length hpe_462; simpa using this
                  replace hO_21 := hO_21.ext K_466
                  replace ho_22 := ho_22.ext K_466
                  replace hb_40 := hb_40.ext K_466
                  replace hS_449 := hS_449.ext K_466
                  replace K0 := K0.ext K_466
                  refine RL.val (x_lenSl Try.underlying53 rfl) ?_
                  refine RL.val (x_moveI rfl) ?_
                  refine RL.val (x_neI rfl rfl) ?_
                  refine RL.val (x_moveB rfl) ?_
                  refine RL.gval (wantedF rfl rfl rfl rfl) (fun hg => (x_moveI rfl)) ?_
                  refine RL.gval (wantedF rfl rfl rfl rfl) (fun hg => (x_gtI (gvr hg) rfl)) ?_
                  refine RL.val (x_or rfl rfl rfl) ?_
                  refine RL.nil ?_
                  refine Run.cond rfl (fun hc124 => ?_) (fun hc124 => ?_)
                  · try simp only [br] at hc124
                    exact absurd hc124 (by omega)
                  · try simp only [br] at hc124
                    refine Run.skip ?_
                    refine Run.inBlock ?_
                    refine Run.region ?_
                    refine RL.val (litI (c := ((i + 1 : Nat) : Int)) (x_add rfl rfl (by omega) (by omega)) rfl) ?_
                    refine RL.val (x_moveI rfl) ?_
                    refine RL.nil ?_
                    have hP2 := made_twice (a := o.a) hP hT
                    refine ih1 (i + 1) _ _ ?_ (by omega)
                    refine ⟨F_447, twiceL id pv ((o).a), twiceN id pv ((o).a), tk, S, _, _, ⟨rfl, rfl, rfl, rfl, rfl, rfl, rfl, trivial⟩, K0, hS_449, hO_21, ho_22, pr_452, pr_453, pg_455, pr_26, pr_27, pr_28, ?_, ?_, ?_, ?_, ?_, ?_, ?_⟩
                    · omega
                    · omega
                    · omega
                    · omega
                    · exact hS
                    · exact hP2.1
                    · exact hP2.2
                · try simp only [br] at hc53
                  have hn := twiceN_le id pv o.a
                  have he := ((twice_len (id := id)).2 hc53).1
                  refine Run.skip ?_
                  refine Run.inBlock ?_
                  refine Run.seq ?_
                  have hok1 := hS_449.ok
                  have hlen1 := hok1.len
                  refine Run.region ?_
                  refine RL.val (x_moveP rfl) ?_
                  refine RL.st rfl <| St1.call (vals := [.pointer (some ⟨b_1, 0, none⟩)]) en15 rfl (packetsD hS_449 (by first | decide | assumption | omega)) ?_
                  rintro _ w_480 ⟨a_477, c_478, ks_479, rfl, ho_481, hQ_482, hpe_483, hg_484, hg_485, hap_486, K_487⟩
                  have pr_488 : ∀ q_, own a_477 q_ → ¬ one m_11 q_ := apartNew hg_484 hO_21.own_lt
                  have pr_489 : ∀ q_, own a_477 q_ → ¬ own am q_ := apartNew hg_484 ho_22.own_lt
                  have pr_490 : ¬ own a_477 b_37 := notNew hg_484 hb_40.lt
                  have pr_491 : ∀ q_, own a_477 q_ → ¬ F_447 q_ := apartNew hg_484 hS_449.own_lt
                  have pg_492 : ∀ q_, own a_477 q_ → w.heap.size ≤ q_ := fun q_ h => Nat.le_trans K0.size (hg_484 q_ h)
                  have pr_493 : ∀ q_, mgsS ks_479 q_ → ¬ one m_11 q_ := apartNew hg_485 hO_21.own_lt
                  have pr_494 : ∀ q_, mgsS ks_479 q_ → ¬ own am q_ := apartNew hg_485 ho_22.own_lt
                  have pr_495 : ¬ mgsS ks_479 b_37 := notNew hg_485 hb_40.lt
                  have pr_496 : ∀ q_, mgsS ks_479 q_ → ¬ F_447 q_ := apartNew hg_485 hS_449.own_lt
                  have pg_497 : ∀ q_, mgsS ks_479 q_ → w.heap.size ≤ q_ := fun q_ h => Nat.le_trans K0.size (hg_485 q_ h)
                  clear hg_484 hg_485
                  have hkl_ks_479 : (ks_479.map Pk.k).length = (twiceL id pv ((o).a)).length := by have := congrArg List.length hpe_483; simpa using this
                  replace hO_21 := hO_21.ext K_487
                  replace ho_22 := ho_22.ext K_487
                  replace hb_40 := hb_40.ext K_487
                  replace hS_449 := hS_449.ext K_487
                  replace K0 := K0.ext K_487
                  refine RL.val (x_lenSl Try.underlying53 rfl) ?_
                  refine RL.val (x_moveI rfl) ?_
                  refine RL.val (x_neI rfl rfl) ?_
                  refine RL.val (x_moveB rfl) ?_
                  refine RL.gval (wantedF rfl rfl rfl rfl) (fun hg => (x_moveI rfl)) ?_
                  refine RL.gval (wantedF rfl rfl rfl rfl) (fun hg => (x_gtI (gvr hg) rfl)) ?_
                  refine RL.val (x_or rfl rfl rfl) ?_
                  refine RL.nil ?_
                  refine Run.cond rfl (fun hc124 => ?_) (fun hc124 => ?_)
                  · try simp only [br] at hc124
                    exact absurd hc124 (by omega)
                  · try simp only [br] at hc124
                    refine Run.skip ?_
                    refine Run.inBlock ?_
                    refine Run.region ?_
                    refine RL.val (litI (c := ((i + 1 : Nat) : Int)) (x_add rfl rfl (by omega) (by omega)) rfl) ?_
                    refine RL.val (x_moveI rfl) ?_
                    refine RL.nil ?_
                    have hP2 := made_twice (a := o.a) hP hT
                    refine ih1 (i + 1) _ _ ?_ (by omega)
                    rw [← he]
                    refine ⟨F_447, twiceL id pv ((o).a), twiceN id pv ((o).a), tk, S, _, _, ⟨rfl, rfl, rfl, rfl, rfl, rfl, rfl, trivial⟩, K0, hS_449, hO_21, ho_22, pr_452, pr_453, pg_455, pr_26, pr_27, pr_28, ?_, ?_, ?_, ?_, ?_, ?_, ?_⟩
                    · omega
                    · omega
                    · omega
                    · omega
                    · exact hS
                    · exact hP2.1
                    · exact hP2.2
      · try simp only [br] at hc56
        refine Run.region ?_
        refine RL.val (x_eqI rfl rfl) ?_
        refine RL.val (x_assignB rfl) ?_
        refine RL.nil ?_
        refine Run.cond rfl (fun hc56 => ?_) (fun hc56 => ?_)
        · try simp only [br] at hc56
          refine Run.seq ?_
          have hok0 := hO_20.ok
          have hlen0 := hok0.len
          refine Run.region ?_
          refine RL.val (x_moveP rfl) ?_
          refine RL.val (x_fld (o' := 1) Try.underlying32 rfl ty29 rfl rfl rfl) ?_
          refine RL.val (litSl (m' := (ms.map Mg.c).length) (x_ld (v := .slice ((o).msgs.a) ((o).msgs.len) ((o).msgs.cap)) ty29 rfl rfl (hb_40.cl.field (i := 1) rfl)) hmn) ?_
          refine RL.st rfl <| St1.call (vals := [.slice ((o).msgs.a) ((ms.map Mg.c).length) ((o).msgs.cap)]) en10 rfl (msgs_ _ ms _ _ (hml0.ext K0) (fun m hm => ⟨(hms m hm).1.ext K0, (hms m hm).2⟩) hml) ?_
          rintro _ w_501 ⟨a_498, c_499, ks_500, rfl, ho_502, hQ_503, hkv_504, hg_505, hg_506, hap_507, K_508⟩
          have pr_509 : ∀ q_, own a_498 q_ → ¬ F1 q_ := apartNew hg_505 hO_20.own_lt
          have pr_510 : ∀ q_, own a_498 q_ → ¬ one m_11 q_ := apartNew hg_505 hO_21.own_lt
          have pr_511 : ∀ q_, own a_498 q_ → ¬ own am q_ := apartNew hg_505 ho_22.own_lt
          have pr_512 : ¬ own a_498 b_37 := notNew hg_505 hb_40.lt
          have pg_513 : ∀ q_, own a_498 q_ → w.heap.size ≤ q_ := fun q_ h => Nat.le_trans K0.size (hg_505 q_ h)
          have pr_514 : ∀ q_, mgsS ks_500 q_ → ¬ F1 q_ := apartNew hg_506 hO_20.own_lt
          have pr_515 : ∀ q_, mgsS ks_500 q_ → ¬ one m_11 q_ := apartNew hg_506 hO_21.own_lt
          have pr_516 : ∀ q_, mgsS ks_500 q_ → ¬ own am q_ := apartNew hg_506 ho_22.own_lt
          have pr_517 : ¬ mgsS ks_500 b_37 := notNew hg_506 hb_40.lt
          have pg_518 : ∀ q_, mgsS ks_500 q_ → w.heap.size ≤ q_ := fun q_ h => Nat.le_trans K0.size (hg_506 q_ h)
          clear hg_505 hg_506
          replace hO_20 := hO_20.ext K_508
          replace hO_21 := hO_21.ext K_508
          replace ho_22 := ho_22.ext K_508
          replace hb_40 := hb_40.ext K_508
          replace K0 := K0.ext K_508
          have hkl_ks_500 : ks_500.length = ms.length := by have := congrArg List.length hkv_504; simpa using this
          refine RL.st rfl <| St1.call (vals := [.pointer (some ⟨b_1, 0, none⟩), .slice (a_498) ((ks_500.map Pk.c).length) (c_499)]) en9 rfl (sendK hO_20 _ ks_500 _ ho_502.sl hQ_503 (fun x_ hx_ => pr_509 _ ⟨x_, hx_, rfl⟩) pr_514 (by omega) (by first | decide | assumption | omega)) ?_
          rintro _ w_520 ⟨F_519, rfl, hS_521, hm_522, K_523⟩
          have pr_524 : ∀ q_, F_519 q_ → ¬ one m_11 q_ := hm_522.apart pr_23 hO_21.own_lt
          have pr_525 : ∀ q_, F_519 q_ → ¬ own am q_ := hm_522.apart pr_24 ho_22.own_lt
          have pr_526 : ¬ F_519 b_37 := hm_522.not pr_43 hb_40.lt
          have pr_527 : ∀ q_, F_519 q_ → ¬ own a_498 q_ := hm_522.apart (fun q_ h1 h2 => pr_509 q_ h2 h1) ho_502.own_lt
          have pr_528 : ∀ q_, F_519 q_ → ¬ mgsS ks_500 q_ := hm_522.apart (fun q_ h1 h2 => pr_514 q_ h2 h1) hQ_503.own_lt
          have pg_529 : ∀ q_, F_519 q_ → w.heap.size ≤ q_ := hm_522.ge pr_25 K0.size
          replace hO_21 := hO_21.keepO K_523 (fun q_ h1 h2 => pr_23 q_ h2 h1)
          replace ho_22 := ho_22.keepO K_523 (fun q_ h1 h2 => pr_24 q_ h2 h1)
          replace hb_40 := hb_40.keep K_523 pr_43
          replace ho_502 := ho_502.keepO K_523 pr_509
          replace hQ_503 := hQ_503.keepO K_523 pr_514
          replace K0 := K0.new K_523 pr_25
          clear hm_522
          refine RL.val (x_assignI rfl) ?_
          refine RL.nil ?_
          obtain ⟨hb1, hb2, hb3, hb4⟩ := sn_b (nodes := (1 + m8)) (id := id) (vs := ks_500.map Pk.v) hok0.len ks_500.length (by rw [List.length_map]; exact Nat.le_refl _)
          refine Run.seq ?_
          refine Run.seq ?_
          refine Run.region ?_
          refine RL.val (x_moveI rfl) ?_
          refine RL.val (x_ltI rfl rfl) ?_
          refine RL.val (x_moveB rfl) ?_
          refine RL.gval (wantedF rfl rfl rfl rfl) (fun hg => (x_moveI rfl)) ?_
          refine RL.gval (wantedF rfl rfl rfl rfl) (fun hg => (x_fld (o' := 1) Try.underlying32 rfl ty29 rfl rfl rfl)) ?_
          refine RL.gval (wantedF rfl rfl rfl rfl) (fun hg => (litSl (m' := (ms.map Mg.c).length) (x_ld (v := .slice ((o).msgs.a) ((o).msgs.len) ((o).msgs.cap)) ty29 (gvr hg) rfl (hb_40.cl.field (i := 1) rfl)) hmn)) ?_
          refine RL.gval (wantedF rfl rfl rfl rfl) (fun hg => (x_lenSl Try.underlying29 (gvr hg))) ?_
          refine RL.gval (wantedF rfl rfl rfl rfl) (fun hg => (x_gtI (gvr hg) (gvr hg))) ?_
          refine RL.val (x_or rfl rfl rfl) ?_
          refine RL.nil ?_
          refine Run.cond rfl (fun hc72 => ?_) (fun hc72 => ?_)
          · try simp only [br] at hc72
            exact absurd hc72 (by omega)
          · try simp only [br] at hc72
            refine Run.skip ?_
            refine Run.seq ?_
            refine Run.region ?_
            refine RL.val (x_moveI rfl) ?_
            refine RL.val (x_moveI rfl) ?_
            refine RL.val (litI (c := (((((snI (1 + m8) id pv (ks_500.map Pk.v) ks_500.length).pv).length : Nat) : Int))) (litI (c := ((pv.length + ((snI (1 + m8) id pv (ks_500.map Pk.v) ks_500.length).n) : Nat) : Int)) (x_add rfl rfl (by omega) (by omega)) rfl) (by omega)) ?_
            refine RL.val (x_assignI rfl) ?_
            refine RL.nil ?_
            refine Run.region ?_
            refine RL.val (x_moveSl rfl) ?_
            refine RL.val (x_fld (o' := 1) Try.underlying32 rfl ty29 rfl rfl rfl) ?_
            refine RL.val (litSl (m' := (ms.map Mg.c).length) (x_ld (v := .slice ((o).msgs.a) ((o).msgs.len) ((o).msgs.cap)) ty29 rfl rfl (hb_40.cl.field (i := 1) rfl)) hmn) ?_
            refine RL.st rfl <| St1.append (xs := S.map Mg.c) (ys := ms.map Mg.c) Try.underlying29 ty48 rfl rfl rfl ho_22 (hml0.ext K0) (by rw [List.length_map, List.length_map]; omega) (by decide) ?_
            intro a_530 c_531 w_532 ho_533 K_534 hm_535 hrm_536
            have pr_537 : ∀ q_, own a_530 q_ → ¬ one m_11 q_ := hm_535.apart (fun q_ h1 h2 => pr_26 q_ h2 h1) hO_21.own_lt
            have pr_538 : ¬ own a_530 b_37 := hm_535.not pr_45 hb_40.lt
            have pr_539 : ∀ q_, own a_530 q_ → ¬ own a_498 q_ := hm_535.apart (fun q_ h1 h2 => pr_511 q_ h2 h1) ho_502.own_lt
            have pr_540 : ∀ q_, own a_530 q_ → ¬ mgsS ks_500 q_ := hm_535.apart (fun q_ h1 h2 => pr_516 q_ h2 h1) hQ_503.own_lt
            have pr_541 : ∀ q_, own a_530 q_ → ¬ F_519 q_ := hm_535.apart (fun q_ h1 h2 => pr_525 q_ h2 h1) hS_521.own_lt
            have pg_542 : ∀ q_, own a_530 q_ → w.heap.size ≤ q_ := hm_535.ge pr_28 K0.size
            replace hO_21 := hO_21.keepO K_534 pr_26
            replace hb_40 := hb_40.keep K_534 pr_45
            replace ho_502 := ho_502.keepO K_534 pr_511
            replace hQ_503 := hQ_503.keepO K_534 pr_516
            replace hS_521 := hS_521.keepO K_534 pr_525
            replace K0 := K0.new K_534 pr_28
            clear hm_535
            clear hrm_536
            refine RL.val (x_assignSl rfl) ?_
            refine RL.nil ?_
            refine Run.inBlock ?_
            refine Run.seq ?_
            have hok1 := hS_521.ok
            have hlen1 := hok1.len
            refine Run.region ?_
            refine RL.val (x_moveP rfl) ?_
            refine RL.st rfl <| St1.call (vals := [.pointer (some ⟨b_1, 0, none⟩)]) en15 rfl (packetsD hS_521 (by first | decide | assumption | omega)) ?_
            rintro _ w_546 ⟨a_543, c_544, ks_545, rfl, ho_547, hQ_548, hpe_549, hg_550, hg_551, hap_552, K_553⟩
            have pr_554 : ∀ q_, own a_543 q_ → ¬ one m_11 q_ := apartNew hg_550 hO_21.own_lt
            have pr_555 : ¬ own a_543 b_37 := notNew hg_550 hb_40.lt
            have pr_556 : ∀ q_, own a_543 q_ → ¬ own a_498 q_ := apartNew hg_550 ho_502.own_lt
            have pr_557 : ∀ q_, own a_543 q_ → ¬ mgsS ks_500 q_ := apartNew hg_550 hQ_503.own_lt
            have pr_558 : ∀ q_, own a_543 q_ → ¬ F_519 q_ := apartNew hg_550 hS_521.own_lt
            have pr_559 : ∀ q_, own a_543 q_ → ¬ own a_530 q_ := apartNew hg_550 ho_533.own_lt
            have pg_560 : ∀ q_, own a_543 q_ → w.heap.size ≤ q_ := fun q_ h => Nat.le_trans K0.size (hg_550 q_ h)
            have pr_561 : ∀ q_, mgsS ks_545 q_ → ¬ one m_11 q_ := apartNew hg_551 hO_21.own_lt
            have pr_562 : ¬ mgsS ks_545 b_37 := notNew hg_551 hb_40.lt
            have pr_563 : ∀ q_, mgsS ks_545 q_ → ¬ own a_498 q_ := apartNew hg_551 ho_502.own_lt
            have pr_564 : ∀ q_, mgsS ks_545 q_ → ¬ mgsS ks_500 q_ := apartNew hg_551 hQ_503.own_lt
            have pr_565 : ∀ q_, mgsS ks_545 q_ → ¬ F_519 q_ := apartNew hg_551 hS_521.own_lt
            have pr_566 : ∀ q_, mgsS ks_545 q_ → ¬ own a_530 q_ := apartNew hg_551 ho_533.own_lt
            have pg_567 : ∀ q_, mgsS ks_545 q_ → w.heap.size ≤ q_ := fun q_ h => Nat.le_trans K0.size (hg_551 q_ h)
            clear hg_550 hg_551
            have hkl_ks_545 : (ks_545.map Pk.k).length = ((snI (1 + m8) id pv (ks_500.map Pk.v) ks_500.length).pv).length := by have := congrArg List.length hpe_549; simpa using this
            replace hO_21 := hO_21.ext K_553
            replace hb_40 := hb_40.ext K_553
            replace ho_502 := ho_502.ext K_553
            replace hQ_503 := hQ_503.ext K_553
            replace hS_521 := hS_521.ext K_553
            replace ho_533 := ho_533.ext K_553
            replace K0 := K0.ext K_553
            refine RL.val (x_lenSl Try.underlying53 rfl) ?_
            refine RL.val (x_moveI rfl) ?_
            refine RL.val (x_neI rfl rfl) ?_
            refine RL.val (x_moveB rfl) ?_
            refine RL.gval (wantedF rfl rfl rfl rfl) (fun hg => (x_moveI rfl)) ?_
            refine RL.gval (wantedF rfl rfl rfl rfl) (fun hg => (x_gtI (gvr hg) rfl)) ?_
            refine RL.val (x_or rfl rfl rfl) ?_
            refine RL.nil ?_
            refine Run.cond rfl (fun hc124 => ?_) (fun hc124 => ?_)
            · try simp only [br] at hc124
              exact absurd hc124 (by omega)
            · try simp only [br] at hc124
              refine Run.skip ?_
              refine Run.inBlock ?_
              refine Run.region ?_
              refine RL.val (litI (c := ((i + 1 : Nat) : Int)) (x_add rfl rfl (by omega) (by omega)) rfl) ?_
              refine RL.val (x_moveI rfl) ?_
              refine RL.nil ?_
              rw [← List.map_append] at ho_533
              have hP2 := made_send (nodes := (1 + m8)) hok0.len hP hT hkv_504
              refine ih1 (i + 1) _ _ ?_ (by omega)
              rw [← List.map_append]
              refine ⟨F_519, (snI (1 + m8) id pv (ks_500.map Pk.v) ks_500.length).pv, (snI (1 + m8) id pv (ks_500.map Pk.v) ks_500.length).id, tk, (S ++ ms), _, _, ⟨rfl, rfl, rfl, rfl, rfl, rfl, rfl, trivial⟩, K0, hS_521, hO_21, ho_533, pr_524, (fun q_ h1 h2 => pr_541 q_ h2 h1), pg_529, (fun q_ h1 h2 => pr_537 q_ h2 h1), pr_27, pg_542, ?_, ?_, ?_, ?_, ?_, ?_, ?_⟩
              · omega
              · omega
              · omega
              · simp only [List.length_append]; omega
              · exact fun m hm => (List.mem_append.1 hm).elim (hS m) (hms m)
              · exact hP2.1
              · exact hP2.2
        · try simp only [br] at hc56
          refine Run.seq ?_
          refine Run.seq ?_
          refine Run.region ?_
          refine RL.val (x_eqI rfl rfl) ?_
          refine RL.val (x_assignB rfl) ?_
          refine RL.nil ?_
          refine Run.cond rfl (fun hc80 => ?_) (fun hc80 => ?_)
          · try simp only [br] at hc80
            refine Run.skip ?_
            refine Run.cond rfl (fun hc80 => ?_) (fun hc80 => ?_)
            · try simp only [br] at hc80
              refine Run.seq ?_
              have hok0 := hO_20.ok
              have hlen0 := hok0.len
              refine Run.region ?_
              refine RL.val (x_moveP rfl) ?_
              refine RL.val (x_fld (o' := 2) Try.underlying32 rfl ty3 rfl rfl rfl) ?_
              refine RL.val (x_ld (v := .int .i64 ((o).a)) ty3 rfl rfl (hb_40.cl.field (i := 2) rfl)) ?_
              refine RL.st rfl <| St1.call (vals := [.pointer (some ⟨b_1, 0, none⟩), .int .i64 ((o).a)]) en11 rfl (takeX hO_20 ((o).a)) ?_
              rintro _ w_572 ⟨V_568, hV_569, F_570, s_571, rfl, hS_573, hO_574, hv_575, hin_576, hap_577, hm_578, K_579⟩
              have pr_581 : ∀ q_, ownS s_571 q_ → ¬ one m_11 q_ := fun q_ h_ => pr_23 q_ (hin_576 q_ h_)
              have pr_582 : ∀ q_, ownS s_571 q_ → ¬ own am q_ := fun q_ h_ => pr_24 q_ (hin_576 q_ h_)
              have pr_583 : ¬ ownS s_571 b_37 := fun h_ => pr_43 (hin_576 _ h_)
              have pr_584 : ∀ q_, F_570 q_ → ¬ one m_11 q_ := hm_578.apart pr_23 hO_21.own_lt
              have pr_585 : ∀ q_, F_570 q_ → ¬ own am q_ := hm_578.apart pr_24 ho_22.own_lt
              have pr_586 : ¬ F_570 b_37 := hm_578.not pr_43 hb_40.lt
              have pg_587 : ∀ q_, F_570 q_ → w.heap.size ≤ q_ := hm_578.ge pr_25 K0.size
              replace hO_21 := hO_21.keepO K_579 (fun q_ h1 h2 => pr_23 q_ h2 h1)
              replace ho_22 := ho_22.keepO K_579 (fun q_ h1 h2 => pr_24 q_ h2 h1)
              replace hb_40 := hb_40.keep K_579 pr_43
              replace K0 := K0.new K_579 pr_25
              clear hm_578
              have pg_588 : ∀ q_, ownS s_571 q_ → w.heap.size ≤ q_ := fun q_ h_ => pr_25 q_ (hin_576 q_ h_)
              refine RL.val (x_moveT rfl) ?_
              refine RL.val (x_extract rfl rfl) ?_
              refine RL.val (x_extract rfl rfl) ?_
              refine RL.st rfl <| St1.alloc ty48 ?_
              intro b_589 w_590 hl_593 hb_592 K_591
              replace hb_592 : Blk w_590 b_589 [.int .i64 (0), .int .i64 (0), .int .i64 (0), .int .i64 (0), .string (⟨#[]⟩), .slice (none) (0) (0), .slice (none) (0) (0), .slice (none) (0) (0), .int .i64 (0), .int .i64 (0), .int .i64 (0), .int .i64 (0), .int .i64 (0), .int .i64 (0), .slice (none) (0) (0), .slice (none) (0) (0), .slice (none) (0) (0)] 48 := hb_592
              have ne_594 : b_37 < b_589 := Nat.lt_of_lt_of_le hb_40.lt hl_593
              have pr_595 : ¬ one m_11 b_589 := fun h => absurd (hO_21.own_lt _ h) (by omega)
              have pr_596 : ¬ own am b_589 := fun h => absurd (ho_22.own_lt _ h) (by omega)
              have pr_597 : ¬ F_570 b_589 := fun h => absurd (hS_573.own_lt _ h) (by omega)
              have pr_598 : ¬ ownS s_571 b_589 := fun h => absurd (hO_574.own_lt _ h) (by omega)
              have : w.heap.size ≤ b_589 := Nat.le_trans K0.size hl_593
              clear hl_593
              replace hO_21 := hO_21.ext K_591
              replace ho_22 := ho_22.ext K_591
              replace hb_40 := hb_40.ext K_591
              replace hS_573 := hS_573.ext K_591
              replace hO_574 := hO_574.ext K_591
              replace K0 := K0.ext K_591
              refine RL.st rfl <| St1.store (v := .agg #[.int .i64 (((mkC V_568 s_571)).kind), .int .i64 (((mkC V_568 s_571)).frm), .int .i64 (((mkC V_568 s_571)).to), .int .i64 (((mkC V_568 s_571)).req), .string (((mkC V_568 s_571)).key), .slice (s_571.ea) (V_568.ent.length) (s_571.ec), .slice (s_571.ma) (V_568.mrk.length) (s_571.mc), .slice (s_571.ca) (V_568.cl.length) (s_571.cc), .int .i64 (((mkC V_568 s_571)).owner), .int .i64 (((mkC V_568 s_571)).part), .int .i64 (((mkC V_568 s_571)).n), .int .i64 ((((mkC V_568 s_571)).ring).parts), .int .i64 ((((mkC V_568 s_571)).ring).copies), .int .i64 ((((mkC V_568 s_571)).ring).spots), .slice (s_571.ba) (V_568.mem.length) (s_571.bc), .slice (s_571.pa) (V_568.pe.length) (s_571.pc), .slice (s_571.sa) (V_568.su.length) (s_571.sc)]) ty48 rfl rfl rfl (by simp [Value.cells, Value.oneCell']) hb_592 (by simp) ?_
              intro w_599 hb_592_ K_600
              have hb_592' : Blk w_599 b_589 [.int .i64 (((mkC V_568 s_571)).kind), .int .i64 (((mkC V_568 s_571)).frm), .int .i64 (((mkC V_568 s_571)).to), .int .i64 (((mkC V_568 s_571)).req), .string (((mkC V_568 s_571)).key), .slice (s_571.ea) (V_568.ent.length) (s_571.ec), .slice (s_571.ma) (V_568.mrk.length) (s_571.mc), .slice (s_571.ca) (V_568.cl.length) (s_571.cc), .int .i64 (((mkC V_568 s_571)).owner), .int .i64 (((mkC V_568 s_571)).part), .int .i64 (((mkC V_568 s_571)).n), .int .i64 ((((mkC V_568 s_571)).ring).parts), .int .i64 ((((mkC V_568 s_571)).ring).copies), .int .i64 ((((mkC V_568 s_571)).ring).spots), .slice (s_571.ba) (V_568.mem.length) (s_571.bc), .slice (s_571.pa) (V_568.pe.length) (s_571.pc), .slice (s_571.sa) (V_568.su.length) (s_571.sc)] 48 := hb_592_
              clear hb_592_
              replace hO_21 := hO_21.keepO K_600 (fun q_ hq_ eq_ => pr_595 (by simp only [one] at eq_; rw [← eq_]; exact hq_))
              replace ho_22 := ho_22.keepO K_600 (fun q_ hq_ eq_ => pr_596 (by simp only [one] at eq_; rw [← eq_]; exact hq_))
              replace hb_40 := hb_40.keep K_600 (by simp only [one]; omega)
              replace hS_573 := hS_573.keepO K_600 (fun q_ hq_ eq_ => pr_597 (by simp only [one] at eq_; rw [← eq_]; exact hq_))
              replace hO_574 := hO_574.keepO K_600 (fun q_ hq_ eq_ => pr_598 (by simp only [one] at eq_; rw [← eq_]; exact hq_))
              replace K0 := K0.new K_600 (fun x hx => by simp only [one] at hx; omega)
              replace hb_592 := hb_592'
              clear hb_592'
              refine RL.val (x_assignI rfl) ?_
              refine RL.nil ?_
              refine Run.seq ?_
              refine Run.seq ?_
              refine Run.region ?_
              refine RL.val (x_moveI rfl) ?_
              refine RL.val (x_neI rfl rfl) ?_
              refine RL.nil ?_
              refine Run.cond rfl (fun hc91 => ?_) (fun hc91 => ?_)
              · try simp only [br] at hc91
                have htl := takeNo hc91
                have he : (takeL (1 + m8) ([] : List LinkC) pv ((o).a)).length = pv.length := by rw [htl]
                refine Run.exit rfl ?_
                refine Run.seq ?_
                have hok1 := hS_573.ok
                have hlen1 := hok1.len
                refine Run.region ?_
                refine RL.val (x_moveP rfl) ?_
                refine RL.st rfl <| St1.call (vals := [.pointer (some ⟨b_1, 0, none⟩)]) en15 rfl (packetsD hS_573 (by first | decide | assumption | omega)) ?_
                rintro _ w_604 ⟨a_601, c_602, ks_603, rfl, ho_605, hQ_606, hpe_607, hg_608, hg_609, hap_610, K_611⟩
                have pr_612 : ∀ q_, own a_601 q_ → ¬ one m_11 q_ := apartNew hg_608 hO_21.own_lt
                have pr_613 : ∀ q_, own a_601 q_ → ¬ own am q_ := apartNew hg_608 ho_22.own_lt
                have pr_614 : ¬ own a_601 b_37 := notNew hg_608 hb_40.lt
                have pr_615 : ∀ q_, own a_601 q_ → ¬ F_570 q_ := apartNew hg_608 hS_573.own_lt
                have pr_616 : ∀ q_, own a_601 q_ → ¬ ownS s_571 q_ := apartNew hg_608 hO_574.own_lt
                have pr_617 : ¬ own a_601 b_589 := notNew hg_608 hb_592.lt
                have pg_618 : ∀ q_, own a_601 q_ → w.heap.size ≤ q_ := fun q_ h => Nat.le_trans K0.size (hg_608 q_ h)
                have pr_619 : ∀ q_, mgsS ks_603 q_ → ¬ one m_11 q_ := apartNew hg_609 hO_21.own_lt
                have pr_620 : ∀ q_, mgsS ks_603 q_ → ¬ own am q_ := apartNew hg_609 ho_22.own_lt
                have pr_621 : ¬ mgsS ks_603 b_37 := notNew hg_609 hb_40.lt
                have pr_622 : ∀ q_, mgsS ks_603 q_ → ¬ F_570 q_ := apartNew hg_609 hS_573.own_lt
                have pr_623 : ∀ q_, mgsS ks_603 q_ → ¬ ownS s_571 q_ := apartNew hg_609 hO_574.own_lt
                have pr_624 : ¬ mgsS ks_603 b_589 := notNew hg_609 hb_592.lt
                have pg_625 : ∀ q_, mgsS ks_603 q_ → w.heap.size ≤ q_ := fun q_ h => Nat.le_trans K0.size (hg_609 q_ h)
                clear hg_608 hg_609
                have hkl_ks_603 : (ks_603.map Pk.k).length = (takeL (1 + m8) ([] : List LinkC) pv ((o).a)).length := by have := congrArg List.length hpe_607; simpa using this
                replace hO_21 := hO_21.ext K_611
                replace ho_22 := ho_22.ext K_611
                replace hb_40 := hb_40.ext K_611
                replace hS_573 := hS_573.ext K_611
                replace hO_574 := hO_574.ext K_611
                replace hb_592 := hb_592.ext K_611
                replace K0 := K0.ext K_611
                refine RL.val (x_lenSl Try.underlying53 rfl) ?_
                refine RL.val (x_moveI rfl) ?_
                refine RL.val (x_neI rfl rfl) ?_
                refine RL.val (x_moveB rfl) ?_
                refine RL.gval (wantedF rfl rfl rfl rfl) (fun hg => (x_moveI rfl)) ?_
                refine RL.gval (wantedF rfl rfl rfl rfl) (fun hg => (x_gtI (gvr hg) rfl)) ?_
                refine RL.val (x_or rfl rfl rfl) ?_
                refine RL.nil ?_
                refine Run.cond rfl (fun hc124 => ?_) (fun hc124 => ?_)
                · try simp only [br] at hc124
                  exact absurd hc124 (by omega)
                · try simp only [br] at hc124
                  refine Run.skip ?_
                  refine Run.inBlock ?_
                  refine Run.region ?_
                  refine RL.val (litI (c := ((i + 1 : Nat) : Int)) (x_add rfl rfl (by omega) (by omega)) rfl) ?_
                  refine RL.val (x_moveI rfl) ?_
                  refine RL.nil ?_
                  have hP2 := And.intro hP hT
                  rw [← htl] at hP2
                  refine ih1 (i + 1) _ _ ?_ (by omega)
                  rw [← he]
                  refine ⟨F_570, takeL (1 + m8) ([] : List LinkC) pv ((o).a), id, tk, S, _, _, ⟨rfl, rfl, rfl, rfl, rfl, rfl, rfl, trivial⟩, K0, hS_573, hO_21, ho_22, pr_584, pr_585, pg_587, pr_26, pr_27, pr_28, ?_, ?_, ?_, ?_, ?_, ?_, ?_⟩
                  · omega
                  · omega
                  · omega
                  · omega
                  · exact hS
                  · exact hP2.1
                  · exact hP2.2
              · try simp only [br] at hc91
                obtain ⟨hin, htl⟩ := take0 hc91
                rw [hV_569] at hin
                have hdl : (delP pv o.a).length + 1 = pv.length := del_len hok0.rise hin
                have he : (takeL (1 + m8) ([] : List LinkC) pv ((o).a)).length + 1 = pv.length := by rw [htl]; exact hdl
                have hnt : o.a ∉ tk := fun h => (hT _ h).2 _ hin rfl
                have hany : (S.map Mg.v).any (fun y => decide (y = V_568)) = true := List.any_eq_true.2 ⟨V_568, hP _ hin, decide_eq_true rfl⟩
                refine Run.skip ?_
                refine Run.seq ?_
                refine Run.seq ?_
                refine Run.region ?_
                refine RL.val (x_moveM rfl) ?_
                refine RL.val (x_fld (o' := 2) Try.underlying32 rfl ty3 rfl rfl rfl) ?_
                refine RL.val (x_ld (v := .int .i64 ((o).a)) ty3 rfl rfl (hb_40.cl.field (i := 2) rfl)) ?_
                refine RL.val (litF (litV (v' := .bool (decide ((o).a ∈ tk))) (x_lookup Try.underlying30 Try.underlying3 rfl ty4 rfl rfl hO_21) (akT_get _ _)) (decide_eq_false hnt)) ?_
                refine RL.val (x_moveB rfl) ?_
                refine RL.gst (wantedF1 rfl rfl rfl rfl) <| St1.val (x_moveSl rfl) ?_
                refine RL.gst (wantedF1 rfl rfl rfl rfl) <| St1.val (x_lds (cs := #[.int .i64 (((mkC V_568 s_571)).kind), .int .i64 (((mkC V_568 s_571)).frm), .int .i64 (((mkC V_568 s_571)).to), .int .i64 (((mkC V_568 s_571)).req), .string (((mkC V_568 s_571)).key), .slice (s_571.ea) (V_568.ent.length) (s_571.ec), .slice (s_571.ma) (V_568.mrk.length) (s_571.mc), .slice (s_571.ca) (V_568.cl.length) (s_571.cc), .int .i64 (((mkC V_568 s_571)).owner), .int .i64 (((mkC V_568 s_571)).part), .int .i64 (((mkC V_568 s_571)).n), .int .i64 ((((mkC V_568 s_571)).ring).parts), .int .i64 ((((mkC V_568 s_571)).ring).copies), .int .i64 ((((mkC V_568 s_571)).ring).spots), .slice (s_571.ba) (V_568.mem.length) (s_571.bc), .slice (s_571.pa) (V_568.pe.length) (s_571.pc), .slice (s_571.sa) (V_568.su.length) (s_571.sc)]) ty48 rfl rfl (hb_592.cl.drop 0 17)) ?_
                refine RL.gst (wantedF1 rfl rfl rfl rfl) <| St1.call (vals := [.slice (am) ((S.map Mg.c).length) (cm), .agg #[.int .i64 (((mkC V_568 s_571)).kind), .int .i64 (((mkC V_568 s_571)).frm), .int .i64 (((mkC V_568 s_571)).to), .int .i64 (((mkC V_568 s_571)).req), .string (((mkC V_568 s_571)).key), .slice (s_571.ea) (V_568.ent.length) (s_571.ec), .slice (s_571.ma) (V_568.mrk.length) (s_571.mc), .slice (s_571.ca) (V_568.cl.length) (s_571.cc), .int .i64 (((mkC V_568 s_571)).owner), .int .i64 (((mkC V_568 s_571)).part), .int .i64 (((mkC V_568 s_571)).n), .int .i64 ((((mkC V_568 s_571)).ring).parts), .int .i64 ((((mkC V_568 s_571)).ring).copies), .int .i64 ((((mkC V_568 s_571)).ring).spots), .slice (s_571.ba) (V_568.mem.length) (s_571.bc), .slice (s_571.pa) (V_568.pe.length) (s_571.pc), .slice (s_571.sa) (V_568.su.length) (s_571.sc)]]) en12 rfl (among_ _ S _ V_568 s_571 _ ho_22.sl (fun m hm => ⟨(hS m hm).1.ext K0, (hS m hm).2⟩) hO_574.r (by omega)) ?_
                rintro _ w_626 ⟨rfl, K_627⟩
                replace hO_21 := hO_21.ext K_627
                replace ho_22 := ho_22.ext K_627
                replace hb_40 := hb_40.ext K_627
                replace hS_573 := hS_573.ext K_627
                replace hO_574 := hO_574.ext K_627
                replace hb_592 := hb_592.ext K_627
                replace K0 := K0.ext K_627
                refine RL.gst (wantedF1 rfl rfl rfl rfl) <| St1.val (x_not rfl) ?_
                refine RL.val (x_orF rfl rfl rfl) ?_
                refine RL.nil ?_
                refine Run.cond rfl (fun hc101 => ?_) (fun hc101 => ?_)
                · try simp only [br] at hc101
                  exact absurd hc101 (by simp [hany])
                · try simp only [br] at hc101
                  refine Run.skip ?_
                  refine Run.seq ?_
                  refine Run.region ?_
                  refine RL.val (x_moveM rfl) ?_
                  refine RL.val (x_fld (o' := 2) Try.underlying32 rfl ty3 rfl rfl rfl) ?_
                  refine RL.val (x_ld (v := .int .i64 ((o).a)) ty3 rfl rfl (hb_40.cl.field (i := 2) rfl)) ?_
                  refine RL.st rfl <| St1.mapUpdate (v := .bool (true)) Try.underlying30 Try.underlying3 rfl rfl rfl rfl hO_21 ?_
                  intro w_628 hM_629 K_630
                  replace hM_629 : MapAt w_628 m_11 (akT (tk ++ [(o).a])) := (akT_put hnt ▸ hM_629)
                  replace ho_22 := ho_22.keepO K_630 (fun q_ h1 h2 => pr_26 q_ h2 h1)
                  replace hb_40 := hb_40.keep K_630 pr_44
                  replace hS_573 := hS_573.keepO K_630 pr_584
                  replace hO_574 := hO_574.keepO K_630 pr_581
                  replace hb_592 := hb_592.keep K_630 pr_595
                  replace K0 := K0.new K_630 pr_27
                  replace hO_21 := hM_629
                  clear hM_629
                  refine RL.nil ?_
                  refine Run.region ?_
                  refine RL.val (x_moveI rfl) ?_
                  refine RL.val (litI (c := ((((takeL (1 + m8) ([] : List LinkC) pv ((o).a)).length : Nat) : Int))) (x_sub rfl rfl (by omega) (by omega)) (by omega)) ?_
                  refine RL.val (x_assignI rfl) ?_
                  refine RL.nil ?_
                  refine Run.inBlock ?_
                  refine Run.seq ?_
                  have hok1 := hS_573.ok
                  have hlen1 := hok1.len
                  refine Run.region ?_
                  refine RL.val (x_moveP rfl) ?_
                  refine RL.st rfl <| St1.call (vals := [.pointer (some ⟨b_1, 0, none⟩)]) en15 rfl (packetsD hS_573 (by first | decide | assumption | omega)) ?_
                  rintro _ w_634 ⟨a_631, c_632, ks_633, rfl, ho_635, hQ_636, hpe_637, hg_638, hg_639, hap_640, K_641⟩
                  have pr_642 : ∀ q_, own a_631 q_ → ¬ one m_11 q_ := apartNew hg_638 hO_21.own_lt
                  have pr_643 : ∀ q_, own a_631 q_ → ¬ own am q_ := apartNew hg_638 ho_22.own_lt
                  have pr_644 : ¬ own a_631 b_37 := notNew hg_638 hb_40.lt
                  have pr_645 : ∀ q_, own a_631 q_ → ¬ F_570 q_ := apartNew hg_638 hS_573.own_lt
                  have pr_646 : ∀ q_, own a_631 q_ → ¬ ownS s_571 q_ := apartNew hg_638 hO_574.own_lt
                  have pr_647 : ¬ own a_631 b_589 := notNew hg_638 hb_592.lt
                  have pg_648 : ∀ q_, own a_631 q_ → w.heap.size ≤ q_ := fun q_ h => Nat.le_trans K0.size (hg_638 q_ h)
                  have pr_649 : ∀ q_, mgsS ks_633 q_ → ¬ one m_11 q_ := apartNew hg_639 hO_21.own_lt
                  have pr_650 : ∀ q_, mgsS ks_633 q_ → ¬ own am q_ := apartNew hg_639 ho_22.own_lt
                  have pr_651 : ¬ mgsS ks_633 b_37 := notNew hg_639 hb_40.lt
                  have pr_652 : ∀ q_, mgsS ks_633 q_ → ¬ F_570 q_ := apartNew hg_639 hS_573.own_lt
                  have pr_653 : ∀ q_, mgsS ks_633 q_ → ¬ ownS s_571 q_ := apartNew hg_639 hO_574.own_lt
                  have pr_654 : ¬ mgsS ks_633 b_589 := notNew hg_639 hb_592.lt
                  have pg_655 : ∀ q_, mgsS ks_633 q_ → w.heap.size ≤ q_ := fun q_ h => Nat.le_trans K0.size (hg_639 q_ h)
                  clear hg_638 hg_639
                  have hkl_ks_633 : (ks_633.map Pk.k).length = (takeL (1 + m8) ([] : List LinkC) pv ((o).a)).length := by have := congrArg List.length hpe_637; simpa using this
                  replace hO_21 := hO_21.ext K_641
                  replace ho_22 := ho_22.ext K_641
                  replace hb_40 := hb_40.ext K_641
                  replace hS_573 := hS_573.ext K_641
                  replace hO_574 := hO_574.ext K_641
                  replace hb_592 := hb_592.ext K_641
                  replace K0 := K0.ext K_641
                  refine RL.val (x_lenSl Try.underlying53 rfl) ?_
                  refine RL.val (x_moveI rfl) ?_
                  refine RL.val (x_neI rfl rfl) ?_
                  refine RL.val (x_moveB rfl) ?_
                  refine RL.gval (wantedF rfl rfl rfl rfl) (fun hg => (x_moveI rfl)) ?_
                  refine RL.gval (wantedF rfl rfl rfl rfl) (fun hg => (x_gtI (gvr hg) rfl)) ?_
                  refine RL.val (x_or rfl rfl rfl) ?_
                  refine RL.nil ?_
                  refine Run.cond rfl (fun hc124 => ?_) (fun hc124 => ?_)
                  · try simp only [br] at hc124
                    exact absurd hc124 (by omega)
                  · try simp only [br] at hc124
                    refine Run.skip ?_
                    refine Run.inBlock ?_
                    refine Run.region ?_
                    refine RL.val (litI (c := ((i + 1 : Nat) : Int)) (x_add rfl rfl (by omega) (by omega)) rfl) ?_
                    refine RL.val (x_moveI rfl) ?_
                    refine RL.nil ?_
                    have hP2 := made_del hP hT (hok0.le _ hin).2
                    rw [← htl] at hP2
                    refine ih1 (i + 1) _ _ ?_ (by omega)
                    refine ⟨F_570, takeL (1 + m8) ([] : List LinkC) pv ((o).a), id, (tk ++ [(o).a]), S, _, _, ⟨rfl, rfl, rfl, rfl, rfl, rfl, rfl, trivial⟩, K0, hS_573, hO_21, ho_22, pr_584, pr_585, pg_587, pr_26, pr_27, pr_28, ?_, ?_, ?_, ?_, ?_, ?_, ?_⟩
                    · omega
                    · omega
                    · omega
                    · omega
                    · exact hS
                    · exact hP2.1
                    · exact hP2.2
            · try simp only [br] at hc80
              refine Run.seq ?_
              refine Run.region ?_
              refine RL.val (x_eqI rfl rfl) ?_
              refine RL.val (x_assignB rfl) ?_
              refine RL.nil ?_
              refine Run.cond rfl (fun hc107 => ?_) (fun hc107 => ?_)
              · try simp only [br] at hc107
                refine Run.seq ?_
                have hok0 := hO_20.ok
                have hlen0 := hok0.len
                refine Run.region ?_
                refine RL.val (x_moveP rfl) ?_
                refine RL.val (x_fld (o' := 2) Try.underlying32 rfl ty3 rfl rfl rfl) ?_
                refine RL.val (x_ld (v := .int .i64 ((o).a)) ty3 rfl rfl (hb_40.cl.field (i := 2) rfl)) ?_
                refine RL.st rfl <| St1.call (vals := [.pointer (some ⟨b_1, 0, none⟩), .int .i64 ((o).a)]) en13 rfl (loseD hO_20 ((o).a)) ?_
                rintro _ w_657 ⟨F_656, rfl, hS_658, hm_659, K_660⟩
                have pr_661 : ∀ q_, F_656 q_ → ¬ one m_11 q_ := hm_659.apart pr_23 hO_21.own_lt
                have pr_662 : ∀ q_, F_656 q_ → ¬ own am q_ := hm_659.apart pr_24 ho_22.own_lt
                have pr_663 : ¬ F_656 b_37 := hm_659.not pr_43 hb_40.lt
                have pg_664 : ∀ q_, F_656 q_ → w.heap.size ≤ q_ := hm_659.ge pr_25 K0.size
                replace hO_21 := hO_21.keepO K_660 (fun q_ h1 h2 => pr_23 q_ h2 h1)
                replace ho_22 := ho_22.keepO K_660 (fun q_ h1 h2 => pr_24 q_ h2 h1)
                replace hb_40 := hb_40.keep K_660 pr_43
                replace K0 := K0.new K_660 pr_25
                clear hm_659
                refine RL.val (x_eqI rfl rfl) ?_
                refine RL.nil ?_
                refine Run.cond rfl (fun hc113 => ?_) (fun hc113 => ?_)
                · try simp only [br] at hc113
                  have he := (lose_len hok0.rise).1 hc113
                  refine Run.region ?_
                  refine RL.val (x_moveI rfl) ?_
                  refine RL.val (litI (c := ((((delP pv ((o).a)).length : Nat) : Int))) (x_sub rfl rfl (by omega) (by omega)) (by omega)) ?_
                  refine RL.val (x_assignI rfl) ?_
                  refine RL.nil ?_
                  refine Run.inBlock ?_
                  refine Run.seq ?_
                  have hok1 := hS_658.ok
                  have hlen1 := hok1.len
                  refine Run.region ?_
                  refine RL.val (x_moveP rfl) ?_
                  refine RL.st rfl <| St1.call (vals := [.pointer (some ⟨b_1, 0, none⟩)]) en15 rfl (packetsD hS_658 (by first | decide | assumption | omega)) ?_
                  rintro _ w_668 ⟨a_665, c_666, ks_667, rfl, ho_669, hQ_670, hpe_671, hg_672, hg_673, hap_674, K_675⟩
                  have pr_676 : ∀ q_, own a_665 q_ → ¬ one m_11 q_ := apartNew hg_672 hO_21.own_lt
                  have pr_677 : ∀ q_, own a_665 q_ → ¬ own am q_ := apartNew hg_672 ho_22.own_lt
                  have pr_678 : ¬ own a_665 b_37 := notNew hg_672 hb_40.lt
                  have pr_679 : ∀ q_, own a_665 q_ → ¬ F_656 q_ := apartNew hg_672 hS_658.own_lt
                  have pg_680 : ∀ q_, own a_665 q_ → w.heap.size ≤ q_ := fun q_ h => Nat.le_trans K0.size (hg_672 q_ h)
                  have pr_681 : ∀ q_, mgsS ks_667 q_ → ¬ one m_11 q_ := apartNew hg_673 hO_21.own_lt
                  have pr_682 : ∀ q_, mgsS ks_667 q_ → ¬ own am q_ := apartNew hg_673 ho_22.own_lt
                  have pr_683 : ¬ mgsS ks_667 b_37 := notNew hg_673 hb_40.lt
                  have pr_684 : ∀ q_, mgsS ks_667 q_ → ¬ F_656 q_ := apartNew hg_673 hS_658.own_lt
                  have pg_685 : ∀ q_, mgsS ks_667 q_ → w.heap.size ≤ q_ := fun q_ h => Nat.le_trans K0.size (hg_673 q_ h)
                  clear hg_672 hg_673
                  have hkl_ks_667 : (ks_667.map Pk.k).length = (delP pv ((o).a)).length := by have := congrArg List.length hpe_671; simpa using this
                  replace hO_21 := hO_21.ext K_675
                  replace ho_22 := ho_22.ext K_675
                  replace hb_40 := hb_40.ext K_675
                  replace hS_658 := hS_658.ext K_675
                  replace K0 := K0.ext K_675
                  refine RL.val (x_lenSl Try.underlying53 rfl) ?_
                  refine RL.val (x_moveI rfl) ?_
                  refine RL.val (x_neI rfl rfl) ?_
                  refine RL.val (x_moveB rfl) ?_
                  refine RL.gval (wantedF rfl rfl rfl rfl) (fun hg => (x_moveI rfl)) ?_
                  refine RL.gval (wantedF rfl rfl rfl rfl) (fun hg => (x_gtI (gvr hg) rfl)) ?_
                  refine RL.val (x_or rfl rfl rfl) ?_
                  refine RL.nil ?_
                  refine Run.cond rfl (fun hc124 => ?_) (fun hc124 => ?_)
                  · try simp only [br] at hc124
                    exact absurd hc124 (by omega)
                  · try simp only [br] at hc124
                    refine Run.skip ?_
                    refine Run.inBlock ?_
                    refine Run.region ?_
                    refine RL.val (litI (c := ((i + 1 : Nat) : Int)) (x_add rfl rfl (by omega) (by omega)) rfl) ?_
                    refine RL.val (x_moveI rfl) ?_
                    refine RL.nil ?_
                    have hP2 := made_lose (a := o.a) hP hT
                    refine ih1 (i + 1) _ _ ?_ (by omega)
                    refine ⟨F_656, delP pv ((o).a), id, tk, S, _, _, ⟨rfl, rfl, rfl, rfl, rfl, rfl, rfl, trivial⟩, K0, hS_658, hO_21, ho_22, pr_661, pr_662, pg_664, pr_26, pr_27, pr_28, ?_, ?_, ?_, ?_, ?_, ?_, ?_⟩
                    · omega
                    · omega
                    · omega
                    · omega
                    · exact hS
                    · exact hP2.1
                    · exact hP2.2
                · try simp only [br] at hc113
                  have he := (lose_len hok0.rise).2 hc113
                  refine Run.skip ?_
                  refine Run.inBlock ?_
                  refine Run.seq ?_
                  have hok1 := hS_658.ok
                  have hlen1 := hok1.len
                  refine Run.region ?_
                  refine RL.val (x_moveP rfl) ?_
                  refine RL.st rfl <| St1.call (vals := [.pointer (some ⟨b_1, 0, none⟩)]) en15 rfl (packetsD hS_658 (by first | decide | assumption | omega)) ?_
                  rintro _ w_689 ⟨a_686, c_687, ks_688, rfl, ho_690, hQ_691, hpe_692, hg_693, hg_694, hap_695, K_696⟩
                  have pr_697 : ∀ q_, own a_686 q_ → ¬ one m_11 q_ := apartNew hg_693 hO_21.own_lt
                  have pr_698 : ∀ q_, own a_686 q_ → ¬ own am q_ := apartNew hg_693 ho_22.own_lt
                  have pr_699 : ¬ own a_686 b_37 := notNew hg_693 hb_40.lt
                  have pr_700 : ∀ q_, own a_686 q_ → ¬ F_656 q_ := apartNew hg_693 hS_658.own_lt
                  have pg_701 : ∀ q_, own a_686 q_ → w.heap.size ≤ q_ := fun q_ h => Nat.le_trans K0.size (hg_693 q_ h)
                  have pr_702 : ∀ q_, mgsS ks_688 q_ → ¬ one m_11 q_ := apartNew hg_694 hO_21.own_lt
                  have pr_703 : ∀ q_, mgsS ks_688 q_ → ¬ own am q_ := apartNew hg_694 ho_22.own_lt
                  have pr_704 : ¬ mgsS ks_688 b_37 := notNew hg_694 hb_40.lt
                  have pr_705 : ∀ q_, mgsS ks_688 q_ → ¬ F_656 q_ := apartNew hg_694 hS_658.own_lt
                  have pg_706 : ∀ q_, mgsS ks_688 q_ → w.heap.size ≤ q_ := fun q_ h => Nat.le_trans K0.size (hg_694 q_ h)
                  clear hg_693 hg_694
                  have hkl_ks_688 : (ks_688.map Pk.k).length = (delP pv ((o).a)).length := by have := congrArg List.length hpe_692; simpa using this
                  replace hO_21 := hO_21.ext K_696
                  replace ho_22 := ho_22.ext K_696
                  replace hb_40 := hb_40.ext K_696
                  replace hS_658 := hS_658.ext K_696
                  replace K0 := K0.ext K_696
                  refine RL.val (x_lenSl Try.underlying53 rfl) ?_
                  refine RL.val (x_moveI rfl) ?_
                  refine RL.val (x_neI rfl rfl) ?_
                  refine RL.val (x_moveB rfl) ?_
                  refine RL.gval (wantedF rfl rfl rfl rfl) (fun hg => (x_moveI rfl)) ?_
                  refine RL.gval (wantedF rfl rfl rfl rfl) (fun hg => (x_gtI (gvr hg) rfl)) ?_
                  refine RL.val (x_or rfl rfl rfl) ?_
                  refine RL.nil ?_
                  refine Run.cond rfl (fun hc124 => ?_) (fun hc124 => ?_)
                  · try simp only [br] at hc124
                    exact absurd hc124 (by omega)
                  · try simp only [br] at hc124
                    refine Run.skip ?_
                    refine Run.inBlock ?_
                    refine Run.region ?_
                    refine RL.val (litI (c := ((i + 1 : Nat) : Int)) (x_add rfl rfl (by omega) (by omega)) rfl) ?_
                    refine RL.val (x_moveI rfl) ?_
                    refine RL.nil ?_
                    have hP2 := made_lose (a := o.a) hP hT
                    refine ih1 (i + 1) _ _ ?_ (by omega)
                    rw [← he]
                    refine ⟨F_656, delP pv ((o).a), id, tk, S, _, _, ⟨rfl, rfl, rfl, rfl, rfl, rfl, rfl, trivial⟩, K0, hS_658, hO_21, ho_22, pr_661, pr_662, pg_664, pr_26, pr_27, pr_28, ?_, ?_, ?_, ?_, ?_, ?_, ?_⟩
                    · omega
                    · omega
                    · omega
                    · omega
                    · exact hS
                    · exact hP2.1
                    · exact hP2.2
              · try simp only [br] at hc107
                refine Run.seq ?_
                have hok0 := hO_20.ok
                have hlen0 := hok0.len
                refine Run.region ?_
                refine RL.val (x_moveP rfl) ?_
                refine RL.val (x_fld (o' := 2) Try.underlying32 rfl ty3 rfl rfl rfl) ?_
                refine RL.val (x_ld (v := .int .i64 ((o).a)) ty3 rfl rfl (hb_40.cl.field (i := 2) rfl)) ?_
                refine RL.st rfl <| St1.call (vals := [.pointer (some ⟨b_1, 0, none⟩), .int .i64 ((o).a)]) en14 rfl (twiceD hO_20 ((o).a) (by first | decide | assumption | omega)) ?_
                rintro _ w_708 ⟨F_707, rfl, hS_709, hm_710, K_711⟩
                have pr_712 : ∀ q_, F_707 q_ → ¬ one m_11 q_ := hm_710.apart pr_23 hO_21.own_lt
                have pr_713 : ∀ q_, F_707 q_ → ¬ own am q_ := hm_710.apart pr_24 ho_22.own_lt
                have pr_714 : ¬ F_707 b_37 := hm_710.not pr_43 hb_40.lt
                have pg_715 : ∀ q_, F_707 q_ → w.heap.size ≤ q_ := hm_710.ge pr_25 K0.size
                replace hO_21 := hO_21.keepO K_711 (fun q_ h1 h2 => pr_23 q_ h2 h1)
                replace ho_22 := ho_22.keepO K_711 (fun q_ h1 h2 => pr_24 q_ h2 h1)
                replace hb_40 := hb_40.keep K_711 pr_43
                replace K0 := K0.new K_711 pr_25
                clear hm_710
                refine RL.val (x_eqI rfl rfl) ?_
                refine RL.nil ?_
                refine Run.cond rfl (fun hc53 => ?_) (fun hc53 => ?_)
                · try simp only [br] at hc53
                  have hn := twiceN_le id pv o.a
                  have he := ((twice_len (id := id)).1 hc53).1
                  refine Run.region ?_
                  refine RL.val (x_moveI rfl) ?_
                  refine RL.val (litI (c := ((((twiceL id pv ((o).a)).length : Nat) : Int))) (litI (c := ((pv.length + 1 : Nat) : Int)) (x_add rfl rfl (by omega) (by omega)) rfl) (by omega)) ?_
                  refine RL.val (x_assignI rfl) ?_
                  refine RL.nil ?_
                  refine Run.inBlock ?_
                  refine Run.seq ?_
                  have hok1 := hS_709.ok
                  have hlen1 := hok1.len
                  refine Run.region ?_
                  refine RL.val (x_moveP rfl) ?_
                  refine RL.st rfl <| St1.call (vals := [.pointer (some ⟨b_1, 0, none⟩)]) en15 rfl (packetsD hS_709 (by first | decide | assumption | omega)) ?_
                  rintro _ w_719 ⟨a_716, c_717, ks_718, rfl, ho_720, hQ_721, hpe_722, hg_723, hg_724, hap_725, K_726⟩
                  have pr_727 : ∀ q_, own a_716 q_ → ¬ one m_11 q_ := apartNew hg_723 hO_21.own_lt
                  have pr_728 : ∀ q_, own a_716 q_ → ¬ own am q_ := apartNew hg_723 ho_22.own_lt
                  have pr_729 : ¬ own a_716 b_37 := notNew hg_723 hb_40.lt
                  have pr_730 : ∀ q_, own a_716 q_ → ¬ F_707 q_ := apartNew hg_723 hS_709.own_lt
                  have pg_731 : ∀ q_, own a_716 q_ → w.heap.size ≤ q_ := fun q_ h => Nat.le_trans K0.size (hg_723 q_ h)
                  have pr_732 : ∀ q_, mgsS ks_718 q_ → ¬ one m_11 q_ := apartNew hg_724 hO_21.own_lt
                  have pr_733 : ∀ q_, mgsS ks_718 q_ → ¬ own am q_ := apartNew hg_724 ho_22.own_lt
                  have pr_734 : ¬ mgsS ks_718 b_37 := notNew hg_724 hb_40.lt
                  have pr_735 : ∀ q_, mgsS ks_718 q_ → ¬ F_707 q_ := apartNew hg_724 hS_709.own_lt
                  have pg_736 : ∀ q_, mgsS ks_718 q_ → w.heap.size ≤ q_ := fun q_ h => Nat.le_trans K0.size (hg_724 q_ h)
                  clear hg_723 hg_724
                  have hkl_ks_718 : (ks_718.map Pk.k).length = (twiceL id pv ((o).a)).length := by have := congrArg List.length hpe_722; simpa using this
                  replace hO_21 := hO_21.ext K_726
                  replace ho_22 := ho_22.ext K_726
                  replace hb_40 := hb_40.ext K_726
                  replace hS_709 := hS_709.ext K_726
                  replace K0 := K0.ext K_726
                  refine RL.val (x_lenSl Try.underlying53 rfl) ?_
                  refine RL.val (x_moveI rfl) ?_
                  refine RL.val (x_neI rfl rfl) ?_
                  refine RL.val (x_moveB rfl) ?_
                  refine RL.gval (wantedF rfl rfl rfl rfl) (fun hg => (x_moveI rfl)) ?_
                  refine RL.gval (wantedF rfl rfl rfl rfl) (fun hg => (x_gtI (gvr hg) rfl)) ?_
                  refine RL.val (x_or rfl rfl rfl) ?_
                  refine RL.nil ?_
                  refine Run.cond rfl (fun hc124 => ?_) (fun hc124 => ?_)
                  · try simp only [br] at hc124
                    exact absurd hc124 (by omega)
                  · try simp only [br] at hc124
                    refine Run.skip ?_
                    refine Run.inBlock ?_
                    refine Run.region ?_
                    refine RL.val (litI (c := ((i + 1 : Nat) : Int)) (x_add rfl rfl (by omega) (by omega)) rfl) ?_
                    refine RL.val (x_moveI rfl) ?_
                    refine RL.nil ?_
                    have hP2 := made_twice (a := o.a) hP hT
                    refine ih1 (i + 1) _ _ ?_ (by omega)
                    refine ⟨F_707, twiceL id pv ((o).a), twiceN id pv ((o).a), tk, S, _, _, ⟨rfl, rfl, rfl, rfl, rfl, rfl, rfl, trivial⟩, K0, hS_709, hO_21, ho_22, pr_712, pr_713, pg_715, pr_26, pr_27, pr_28, ?_, ?_, ?_, ?_, ?_, ?_, ?_⟩
                    · omega
                    · omega
                    · omega
                    · omega
                    · exact hS
                    · exact hP2.1
                    · exact hP2.2
                · try simp only [br] at hc53
                  have hn := twiceN_le id pv o.a
                  have he := ((twice_len (id := id)).2 hc53).1
                  refine Run.skip ?_
                  refine Run.inBlock ?_
                  refine Run.seq ?_
                  have hok1 := hS_709.ok
                  have hlen1 := hok1.len
                  refine Run.region ?_
                  refine RL.val (x_moveP rfl) ?_
                  refine RL.st rfl <| St1.call (vals := [.pointer (some ⟨b_1, 0, none⟩)]) en15 rfl (packetsD hS_709 (by first | decide | assumption | omega)) ?_
                  rintro _ w_740 ⟨a_737, c_738, ks_739, rfl, ho_741, hQ_742, hpe_743, hg_744, hg_745, hap_746, K_747⟩
                  have pr_748 : ∀ q_, own a_737 q_ → ¬ one m_11 q_ := apartNew hg_744 hO_21.own_lt
                  have pr_749 : ∀ q_, own a_737 q_ → ¬ own am q_ := apartNew hg_744 ho_22.own_lt
                  have pr_750 : ¬ own a_737 b_37 := notNew hg_744 hb_40.lt
                  have pr_751 : ∀ q_, own a_737 q_ → ¬ F_707 q_ := apartNew hg_744 hS_709.own_lt
                  have pg_752 : ∀ q_, own a_737 q_ → w.heap.size ≤ q_ := fun q_ h => Nat.le_trans K0.size (hg_744 q_ h)
                  have pr_753 : ∀ q_, mgsS ks_739 q_ → ¬ one m_11 q_ := apartNew hg_745 hO_21.own_lt
                  have pr_754 : ∀ q_, mgsS ks_739 q_ → ¬ own am q_ := apartNew hg_745 ho_22.own_lt
                  have pr_755 : ¬ mgsS ks_739 b_37 := notNew hg_745 hb_40.lt
                  have pr_756 : ∀ q_, mgsS ks_739 q_ → ¬ F_707 q_ := apartNew hg_745 hS_709.own_lt
                  have pg_757 : ∀ q_, mgsS ks_739 q_ → w.heap.size ≤ q_ := fun q_ h => Nat.le_trans K0.size (hg_745 q_ h)
                  clear hg_744 hg_745
                  have hkl_ks_739 : (ks_739.map Pk.k).length = (twiceL id pv ((o).a)).length := by have := congrArg List.length hpe_743; simpa using this
                  replace hO_21 := hO_21.ext K_747
                  replace ho_22 := ho_22.ext K_747
                  replace hb_40 := hb_40.ext K_747
                  replace hS_709 := hS_709.ext K_747
                  replace K0 := K0.ext K_747
                  refine RL.val (x_lenSl Try.underlying53 rfl) ?_
                  refine RL.val (x_moveI rfl) ?_
                  refine RL.val (x_neI rfl rfl) ?_
                  refine RL.val (x_moveB rfl) ?_
                  refine RL.gval (wantedF rfl rfl rfl rfl) (fun hg => (x_moveI rfl)) ?_
                  refine RL.gval (wantedF rfl rfl rfl rfl) (fun hg => (x_gtI (gvr hg) rfl)) ?_
                  refine RL.val (x_or rfl rfl rfl) ?_
                  refine RL.nil ?_
                  refine Run.cond rfl (fun hc124 => ?_) (fun hc124 => ?_)
                  · try simp only [br] at hc124
                    exact absurd hc124 (by omega)
                  · try simp only [br] at hc124
                    refine Run.skip ?_
                    refine Run.inBlock ?_
                    refine Run.region ?_
                    refine RL.val (litI (c := ((i + 1 : Nat) : Int)) (x_add rfl rfl (by omega) (by omega)) rfl) ?_
                    refine RL.val (x_moveI rfl) ?_
                    refine RL.nil ?_
                    have hP2 := made_twice (a := o.a) hP hT
                    refine ih1 (i + 1) _ _ ?_ (by omega)
                    rw [← he]
                    refine ⟨F_707, twiceL id pv ((o).a), twiceN id pv ((o).a), tk, S, _, _, ⟨rfl, rfl, rfl, rfl, rfl, rfl, rfl, trivial⟩, K0, hS_709, hO_21, ho_22, pr_712, pr_713, pg_715, pr_26, pr_27, pr_28, ?_, ?_, ?_, ?_, ?_, ?_, ?_⟩
                    · omega
                    · omega
                    · omega
                    · omega
                    · exact hS
                    · exact hP2.1
                    · exact hP2.2
          · try simp only [br] at hc80
            refine Run.region ?_
            refine RL.val (x_eqI rfl rfl) ?_
            refine RL.val (x_assignB rfl) ?_
            refine RL.nil ?_
            refine Run.cond rfl (fun hc80 => ?_) (fun hc80 => ?_)
            · try simp only [br] at hc80
              refine Run.seq ?_
              have hok0 := hO_20.ok
              have hlen0 := hok0.len
              refine Run.region ?_
              refine RL.val (x_moveP rfl) ?_
              refine RL.val (x_fld (o' := 2) Try.underlying32 rfl ty3 rfl rfl rfl) ?_
              refine RL.val (x_ld (v := .int .i64 ((o).a)) ty3 rfl rfl (hb_40.cl.field (i := 2) rfl)) ?_
              refine RL.st rfl <| St1.call (vals := [.pointer (some ⟨b_1, 0, none⟩), .int .i64 ((o).a)]) en11 rfl (takeX hO_20 ((o).a)) ?_
              rintro _ w_762 ⟨V_758, hV_759, F_760, s_761, rfl, hS_763, hO_764, hv_765, hin_766, hap_767, hm_768, K_769⟩
              have pr_771 : ∀ q_, ownS s_761 q_ → ¬ one m_11 q_ := fun q_ h_ => pr_23 q_ (hin_766 q_ h_)
              have pr_772 : ∀ q_, ownS s_761 q_ → ¬ own am q_ := fun q_ h_ => pr_24 q_ (hin_766 q_ h_)
              have pr_773 : ¬ ownS s_761 b_37 := fun h_ => pr_43 (hin_766 _ h_)
              have pr_774 : ∀ q_, F_760 q_ → ¬ one m_11 q_ := hm_768.apart pr_23 hO_21.own_lt
              have pr_775 : ∀ q_, F_760 q_ → ¬ own am q_ := hm_768.apart pr_24 ho_22.own_lt
              have pr_776 : ¬ F_760 b_37 := hm_768.not pr_43 hb_40.lt
              have pg_777 : ∀ q_, F_760 q_ → w.heap.size ≤ q_ := hm_768.ge pr_25 K0.size
              replace hO_21 := hO_21.keepO K_769 (fun q_ h1 h2 => pr_23 q_ h2 h1)
              replace ho_22 := ho_22.keepO K_769 (fun q_ h1 h2 => pr_24 q_ h2 h1)
              replace hb_40 := hb_40.keep K_769 pr_43
              replace K0 := K0.new K_769 pr_25
              clear hm_768
              have pg_778 : ∀ q_, ownS s_761 q_ → w.heap.size ≤ q_ := fun q_ h_ => pr_25 q_ (hin_766 q_ h_)
              refine RL.val (x_moveT rfl) ?_
              refine RL.val (x_extract rfl rfl) ?_
              refine RL.val (x_extract rfl rfl) ?_
              refine RL.st rfl <| St1.alloc ty48 ?_
              intro b_779 w_780 hl_783 hb_782 K_781
              replace hb_782 : Blk w_780 b_779 [.int .i64 (0), .int .i64 (0), .int .i64 (0), .int .i64 (0), .string (⟨#[]⟩), .slice (none) (0) (0), .slice (none) (0) (0), .slice (none) (0) (0), .int .i64 (0), .int .i64 (0), .int .i64 (0), .int .i64 (0), .int .i64 (0), .int .i64 (0), .slice (none) (0) (0), .slice (none) (0) (0), .slice (none) (0) (0)] 48 := hb_782
              have ne_784 : b_37 < b_779 := Nat.lt_of_lt_of_le hb_40.lt hl_783
              have pr_785 : ¬ one m_11 b_779 := fun h => absurd (hO_21.own_lt _ h) (by omega)
              have pr_786 : ¬ own am b_779 := fun h => absurd (ho_22.own_lt _ h) (by omega)
              have pr_787 : ¬ F_760 b_779 := fun h => absurd (hS_763.own_lt _ h) (by omega)
              have pr_788 : ¬ ownS s_761 b_779 := fun h => absurd (hO_764.own_lt _ h) (by omega)
              have : w.heap.size ≤ b_779 := Nat.le_trans K0.size hl_783
              clear hl_783
              replace hO_21 := hO_21.ext K_781
              replace ho_22 := ho_22.ext K_781
              replace hb_40 := hb_40.ext K_781
              replace hS_763 := hS_763.ext K_781
              replace hO_764 := hO_764.ext K_781
              replace K0 := K0.ext K_781
              refine RL.st rfl <| St1.store (v := .agg #[.int .i64 (((mkC V_758 s_761)).kind), .int .i64 (((mkC V_758 s_761)).frm), .int .i64 (((mkC V_758 s_761)).to), .int .i64 (((mkC V_758 s_761)).req), .string (((mkC V_758 s_761)).key), .slice (s_761.ea) (V_758.ent.length) (s_761.ec), .slice (s_761.ma) (V_758.mrk.length) (s_761.mc), .slice (s_761.ca) (V_758.cl.length) (s_761.cc), .int .i64 (((mkC V_758 s_761)).owner), .int .i64 (((mkC V_758 s_761)).part), .int .i64 (((mkC V_758 s_761)).n), .int .i64 ((((mkC V_758 s_761)).ring).parts), .int .i64 ((((mkC V_758 s_761)).ring).copies), .int .i64 ((((mkC V_758 s_761)).ring).spots), .slice (s_761.ba) (V_758.mem.length) (s_761.bc), .slice (s_761.pa) (V_758.pe.length) (s_761.pc), .slice (s_761.sa) (V_758.su.length) (s_761.sc)]) ty48 rfl rfl rfl (by simp [Value.cells, Value.oneCell']) hb_782 (by simp) ?_
              intro w_789 hb_782_ K_790
              have hb_782' : Blk w_789 b_779 [.int .i64 (((mkC V_758 s_761)).kind), .int .i64 (((mkC V_758 s_761)).frm), .int .i64 (((mkC V_758 s_761)).to), .int .i64 (((mkC V_758 s_761)).req), .string (((mkC V_758 s_761)).key), .slice (s_761.ea) (V_758.ent.length) (s_761.ec), .slice (s_761.ma) (V_758.mrk.length) (s_761.mc), .slice (s_761.ca) (V_758.cl.length) (s_761.cc), .int .i64 (((mkC V_758 s_761)).owner), .int .i64 (((mkC V_758 s_761)).part), .int .i64 (((mkC V_758 s_761)).n), .int .i64 ((((mkC V_758 s_761)).ring).parts), .int .i64 ((((mkC V_758 s_761)).ring).copies), .int .i64 ((((mkC V_758 s_761)).ring).spots), .slice (s_761.ba) (V_758.mem.length) (s_761.bc), .slice (s_761.pa) (V_758.pe.length) (s_761.pc), .slice (s_761.sa) (V_758.su.length) (s_761.sc)] 48 := hb_782_
              clear hb_782_
              replace hO_21 := hO_21.keepO K_790 (fun q_ hq_ eq_ => pr_785 (by simp only [one] at eq_; rw [← eq_]; exact hq_))
              replace ho_22 := ho_22.keepO K_790 (fun q_ hq_ eq_ => pr_786 (by simp only [one] at eq_; rw [← eq_]; exact hq_))
              replace hb_40 := hb_40.keep K_790 (by simp only [one]; omega)
              replace hS_763 := hS_763.keepO K_790 (fun q_ hq_ eq_ => pr_787 (by simp only [one] at eq_; rw [← eq_]; exact hq_))
              replace hO_764 := hO_764.keepO K_790 (fun q_ hq_ eq_ => pr_788 (by simp only [one] at eq_; rw [← eq_]; exact hq_))
              replace K0 := K0.new K_790 (fun x hx => by simp only [one] at hx; omega)
              replace hb_782 := hb_782'
              clear hb_782'
              refine RL.val (x_assignI rfl) ?_
              refine RL.nil ?_
              refine Run.seq ?_
              refine Run.seq ?_
              refine Run.region ?_
              refine RL.val (x_moveI rfl) ?_
              refine RL.val (x_neI rfl rfl) ?_
              refine RL.nil ?_
              refine Run.cond rfl (fun hc91 => ?_) (fun hc91 => ?_)
              · try simp only [br] at hc91
                have htl := takeNo hc91
                have he : (takeL (1 + m8) ([] : List LinkC) pv ((o).a)).length = pv.length := by rw [htl]
                refine Run.exit rfl ?_
                refine Run.seq ?_
                have hok1 := hS_763.ok
                have hlen1 := hok1.len
                refine Run.region ?_
                refine RL.val (x_moveP rfl) ?_
                refine RL.st rfl <| St1.call (vals := [.pointer (some ⟨b_1, 0, none⟩)]) en15 rfl (packetsD hS_763 (by first | decide | assumption | omega)) ?_
                rintro _ w_794 ⟨a_791, c_792, ks_793, rfl, ho_795, hQ_796, hpe_797, hg_798, hg_799, hap_800, K_801⟩
                have pr_802 : ∀ q_, own a_791 q_ → ¬ one m_11 q_ := apartNew hg_798 hO_21.own_lt
                have pr_803 : ∀ q_, own a_791 q_ → ¬ own am q_ := apartNew hg_798 ho_22.own_lt
                have pr_804 : ¬ own a_791 b_37 := notNew hg_798 hb_40.lt
                have pr_805 : ∀ q_, own a_791 q_ → ¬ F_760 q_ := apartNew hg_798 hS_763.own_lt
                have pr_806 : ∀ q_, own a_791 q_ → ¬ ownS s_761 q_ := apartNew hg_798 hO_764.own_lt
                have pr_807 : ¬ own a_791 b_779 := notNew hg_798 hb_782.lt
                have pg_808 : ∀ q_, own a_791 q_ → w.heap.size ≤ q_ := fun q_ h => Nat.le_trans K0.size (hg_798 q_ h)
                have pr_809 : ∀ q_, mgsS ks_793 q_ → ¬ one m_11 q_ := apartNew hg_799 hO_21.own_lt
                have pr_810 : ∀ q_, mgsS ks_793 q_ → ¬ own am q_ := apartNew hg_799 ho_22.own_lt
                have pr_811 : ¬ mgsS ks_793 b_37 := notNew hg_799 hb_40.lt
                have pr_812 : ∀ q_, mgsS ks_793 q_ → ¬ F_760 q_ := apartNew hg_799 hS_763.own_lt
                have pr_813 : ∀ q_, mgsS ks_793 q_ → ¬ ownS s_761 q_ := apartNew hg_799 hO_764.own_lt
                have pr_814 : ¬ mgsS ks_793 b_779 := notNew hg_799 hb_782.lt
                have pg_815 : ∀ q_, mgsS ks_793 q_ → w.heap.size ≤ q_ := fun q_ h => Nat.le_trans K0.size (hg_799 q_ h)
                clear hg_798 hg_799
                have hkl_ks_793 : (ks_793.map Pk.k).length = (takeL (1 + m8) ([] : List LinkC) pv ((o).a)).length := by have := congrArg List.length hpe_797; simpa using this
                replace hO_21 := hO_21.ext K_801
                replace ho_22 := ho_22.ext K_801
                replace hb_40 := hb_40.ext K_801
                replace hS_763 := hS_763.ext K_801
                replace hO_764 := hO_764.ext K_801
                replace hb_782 := hb_782.ext K_801
                replace K0 := K0.ext K_801
                refine RL.val (x_lenSl Try.underlying53 rfl) ?_
                refine RL.val (x_moveI rfl) ?_
                refine RL.val (x_neI rfl rfl) ?_
                refine RL.val (x_moveB rfl) ?_
                refine RL.gval (wantedF rfl rfl rfl rfl) (fun hg => (x_moveI rfl)) ?_
                refine RL.gval (wantedF rfl rfl rfl rfl) (fun hg => (x_gtI (gvr hg) rfl)) ?_
                refine RL.val (x_or rfl rfl rfl) ?_
                refine RL.nil ?_
                refine Run.cond rfl (fun hc124 => ?_) (fun hc124 => ?_)
                · try simp only [br] at hc124
                  exact absurd hc124 (by omega)
                · try simp only [br] at hc124
                  refine Run.skip ?_
                  refine Run.inBlock ?_
                  refine Run.region ?_
                  refine RL.val (litI (c := ((i + 1 : Nat) : Int)) (x_add rfl rfl (by omega) (by omega)) rfl) ?_
                  refine RL.val (x_moveI rfl) ?_
                  refine RL.nil ?_
                  have hP2 := And.intro hP hT
                  rw [← htl] at hP2
                  refine ih1 (i + 1) _ _ ?_ (by omega)
                  rw [← he]
                  refine ⟨F_760, takeL (1 + m8) ([] : List LinkC) pv ((o).a), id, tk, S, _, _, ⟨rfl, rfl, rfl, rfl, rfl, rfl, rfl, trivial⟩, K0, hS_763, hO_21, ho_22, pr_774, pr_775, pg_777, pr_26, pr_27, pr_28, ?_, ?_, ?_, ?_, ?_, ?_, ?_⟩
                  · omega
                  · omega
                  · omega
                  · omega
                  · exact hS
                  · exact hP2.1
                  · exact hP2.2
              · try simp only [br] at hc91
                obtain ⟨hin, htl⟩ := take0 hc91
                rw [hV_759] at hin
                have hdl : (delP pv o.a).length + 1 = pv.length := del_len hok0.rise hin
                have he : (takeL (1 + m8) ([] : List LinkC) pv ((o).a)).length + 1 = pv.length := by rw [htl]; exact hdl
                have hnt : o.a ∉ tk := fun h => (hT _ h).2 _ hin rfl
                have hany : (S.map Mg.v).any (fun y => decide (y = V_758)) = true := List.any_eq_true.2 ⟨V_758, hP _ hin, decide_eq_true rfl⟩
                refine Run.skip ?_
                refine Run.seq ?_
                refine Run.seq ?_
                refine Run.region ?_
                refine RL.val (x_moveM rfl) ?_
                refine RL.val (x_fld (o' := 2) Try.underlying32 rfl ty3 rfl rfl rfl) ?_
                refine RL.val (x_ld (v := .int .i64 ((o).a)) ty3 rfl rfl (hb_40.cl.field (i := 2) rfl)) ?_
                refine RL.val (litF (litV (v' := .bool (decide ((o).a ∈ tk))) (x_lookup Try.underlying30 Try.underlying3 rfl ty4 rfl rfl hO_21) (akT_get _ _)) (decide_eq_false hnt)) ?_
                refine RL.val (x_moveB rfl) ?_
                refine RL.gst (wantedF1 rfl rfl rfl rfl) <| St1.val (x_moveSl rfl) ?_
                refine RL.gst (wantedF1 rfl rfl rfl rfl) <| St1.val (x_lds (cs := #[.int .i64 (((mkC V_758 s_761)).kind), .int .i64 (((mkC V_758 s_761)).frm), .int .i64 (((mkC V_758 s_761)).to), .int .i64 (((mkC V_758 s_761)).req), .string (((mkC V_758 s_761)).key), .slice (s_761.ea) (V_758.ent.length) (s_761.ec), .slice (s_761.ma) (V_758.mrk.length) (s_761.mc), .slice (s_761.ca) (V_758.cl.length) (s_761.cc), .int .i64 (((mkC V_758 s_761)).owner), .int .i64 (((mkC V_758 s_761)).part), .int .i64 (((mkC V_758 s_761)).n), .int .i64 ((((mkC V_758 s_761)).ring).parts), .int .i64 ((((mkC V_758 s_761)).ring).copies), .int .i64 ((((mkC V_758 s_761)).ring).spots), .slice (s_761.ba) (V_758.mem.length) (s_761.bc), .slice (s_761.pa) (V_758.pe.length) (s_761.pc), .slice (s_761.sa) (V_758.su.length) (s_761.sc)]) ty48 rfl rfl (hb_782.cl.drop 0 17)) ?_
                refine RL.gst (wantedF1 rfl rfl rfl rfl) <| St1.call (vals := [.slice (am) ((S.map Mg.c).length) (cm), .agg #[.int .i64 (((mkC V_758 s_761)).kind), .int .i64 (((mkC V_758 s_761)).frm), .int .i64 (((mkC V_758 s_761)).to), .int .i64 (((mkC V_758 s_761)).req), .string (((mkC V_758 s_761)).key), .slice (s_761.ea) (V_758.ent.length) (s_761.ec), .slice (s_761.ma) (V_758.mrk.length) (s_761.mc), .slice (s_761.ca) (V_758.cl.length) (s_761.cc), .int .i64 (((mkC V_758 s_761)).owner), .int .i64 (((mkC V_758 s_761)).part), .int .i64 (((mkC V_758 s_761)).n), .int .i64 ((((mkC V_758 s_761)).ring).parts), .int .i64 ((((mkC V_758 s_761)).ring).copies), .int .i64 ((((mkC V_758 s_761)).ring).spots), .slice (s_761.ba) (V_758.mem.length) (s_761.bc), .slice (s_761.pa) (V_758.pe.length) (s_761.pc), .slice (s_761.sa) (V_758.su.length) (s_761.sc)]]) en12 rfl (among_ _ S _ V_758 s_761 _ ho_22.sl (fun m hm => ⟨(hS m hm).1.ext K0, (hS m hm).2⟩) hO_764.r (by omega)) ?_
                rintro _ w_816 ⟨rfl, K_817⟩
                replace hO_21 := hO_21.ext K_817
                replace ho_22 := ho_22.ext K_817
                replace hb_40 := hb_40.ext K_817
                replace hS_763 := hS_763.ext K_817
                replace hO_764 := hO_764.ext K_817
                replace hb_782 := hb_782.ext K_817
                replace K0 := K0.ext K_817
                refine RL.gst (wantedF1 rfl rfl rfl rfl) <| St1.val (x_not rfl) ?_
                refine RL.val (x_orF rfl rfl rfl) ?_
                refine RL.nil ?_
                refine Run.cond rfl (fun hc101 => ?_) (fun hc101 => ?_)
                · try simp only [br] at hc101
                  exact absurd hc101 (by simp [hany])
                · try simp only [br] at hc101
                  refine Run.skip ?_
                  refine Run.seq ?_
                  refine Run.region ?_
                  refine RL.val (x_moveM rfl) ?_
                  refine RL.val (x_fld (o' := 2) Try.underlying32 rfl ty3 rfl rfl rfl) ?_
                  refine RL.val (x_ld (v := .int .i64 ((o).a)) ty3 rfl rfl (hb_40.cl.field (i := 2) rfl)) ?_
                  refine RL.st rfl <| St1.mapUpdate (v := .bool (true)) Try.underlying30 Try.underlying3 rfl rfl rfl rfl hO_21 ?_
                  intro w_818 hM_819 K_820
                  replace hM_819 : MapAt w_818 m_11 (akT (tk ++ [(o).a])) := (akT_put hnt ▸ hM_819)
                  replace ho_22 := ho_22.keepO K_820 (fun q_ h1 h2 => pr_26 q_ h2 h1)
                  replace hb_40 := hb_40.keep K_820 pr_44
                  replace hS_763 := hS_763.keepO K_820 pr_774
                  replace hO_764 := hO_764.keepO K_820 pr_771
                  replace hb_782 := hb_782.keep K_820 pr_785
                  replace K0 := K0.new K_820 pr_27
                  replace hO_21 := hM_819
                  clear hM_819
                  refine RL.nil ?_
                  refine Run.region ?_
                  refine RL.val (x_moveI rfl) ?_
                  refine RL.val (litI (c := ((((takeL (1 + m8) ([] : List LinkC) pv ((o).a)).length : Nat) : Int))) (x_sub rfl rfl (by omega) (by omega)) (by omega)) ?_
                  refine RL.val (x_assignI rfl) ?_
                  refine RL.nil ?_
                  refine Run.inBlock ?_
                  refine Run.seq ?_
                  have hok1 := hS_763.ok
                  have hlen1 := hok1.len
                  refine Run.region ?_
                  refine RL.val (x_moveP rfl) ?_
                  refine RL.st rfl <| St1.call (vals := [.pointer (some ⟨b_1, 0, none⟩)]) en15 rfl (packetsD hS_763 (by first | decide | assumption | omega)) ?_
                  rintro _ w_824 ⟨a_821, c_822, ks_823, rfl, ho_825, hQ_826, hpe_827, hg_828, hg_829, hap_830, K_831⟩
                  have pr_832 : ∀ q_, own a_821 q_ → ¬ one m_11 q_ := apartNew hg_828 hO_21.own_lt
                  have pr_833 : ∀ q_, own a_821 q_ → ¬ own am q_ := apartNew hg_828 ho_22.own_lt
                  have pr_834 : ¬ own a_821 b_37 := notNew hg_828 hb_40.lt
                  have pr_835 : ∀ q_, own a_821 q_ → ¬ F_760 q_ := apartNew hg_828 hS_763.own_lt
                  have pr_836 : ∀ q_, own a_821 q_ → ¬ ownS s_761 q_ := apartNew hg_828 hO_764.own_lt
                  have pr_837 : ¬ own a_821 b_779 := notNew hg_828 hb_782.lt
                  have pg_838 : ∀ q_, own a_821 q_ → w.heap.size ≤ q_ := fun q_ h => Nat.le_trans K0.size (hg_828 q_ h)
                  have pr_839 : ∀ q_, mgsS ks_823 q_ → ¬ one m_11 q_ := apartNew hg_829 hO_21.own_lt
                  have pr_840 : ∀ q_, mgsS ks_823 q_ → ¬ own am q_ := apartNew hg_829 ho_22.own_lt
                  have pr_841 : ¬ mgsS ks_823 b_37 := notNew hg_829 hb_40.lt
                  have pr_842 : ∀ q_, mgsS ks_823 q_ → ¬ F_760 q_ := apartNew hg_829 hS_763.own_lt
                  have pr_843 : ∀ q_, mgsS ks_823 q_ → ¬ ownS s_761 q_ := apartNew hg_829 hO_764.own_lt
                  have pr_844 : ¬ mgsS ks_823 b_779 := notNew hg_829 hb_782.lt
                  have pg_845 : ∀ q_, mgsS ks_823 q_ → w.heap.size ≤ q_ := fun q_ h => Nat.le_trans K0.size (hg_829 q_ h)
                  clear hg_828 hg_829
                  have hkl_ks_823 : (ks_823.map Pk.k).length = (takeL (1 + m8) ([] : List LinkC) pv ((o).a)).length := by have := congrArg List.length hpe_827; simpa using this
                  replace hO_21 := hO_21.ext K_831
                  replace ho_22 := ho_22.ext K_831
                  replace hb_40 := hb_40.ext K_831
                  replace hS_763 := hS_763.ext K_831
                  replace hO_764 := hO_764.ext K_831
                  replace hb_782 := hb_782.ext K_831
                  replace K0 := K0.ext K_831
                  refine RL.val (x_lenSl Try.underlying53 rfl) ?_
                  refine RL.val (x_moveI rfl) ?_
                  refine RL.val (x_neI rfl rfl) ?_
                  refine RL.val (x_moveB rfl) ?_
                  refine RL.gval (wantedF rfl rfl rfl rfl) (fun hg => (x_moveI rfl)) ?_
                  refine RL.gval (wantedF rfl rfl rfl rfl) (fun hg => (x_gtI (gvr hg) rfl)) ?_
                  refine RL.val (x_or rfl rfl rfl) ?_
                  refine RL.nil ?_
                  refine Run.cond rfl (fun hc124 => ?_) (fun hc124 => ?_)
                  · try simp only [br] at hc124
                    exact absurd hc124 (by omega)
                  · try simp only [br] at hc124
                    refine Run.skip ?_
                    refine Run.inBlock ?_
                    refine Run.region ?_
                    refine RL.val (litI (c := ((i + 1 : Nat) : Int)) (x_add rfl rfl (by omega) (by omega)) rfl) ?_
                    refine RL.val (x_moveI rfl) ?_
                    refine RL.nil ?_
                    have hP2 := made_del hP hT (hok0.le _ hin).2
                    rw [← htl] at hP2
                    refine ih1 (i + 1) _ _ ?_ (by omega)
                    refine ⟨F_760, takeL (1 + m8) ([] : List LinkC) pv ((o).a), id, (tk ++ [(o).a]), S, _, _, ⟨rfl, rfl, rfl, rfl, rfl, rfl, rfl, trivial⟩, K0, hS_763, hO_21, ho_22, pr_774, pr_775, pg_777, pr_26, pr_27, pr_28, ?_, ?_, ?_, ?_, ?_, ?_, ?_⟩
                    · omega
                    · omega
                    · omega
                    · omega
                    · exact hS
                    · exact hP2.1
                    · exact hP2.2
            · try simp only [br] at hc80
              refine Run.seq ?_
              refine Run.region ?_
              refine RL.val (x_eqI rfl rfl) ?_
              refine RL.val (x_assignB rfl) ?_
              refine RL.nil ?_
              refine Run.cond rfl (fun hc107 => ?_) (fun hc107 => ?_)
              · try simp only [br] at hc107
                refine Run.seq ?_
                have hok0 := hO_20.ok
                have hlen0 := hok0.len
                refine Run.region ?_
                refine RL.val (x_moveP rfl) ?_
                refine RL.val (x_fld (o' := 2) Try.underlying32 rfl ty3 rfl rfl rfl) ?_
                refine RL.val (x_ld (v := .int .i64 ((o).a)) ty3 rfl rfl (hb_40.cl.field (i := 2) rfl)) ?_
                refine RL.st rfl <| St1.call (vals := [.pointer (some ⟨b_1, 0, none⟩), .int .i64 ((o).a)]) en13 rfl (loseD hO_20 ((o).a)) ?_
                rintro _ w_847 ⟨F_846, rfl, hS_848, hm_849, K_850⟩
                have pr_851 : ∀ q_, F_846 q_ → ¬ one m_11 q_ := hm_849.apart pr_23 hO_21.own_lt
                have pr_852 : ∀ q_, F_846 q_ → ¬ own am q_ := hm_849.apart pr_24 ho_22.own_lt
                have pr_853 : ¬ F_846 b_37 := hm_849.not pr_43 hb_40.lt
                have pg_854 : ∀ q_, F_846 q_ → w.heap.size ≤ q_ := hm_849.ge pr_25 K0.size
                replace hO_21 := hO_21.keepO K_850 (fun q_ h1 h2 => pr_23 q_ h2 h1)
                replace ho_22 := ho_22.keepO K_850 (fun q_ h1 h2 => pr_24 q_ h2 h1)
                replace hb_40 := hb_40.keep K_850 pr_43
                replace K0 := K0.new K_850 pr_25
                clear hm_849
                refine RL.val (x_eqI rfl rfl) ?_
                refine RL.nil ?_
                refine Run.cond rfl (fun hc113 => ?_) (fun hc113 => ?_)
                · try simp only [br] at hc113
                  have he := (lose_len hok0.rise).1 hc113
                  refine Run.region ?_
                  refine RL.val (x_moveI rfl) ?_
                  refine RL.val (litI (c := ((((delP pv ((o).a)).length : Nat) : Int))) (x_sub rfl rfl (by omega) (by omega)) (by omega)) ?_
                  refine RL.val (x_assignI rfl) ?_
                  refine RL.nil ?_
                  refine Run.inBlock ?_
                  refine Run.seq ?_
                  have hok1 := hS_848.ok
                  have hlen1 := hok1.len
                  refine Run.region ?_
                  refine RL.val (x_moveP rfl) ?_
                  refine RL.st rfl <| St1.call (vals := [.pointer (some ⟨b_1, 0, none⟩)]) en15 rfl (packetsD hS_848 (by first | decide | assumption | omega)) ?_
                  rintro _ w_858 ⟨a_855, c_856, ks_857, rfl, ho_859, hQ_860, hpe_861, hg_862, hg_863, hap_864, K_865⟩
                  have pr_866 : ∀ q_, own a_855 q_ → ¬ one m_11 q_ := apartNew hg_862 hO_21.own_lt
                  have pr_867 : ∀ q_, own a_855 q_ → ¬ own am q_ := apartNew hg_862 ho_22.own_lt
                  have pr_868 : ¬ own a_855 b_37 := notNew hg_862 hb_40.lt
                  have pr_869 : ∀ q_, own a_855 q_ → ¬ F_846 q_ := apartNew hg_862 hS_848.own_lt
                  have pg_870 : ∀ q_, own a_855 q_ → w.heap.size ≤ q_ := fun q_ h => Nat.le_trans K0.size (hg_862 q_ h)
                  have pr_871 : ∀ q_, mgsS ks_857 q_ → ¬ one m_11 q_ := apartNew hg_863 hO_21.own_lt
                  have pr_872 : ∀ q_, mgsS ks_857 q_ → ¬ own am q_ := apartNew hg_863 ho_22.own_lt
                  have pr_873 : ¬ mgsS ks_857 b_37 := notNew hg_863 hb_40.lt
                  have pr_874 : ∀ q_, mgsS ks_857 q_ → ¬ F_846 q_ := apartNew hg_863 hS_848.own_lt
                  have pg_875 : ∀ q_, mgsS ks_857 q_ → w.heap.size ≤ q_ := fun q_ h => Nat.le_trans K0.size (hg_863 q_ h)
                  clear hg_862 hg_863
                  have hkl_ks_857 : (ks_857.map Pk.k).length = (delP pv ((o).a)).length := by have := congrArg List.length hpe_861; simpa using this
                  replace hO_21 := hO_21.ext K_865
                  replace ho_22 := ho_22.ext K_865
                  replace hb_40 := hb_40.ext K_865
                  replace hS_848 := hS_848.ext K_865
                  replace K0 := K0.ext K_865
                  refine RL.val (x_lenSl Try.underlying53 rfl) ?_
                  refine RL.val (x_moveI rfl) ?_
                  refine RL.val (x_neI rfl rfl) ?_
                  refine RL.val (x_moveB rfl) ?_
                  refine RL.gval (wantedF rfl rfl rfl rfl) (fun hg => (x_moveI rfl)) ?_
                  refine RL.gval (wantedF rfl rfl rfl rfl) (fun hg => (x_gtI (gvr hg) rfl)) ?_
                  refine RL.val (x_or rfl rfl rfl) ?_
                  refine RL.nil ?_
                  refine Run.cond rfl (fun hc124 => ?_) (fun hc124 => ?_)
                  · try simp only [br] at hc124
                    exact absurd hc124 (by omega)
                  · try simp only [br] at hc124
                    refine Run.skip ?_
                    refine Run.inBlock ?_
                    refine Run.region ?_
                    refine RL.val (litI (c := ((i + 1 : Nat) : Int)) (x_add rfl rfl (by omega) (by omega)) rfl) ?_
                    refine RL.val (x_moveI rfl) ?_
                    refine RL.nil ?_
                    have hP2 := made_lose (a := o.a) hP hT
                    refine ih1 (i + 1) _ _ ?_ (by omega)
                    refine ⟨F_846, delP pv ((o).a), id, tk, S, _, _, ⟨rfl, rfl, rfl, rfl, rfl, rfl, rfl, trivial⟩, K0, hS_848, hO_21, ho_22, pr_851, pr_852, pg_854, pr_26, pr_27, pr_28, ?_, ?_, ?_, ?_, ?_, ?_, ?_⟩
                    · omega
                    · omega
                    · omega
                    · omega
                    · exact hS
                    · exact hP2.1
                    · exact hP2.2
                · try simp only [br] at hc113
                  have he := (lose_len hok0.rise).2 hc113
                  refine Run.skip ?_
                  refine Run.inBlock ?_
                  refine Run.seq ?_
                  have hok1 := hS_848.ok
                  have hlen1 := hok1.len
                  refine Run.region ?_
                  refine RL.val (x_moveP rfl) ?_
                  refine RL.st rfl <| St1.call (vals := [.pointer (some ⟨b_1, 0, none⟩)]) en15 rfl (packetsD hS_848 (by first | decide | assumption | omega)) ?_
                  rintro _ w_879 ⟨a_876, c_877, ks_878, rfl, ho_880, hQ_881, hpe_882, hg_883, hg_884, hap_885, K_886⟩
                  have pr_887 : ∀ q_, own a_876 q_ → ¬ one m_11 q_ := apartNew hg_883 hO_21.own_lt
                  have pr_888 : ∀ q_, own a_876 q_ → ¬ own am q_ := apartNew hg_883 ho_22.own_lt
                  have pr_889 : ¬ own a_876 b_37 := notNew hg_883 hb_40.lt
                  have pr_890 : ∀ q_, own a_876 q_ → ¬ F_846 q_ := apartNew hg_883 hS_848.own_lt
                  have pg_891 : ∀ q_, own a_876 q_ → w.heap.size ≤ q_ := fun q_ h => Nat.le_trans K0.size (hg_883 q_ h)
                  have pr_892 : ∀ q_, mgsS ks_878 q_ → ¬ one m_11 q_ := apartNew hg_884 hO_21.own_lt
                  have pr_893 : ∀ q_, mgsS ks_878 q_ → ¬ own am q_ := apartNew hg_884 ho_22.own_lt
                  have pr_894 : ¬ mgsS ks_878 b_37 := notNew hg_884 hb_40.lt
                  have pr_895 : ∀ q_, mgsS ks_878 q_ → ¬ F_846 q_ := apartNew hg_884 hS_848.own_lt
                  have pg_896 : ∀ q_, mgsS ks_878 q_ → w.heap.size ≤ q_ := fun q_ h => Nat.le_trans K0.size (hg_884 q_ h)
                  clear hg_883 hg_884
                  have hkl_ks_878 : (ks_878.map Pk.k).length = (delP pv ((o).a)).length := by have := congrArg List.length hpe_882; simpa using this
                  replace hO_21 := hO_21.ext K_886
                  replace ho_22 := ho_22.ext K_886
                  replace hb_40 := hb_40.ext K_886
                  replace hS_848 := hS_848.ext K_886
                  replace K0 := K0.ext K_886
                  refine RL.val (x_lenSl Try.underlying53 rfl) ?_
                  refine RL.val (x_moveI rfl) ?_
                  refine RL.val (x_neI rfl rfl) ?_
                  refine RL.val (x_moveB rfl) ?_
                  refine RL.gval (wantedF rfl rfl rfl rfl) (fun hg => (x_moveI rfl)) ?_
                  refine RL.gval (wantedF rfl rfl rfl rfl) (fun hg => (x_gtI (gvr hg) rfl)) ?_
                  refine RL.val (x_or rfl rfl rfl) ?_
                  refine RL.nil ?_
                  refine Run.cond rfl (fun hc124 => ?_) (fun hc124 => ?_)
                  · try simp only [br] at hc124
                    exact absurd hc124 (by omega)
                  · try simp only [br] at hc124
                    refine Run.skip ?_
                    refine Run.inBlock ?_
                    refine Run.region ?_
                    refine RL.val (litI (c := ((i + 1 : Nat) : Int)) (x_add rfl rfl (by omega) (by omega)) rfl) ?_
                    refine RL.val (x_moveI rfl) ?_
                    refine RL.nil ?_
                    have hP2 := made_lose (a := o.a) hP hT
                    refine ih1 (i + 1) _ _ ?_ (by omega)
                    rw [← he]
                    refine ⟨F_846, delP pv ((o).a), id, tk, S, _, _, ⟨rfl, rfl, rfl, rfl, rfl, rfl, rfl, trivial⟩, K0, hS_848, hO_21, ho_22, pr_851, pr_852, pg_854, pr_26, pr_27, pr_28, ?_, ?_, ?_, ?_, ?_, ?_, ?_⟩
                    · omega
                    · omega
                    · omega
                    · omega
                    · exact hS
                    · exact hP2.1
                    · exact hP2.2
              · try simp only [br] at hc107
                refine Run.seq ?_
                have hok0 := hO_20.ok
                have hlen0 := hok0.len
                refine Run.region ?_
                refine RL.val (x_moveP rfl) ?_
                refine RL.val (x_fld (o' := 2) Try.underlying32 rfl ty3 rfl rfl rfl) ?_
                refine RL.val (x_ld (v := .int .i64 ((o).a)) ty3 rfl rfl (hb_40.cl.field (i := 2) rfl)) ?_
                refine RL.st rfl <| St1.call (vals := [.pointer (some ⟨b_1, 0, none⟩), .int .i64 ((o).a)]) en14 rfl (twiceD hO_20 ((o).a) (by first | decide | assumption | omega)) ?_
                rintro _ w_898 ⟨F_897, rfl, hS_899, hm_900, K_901⟩
                have pr_902 : ∀ q_, F_897 q_ → ¬ one m_11 q_ := hm_900.apart pr_23 hO_21.own_lt
                have pr_903 : ∀ q_, F_897 q_ → ¬ own am q_ := hm_900.apart pr_24 ho_22.own_lt
                have pr_904 : ¬ F_897 b_37 := hm_900.not pr_43 hb_40.lt
                have pg_905 : ∀ q_, F_897 q_ → w.heap.size ≤ q_ := hm_900.ge pr_25 K0.size
                replace hO_21 := hO_21.keepO K_901 (fun q_ h1 h2 => pr_23 q_ h2 h1)
                replace ho_22 := ho_22.keepO K_901 (fun q_ h1 h2 => pr_24 q_ h2 h1)
                replace hb_40 := hb_40.keep K_901 pr_43
                replace K0 := K0.new K_901 pr_25
                clear hm_900
                refine RL.val (x_eqI rfl rfl) ?_
                refine RL.nil ?_
                refine Run.cond rfl (fun hc53 => ?_) (fun hc53 => ?_)
                · try simp only [br] at hc53
                  have hn := twiceN_le id pv o.a
                  have he := ((twice_len (id := id)).1 hc53).1
                  refine Run.region ?_
                  refine RL.val (x_moveI rfl) ?_
                  refine RL.val (litI (c := ((((twiceL id pv ((o).a)).length : Nat) : Int))) (litI (c := ((pv.length + 1 : Nat) : Int)) (x_add rfl rfl (by omega) (by omega)) rfl) (by omega)) ?_
                  refine RL.val (x_assignI rfl) ?_
                  refine RL.nil ?_
                  refine Run.inBlock ?_
                  refine Run.seq ?_
                  have hok1 := hS_899.ok
                  have hlen1 := hok1.len
                  refine Run.region ?_
                  refine RL.val (x_moveP rfl) ?_
                  refine RL.st rfl <| St1.call (vals := [.pointer (some ⟨b_1, 0, none⟩)]) en15 rfl (packetsD hS_899 (by first | decide | assumption | omega)) ?_
                  rintro _ w_909 ⟨a_906, c_907, ks_908, rfl, ho_910, hQ_911, hpe_912, hg_913, hg_914, hap_915, K_916⟩
                  have pr_917 : ∀ q_, own a_906 q_ → ¬ one m_11 q_ := apartNew hg_913 hO_21.own_lt
                  have pr_918 : ∀ q_, own a_906 q_ → ¬ own am q_ := apartNew hg_913 ho_22.own_lt
                  have pr_919 : ¬ own a_906 b_37 := notNew hg_913 hb_40.lt
                  have pr_920 : ∀ q_, own a_906 q_ → ¬ F_897 q_ := apartNew hg_913 hS_899.own_lt
                  have pg_921 : ∀ q_, own a_906 q_ → w.heap.size ≤ q_ := fun q_ h => Nat.le_trans K0.size (hg_913 q_ h)
                  have pr_922 : ∀ q_, mgsS ks_908 q_ → ¬ one m_11 q_ := apartNew hg_914 hO_21.own_lt
                  have pr_923 : ∀ q_, mgsS ks_908 q_ → ¬ own am q_ := apartNew hg_914 ho_22.own_lt
                  have pr_924 : ¬ mgsS ks_908 b_37 := notNew hg_914 hb_40.lt
                  have pr_925 : ∀ q_, mgsS ks_908 q_ → ¬ F_897 q_ := apartNew hg_914 hS_899.own_lt
                  have pg_926 : ∀ q_, mgsS ks_908 q_ → w.heap.size ≤ q_ := fun q_ h => Nat.le_trans K0.size (hg_914 q_ h)
                  clear hg_913 hg_914
                  have hkl_ks_908 : (ks_908.map Pk.k).length = (twiceL id pv ((o).a)).length := by have := congrArg List.length hpe_912; simpa using this
                  replace hO_21 := hO_21.ext K_916
                  replace ho_22 := ho_22.ext K_916
                  replace hb_40 := hb_40.ext K_916
                  replace hS_899 := hS_899.ext K_916
                  replace K0 := K0.ext K_916
                  refine RL.val (x_lenSl Try.underlying53 rfl) ?_
                  refine RL.val (x_moveI rfl) ?_
                  refine RL.val (x_neI rfl rfl) ?_
                  refine RL.val (x_moveB rfl) ?_
                  refine RL.gval (wantedF rfl rfl rfl rfl) (fun hg => (x_moveI rfl)) ?_
                  refine RL.gval (wantedF rfl rfl rfl rfl) (fun hg => (x_gtI (gvr hg) rfl)) ?_
                  refine RL.val (x_or rfl rfl rfl) ?_
                  refine RL.nil ?_
                  refine Run.cond rfl (fun hc124 => ?_) (fun hc124 => ?_)
                  · try simp only [br] at hc124
                    exact absurd hc124 (by omega)
                  · try simp only [br] at hc124
                    refine Run.skip ?_
                    refine Run.inBlock ?_
                    refine Run.region ?_
                    refine RL.val (litI (c := ((i + 1 : Nat) : Int)) (x_add rfl rfl (by omega) (by omega)) rfl) ?_
                    refine RL.val (x_moveI rfl) ?_
                    refine RL.nil ?_
                    have hP2 := made_twice (a := o.a) hP hT
                    refine ih1 (i + 1) _ _ ?_ (by omega)
                    refine ⟨F_897, twiceL id pv ((o).a), twiceN id pv ((o).a), tk, S, _, _, ⟨rfl, rfl, rfl, rfl, rfl, rfl, rfl, trivial⟩, K0, hS_899, hO_21, ho_22, pr_902, pr_903, pg_905, pr_26, pr_27, pr_28, ?_, ?_, ?_, ?_, ?_, ?_, ?_⟩
                    · omega
                    · omega
                    · omega
                    · omega
                    · exact hS
                    · exact hP2.1
                    · exact hP2.2
                · try simp only [br] at hc53
                  have hn := twiceN_le id pv o.a
                  have he := ((twice_len (id := id)).2 hc53).1
                  refine Run.skip ?_
                  refine Run.inBlock ?_
                  refine Run.seq ?_
                  have hok1 := hS_899.ok
                  have hlen1 := hok1.len
                  refine Run.region ?_
                  refine RL.val (x_moveP rfl) ?_
                  refine RL.st rfl <| St1.call (vals := [.pointer (some ⟨b_1, 0, none⟩)]) en15 rfl (packetsD hS_899 (by first | decide | assumption | omega)) ?_
                  rintro _ w_930 ⟨a_927, c_928, ks_929, rfl, ho_931, hQ_932, hpe_933, hg_934, hg_935, hap_936, K_937⟩
                  have pr_938 : ∀ q_, own a_927 q_ → ¬ one m_11 q_ := apartNew hg_934 hO_21.own_lt
                  have pr_939 : ∀ q_, own a_927 q_ → ¬ own am q_ := apartNew hg_934 ho_22.own_lt
                  have pr_940 : ¬ own a_927 b_37 := notNew hg_934 hb_40.lt
                  have pr_941 : ∀ q_, own a_927 q_ → ¬ F_897 q_ := apartNew hg_934 hS_899.own_lt
                  have pg_942 : ∀ q_, own a_927 q_ → w.heap.size ≤ q_ := fun q_ h => Nat.le_trans K0.size (hg_934 q_ h)
                  have pr_943 : ∀ q_, mgsS ks_929 q_ → ¬ one m_11 q_ := apartNew hg_935 hO_21.own_lt
                  have pr_944 : ∀ q_, mgsS ks_929 q_ → ¬ own am q_ := apartNew hg_935 ho_22.own_lt
                  have pr_945 : ¬ mgsS ks_929 b_37 := notNew hg_935 hb_40.lt
                  have pr_946 : ∀ q_, mgsS ks_929 q_ → ¬ F_897 q_ := apartNew hg_935 hS_899.own_lt
                  have pg_947 : ∀ q_, mgsS ks_929 q_ → w.heap.size ≤ q_ := fun q_ h => Nat.le_trans K0.size (hg_935 q_ h)
                  clear hg_934 hg_935
                  have hkl_ks_929 : (ks_929.map Pk.k).length = (twiceL id pv ((o).a)).length := by have := congrArg List.length hpe_933; simpa using this
                  replace hO_21 := hO_21.ext K_937
                  replace ho_22 := ho_22.ext K_937
                  replace hb_40 := hb_40.ext K_937
                  replace hS_899 := hS_899.ext K_937
                  replace K0 := K0.ext K_937
                  refine RL.val (x_lenSl Try.underlying53 rfl) ?_
                  refine RL.val (x_moveI rfl) ?_
                  refine RL.val (x_neI rfl rfl) ?_
                  refine RL.val (x_moveB rfl) ?_
                  refine RL.gval (wantedF rfl rfl rfl rfl) (fun hg => (x_moveI rfl)) ?_
                  refine RL.gval (wantedF rfl rfl rfl rfl) (fun hg => (x_gtI (gvr hg) rfl)) ?_
                  refine RL.val (x_or rfl rfl rfl) ?_
                  refine RL.nil ?_
                  refine Run.cond rfl (fun hc124 => ?_) (fun hc124 => ?_)
                  · try simp only [br] at hc124
                    exact absurd hc124 (by omega)
                  · try simp only [br] at hc124
                    refine Run.skip ?_
                    refine Run.inBlock ?_
                    refine Run.region ?_
                    refine RL.val (litI (c := ((i + 1 : Nat) : Int)) (x_add rfl rfl (by omega) (by omega)) rfl) ?_
                    refine RL.val (x_moveI rfl) ?_
                    refine RL.nil ?_
                    have hP2 := made_twice (a := o.a) hP hT
                    refine ih1 (i + 1) _ _ ?_ (by omega)
                    rw [← he]
                    refine ⟨F_897, twiceL id pv ((o).a), twiceN id pv ((o).a), tk, S, _, _, ⟨rfl, rfl, rfl, rfl, rfl, rfl, rfl, trivial⟩, K0, hS_899, hO_21, ho_22, pr_902, pr_903, pg_905, pr_26, pr_27, pr_28, ?_, ?_, ?_, ?_, ?_, ?_, ?_⟩
                    · omega
                    · omega
                    · omega
                    · omega
                    · exact hS
                    · exact hP2.1
                    · exact hP2.2
  · try simp only [br] at hc39
    refine Run.exit rfl ?_
    refine Run.seq ?_
    refine Run.region ?_
    refine RL.val (x_assignB rfl) ?_
    refine RL.nil ?_
    refine Run.ret1 (v := .bool (true)) Try.func3 rfl rfl ?_
    exact ⟨_, rfl, rfl, K0⟩

end Go.Proofs.Ytdlaoncjiolckaa
