/-
  Layer 22: WorldLives.
-/
import Derived.Test.YtdlaoncjiolckaaGreatRows
import Derived.Test.YtdlaoncjiolckaaGreatLv
namespace Go.Proofs.YtdlaoncjiolckaaGreat
attribute [local irreducible] St1 RL RA RT RT1 Run

theorem pk_drop {ks : List Pk} {k : Nat} {p : Pk} (hp : ks[k]? = some p) : ks.drop k = [] ++ p :: ks.drop (k + 1) := drop_at hp

theorem ty33 : Ty Tryz.prog 33 4 48 (.agg #[.int .i64 (0), .slice (none) (0) (0), .int .i64 (0), .int .i64 (0)]) true := ty_of (by kernel_rfl) (by kernel_rfl)
theorem en5 : Enters Tryz.prog 5 := enters_of Tryz.func5 rfl (by kernel_rfl)
theorem en6 : Enters Tryz.prog 6 := enters_of Tryz.func6 rfl (by kernel_rfl)
theorem en7 : Enters Tryz.prog 7 := enters_of Tryz.func7 rfl (by kernel_rfl)
theorem en9 : Enters Tryz.prog 9 := enters_of Tryz.func9 rfl (by kernel_rfl)
theorem en10 : Enters Tryz.prog 10 := enters_of Tryz.func10 rfl (by kernel_rfl)
theorem en11 : Enters Tryz.prog 11 := enters_of Tryz.func11 rfl (by kernel_rfl)

set_option maxRecDepth 100000 in
set_option maxHeartbeats 4000000 in
theorem law_lives (nodes : Int) (al : Option Addr) (xs : List DoC) (cl : Nat) (w : World) (hl : SlOf w al xs) (hxl : xs.length ≤ 1048576) (hq : ∀ o ∈ xs, DoOk w o) :
    Calls Tryz.prog 3 #[.int .i64 (nodes), .slice (al) (xs.length) (cl)] w (Ret (fun v w' => v = .bool true ∧ Ext w w')) := by
  obtain ⟨RP, hRPd⟩ : ∃ RP : MV → Six → Prop, RP = fun v s => SixR w s v ∧ VOk v := ⟨_, rfl⟩
  have hRP : ∀ v s, RP v s → SixR w s v ∧ VOk v := by subst hRPd; exact fun _ _ h => h
  have hRPi : ∀ v s, SixR w s v ∧ VOk v → RP v s := by subst hRPd; exact fun _ _ h => h
  clear hRPd
  refine calls_run (n := 102) Tryz.func3 rfl rfl rfl ?_
  refine Run.seq ?_
  refine Run.region ?_
  refine RL.val (x_assignB rfl) ?_
  refine RL.nil ?_
  refine Run.seq ?_
  by_cases hn : 1 ≤ nodes ∧ nodes ≤ 8
  · refine Run.region ?_
    refine RL.val (x_moveI rfl) ?_
    refine RL.st rfl <| St1.call (vals := [.int .i64 (nodes)]) en4 rfl (newD nodes _) ?_
    rintro _ w_3 (⟨hb_7, _, _⟩ | ⟨_, b_1, F_2, rfl, hS_4, hg_5, K_6⟩)
    · exact absurd hn hb_7
    have pg_8 : ∀ q_, F_2 q_ → w.heap.size ≤ q_ := fun q_ h => Nat.le_trans (Nat.le_refl _) (hg_5 q_ h)
    clear hg_5
    have K0 := (K_6 : Ext w _)
    refine RL.val (x_moveT rfl) ?_
    refine RL.val (x_extract rfl rfl) ?_
    refine RL.val (x_extract rfl rfl) ?_
    refine RL.val (x_assignP rfl) ?_
    refine RL.val (x_assignI rfl) ?_
    refine RL.nil ?_
    refine Run.seq ?_
    refine Run.region ?_
    refine RL.val (x_moveI rfl) ?_
    refine RL.st rfl <| St1.call (vals := [.int .i64 (nodes)]) en5 rfl (newRD RP nodes _) ?_
    rintro _ w_11 (⟨hb_15, _, _⟩ | ⟨_, r_9, F_10, rfl, hS_12, hg_13, K_14⟩)
    · exact absurd hn hb_15
    have pr_16 : ∀ q_, F_10 q_ → ¬ F_2 q_ := apartNew hg_13 hS_4.own_lt
    have pg_17 : ∀ q_, F_10 q_ → w.heap.size ≤ q_ := fun q_ h => Nat.le_trans K0.size (hg_13 q_ h)
    clear hg_13
    replace hS_4 := hS_4.ext K_14
    replace K0 := K0.ext K_14
    refine RL.val (x_moveT rfl) ?_
    refine RL.val (x_extract rfl rfl) ?_
    refine RL.val (x_extract rfl rfl) ?_
    refine RL.val (x_assignP rfl) ?_
    refine RL.val (x_assignI rfl) ?_
    refine RL.nil ?_
    refine Run.seq ?_
    refine Run.seq ?_
    refine Run.region ?_
    refine RL.val (x_moveI rfl) ?_
    refine RL.val (x_moveI rfl) ?_
    refine RL.val (litF (x_neI rfl rfl) (by decide)) ?_
    refine RL.val (x_moveB rfl) ?_
    refine RL.gst (wantedF1 rfl rfl rfl rfl) <| St1.val (x_moveP rfl) ?_
    refine RL.gst (wantedF1 rfl rfl rfl rfl) <| St1.val (litF (x_ptrNil Tryz.underlying23 rfl rfl) rfl) ?_
    refine RL.gst (wantedF1 rfl rfl rfl rfl) <| St1.val (x_moveP rfl) ?_
    refine RL.gst (wantedF1 rfl rfl rfl rfl) <| St1.val (litF (x_ptrNil Tryz.underlying27 rfl rfl) rfl) ?_
    refine RL.gst (wantedF1 rfl rfl rfl rfl) <| St1.val (litF (x_neB Tryz.underlying4 rfl rfl) rfl) ?_
    refine RL.val (x_orF rfl rfl rfl) ?_
    refine RL.nil ?_
    refine Run.condF rfl ?_
    refine Run.skip ?_
    refine Run.seq ?_
    refine Run.seq ?_
    refine Run.region ?_
    refine RL.val (x_moveP rfl) ?_
    refine RL.val (litF (x_ptrNil Tryz.underlying27 rfl rfl) rfl) ?_
    refine RL.nil ?_
    refine Run.condF rfl ?_
    refine Run.skip ?_
    refine Run.seq ?_
    refine Run.seq ?_
    refine Run.region ?_
    refine RL.val (x_moveSl rfl) ?_
    refine RL.val (x_lenSl Tryz.underlying22 rfl) ?_
    refine RL.val (x_moveI rfl) ?_
    refine RL.nil ?_
    refine Run.block ?_
    refine Run.loop (ι := Nat) (fun i ρ' w' => ∃ F1 : Nat → Prop, ∃ G1 : Nat → Prop, ∃ id : Int, ∃ now : Int, ∃ pv : List (Int × MV), ∃ cs : List LinkC, Holds ρ' [(5, .pointer (some ⟨b_1, 0, none⟩)), (7, .pointer (some ⟨r_9, 0, none⟩)), (36, .slice (al) (xs.length) (cl)), (37, .int .i64 (((xs.length : Nat) : Int))), (38, .int .i64 (((i : Nat) : Int)))] ∧ Ext w w' ∧ (WldAt w' b_1 F1 nodes id now pv cs) ∧ (RefAt RP w' r_9 G1 nodes id now pv cs) ∧ (∀ q_, F1 q_ → ¬ G1 q_) ∧ (∀ q_, F1 q_ → w.heap.size ≤ q_) ∧ (∀ q_, G1 q_ → w.heap.size ≤ q_) ∧ (i ≤ xs.length) ∧ (i ≤ 61) ∧ (id ≤ 513 * (i : Int)) ∧ (cs.length ≤ i)) (fun i => xs.length - i) 0 ?_ ?_
    · refine ⟨_, _, 0, 0, [], [], ⟨rfl, rfl, rfl, rfl, rfl, trivial⟩, K0, hS_4, hS_12, (fun q_ h1 h2 => pr_16 q_ h2 h1), pg_8, pg_17, ?_, ?_, ?_, ?_⟩
      · omega
      · omega
      · omega
      · exact Nat.le_refl _
    clear hS_4 hS_12
    clear K0
    rintro i ρ_25 w_18 ⟨F1, G1, id, now, pv, cs, hH_19, K0, hO_20, hO_21, pr_22, pr_23, pr_24, hi, hi2, hid, hcs⟩ ih1
    obtain ⟨ρ₀, rfl⟩ := hH_19.ex
    clear hH_19
    refine Run.seq ?_
    refine Run.region ?_
    refine RL.val (x_ltI rfl rfl) ?_
    refine RL.nil ?_
    refine Run.seq ?_
    refine Run.cond rfl (fun hc39 => ?_) (fun hc39 => ?_)
    · try simp only [br] at hc39
      refine Run.skip ?_
      refine Run.seq ?_
      refine Run.block ?_
      refine Run.seq ?_
      refine Run.region ?_
      refine RL.val (x_moveI rfl) ?_
      obtain ⟨b_26, o_27, o, hx, ha_28, hc_29⟩ := hl.el (i := i) (by first | omega | (simp only [List.length_set]; omega))
      have hc_29_lt := hc_29.lt
      replace hc_29 := hc_29.ext K0
      refine RL.val (x_idxN Tryz.underlying22 ty33 rfl rfl ha_28 (by first | omega | (simp only [List.length_set]; omega))) ?_
      refine RL.val (x_ldV (v := .agg #[.int .i64 ((o).op), .slice ((o).msgs.a) ((o).msgs.len) ((o).msgs.cap), .int .i64 ((o).a), .int .i64 ((o).b)]) (y := o) ty33 rfl hc_29 rfl) ?_
      refine RL.st rfl <| St1.alloc ty33 ?_
      intro b_32 w_33 hl_36 hb_35 K_34
      replace hb_35 : Blk w_33 b_32 [.int .i64 (0), .slice (none) (0) (0), .int .i64 (0), .int .i64 (0)] 33 := hb_35
      have ne_37 : b_26 < b_32 := Nat.lt_of_lt_of_le hc_29.lt hl_36
      have pr_38 : ¬ F1 b_32 := fun h => absurd (hO_20.own_lt _ h) (by omega)
      have pr_39 : ¬ G1 b_32 := fun h => absurd (hO_21.own_lt _ h) (by omega)
      have : w.heap.size ≤ b_32 := Nat.le_trans K0.size hl_36
      clear hl_36
      replace hO_20 := hO_20.ext K_34
      replace hO_21 := hO_21.ext K_34
      replace hc_29 := hc_29.ext K_34
      replace K0 := K0.ext K_34
      refine RL.val (x_assignI rfl) ?_
      refine RL.st rfl <| St1.store (v := .agg #[.int .i64 ((o).op), .slice ((o).msgs.a) ((o).msgs.len) ((o).msgs.cap), .int .i64 ((o).a), .int .i64 ((o).b)]) ty33 rfl rfl rfl (by simp [Value.cells, Value.oneCell']) hb_35 (by simp) ?_
      intro w_40 hb_35_ K_41
      have hb_35' : Blk w_40 b_32 [.int .i64 ((o).op), .slice ((o).msgs.a) ((o).msgs.len) ((o).msgs.cap), .int .i64 ((o).a), .int .i64 ((o).b)] 33 := hb_35_
      clear hb_35_
      replace hO_20 := hO_20.keepO K_41 (fun q_ hq_ eq_ => pr_38 (by simp only [one] at eq_; rw [← eq_]; exact hq_))
      replace hO_21 := hO_21.keepO K_41 (fun q_ hq_ eq_ => pr_39 (by simp only [one] at eq_; rw [← eq_]; exact hq_))
      replace hc_29 := hc_29.keep K_41 (by simp only [one]; omega)
      replace K0 := K0.new K_41 (fun x hx => by simp only [one] at hx; omega)
      replace hb_35 := hb_35'
      clear hb_35'
      refine RL.nil ?_
      obtain ⟨hop, ms, hmn, hml0, hml, hms⟩ := hq o (List.mem_of_getElem? hx)
      refine Run.seq ?_
      refine Run.seq ?_
      refine Run.region ?_
      refine RL.val (x_moveI rfl) ?_
      refine RL.val (x_gtI rfl rfl) ?_
      refine RL.nil ?_
      refine Run.cond rfl (fun hc44 => ?_) (fun hc44 => ?_)
      · try simp only [br] at hc44
        refine Run.exit rfl ?_
        refine Run.seq ?_
        obtain ⟨aL_42, cL_43, aC_44, lC_45, cC_46, us_47, hB_48, hFr_49, hl_50, hpv_51, hrp_52⟩ := hO_21.view
        have pr_53 : ¬ F1 r_9 := fun h_ => pr_22 _ h_ hFr_49
        have ne_54 : b_32 ≠ r_9 := fun e_ => pr_39 (e_ ▸ hFr_49)
        have hokp := hO_20.ok
        have hlenp := hokp.len
        refine Run.drawT [] (m := 11) (by kernel_rfl) rfl ?_
        intro w_55 K_56
        replace hO_20 := hO_20.ext K_56
        replace hO_21 := hO_21.ext K_56
        replace hb_35 := hb_35.ext K_56
        replace hl_50 := hl_50.ext K_56
        replace hB_48 := hB_48.ext K_56
        replace K0 := K0.ext K_56
        refine ⟨fun w' => Blk w' r_9 [.int .i64 (nodes), .slice (aL_42) ((us_47.map Pk.k).length) (cL_43), .int .i64 (id), .slice (aC_44) (lC_45) (cC_46), .int .i64 (now)] 39 ∧ True, ?_⟩
        refine RT.takeP (v := .pointer (some ⟨b_1, 0, none⟩)) 0 rfl (by kernel_rfl) (.inr ⟨hB_48, trivial⟩) (fun _ => (x_moveP rfl)) ?_
        refine RT.takeP (v := .pointer (some ⟨r_9, 0, none⟩)) 2 rfl (by kernel_rfl) (.inr ⟨hB_48, trivial⟩) (fun _ => (x_moveP rfl)) ?_
        refine RT.takeP (v := .pointer (some ⟨r_9, 0, none⟩)) 3 rfl (by kernel_rfl) (.inr ⟨hB_48, trivial⟩) (fun _ => (x_nilCheck rfl)) ?_
        refine RT.takeP (v := .pointer (some ⟨r_9, 1, none⟩)) 4 rfl (by kernel_rfl) (.inr ⟨hB_48, trivial⟩) (fun _ => (x_fld (o' := 1) Tryz.underlying39 rfl ty36 rfl rfl rfl)) ?_
        refine RT.take (v := .slice (aL_42) ((us_47.map Pk.k).length) (cL_43)) 5 rfl (by kernel_rfl) ⟨hB_48, trivial⟩ (by rintro _ ⟨hB_48, -⟩; exact (x_ld (v := .slice (aL_42) ((us_47.map Pk.k).length) (cL_43)) ty36 rfl rfl (hB_48.cl.field (i := 1) rfl))) ?_
        refine RT.st 1 rfl (by kernel_rfl) rfl <| St1.call (vals := [.pointer (some ⟨b_1, 0, none⟩)]) en10 rfl (packetsD hO_20 (by first | decide | assumption | omega)) ?_
        rintro _ w_60 ⟨a_57, c_58, ks_59, rfl, ho_61, hQ_62, hpe_63, hg_64, hg_65, hap_66, K_67⟩
        have pr_68 : ∀ q_, own a_57 q_ → ¬ F1 q_ := apartNew hg_64 hO_20.own_lt
        have pr_69 : ∀ q_, own a_57 q_ → ¬ G1 q_ := apartNew hg_64 hO_21.own_lt
        have pr_70 : ¬ own a_57 b_32 := notNew hg_64 hb_35.lt
        have pr_71 : ¬ own a_57 r_9 := notNew hg_64 hB_48.lt
        have pg_72 : ∀ q_, own a_57 q_ → w.heap.size ≤ q_ := fun q_ h => Nat.le_trans K0.size (hg_64 q_ h)
        have pr_73 : ∀ q_, mgsS ks_59 q_ → ¬ F1 q_ := apartNew hg_65 hO_20.own_lt
        have pr_74 : ∀ q_, mgsS ks_59 q_ → ¬ G1 q_ := apartNew hg_65 hO_21.own_lt
        have pr_75 : ¬ mgsS ks_59 b_32 := notNew hg_65 hb_35.lt
        have pr_76 : ¬ mgsS ks_59 r_9 := notNew hg_65 hB_48.lt
        have pg_77 : ∀ q_, mgsS ks_59 q_ → w.heap.size ≤ q_ := fun q_ h => Nat.le_trans K0.size (hg_65 q_ h)
        clear hg_64 hg_65
        have hkl_ks_59 : (ks_59.map Pk.k).length = (pv).length := by have := congrArg List.length hpe_63; simpa using this
        replace hO_20 := hO_20.ext K_67
        replace hO_21 := hO_21.ext K_67
        replace hb_35 := hb_35.ext K_67
        replace hl_50 := hl_50.ext K_67
        replace hB_48 := hB_48.ext K_67
        replace K0 := K0.ext K_67
        refine ⟨.inr ⟨hB_48, trivial⟩, ?_⟩
        refine RT.st 6 rfl (by kernel_rfl) rfl <| St1.call (vals := [.slice (a_57) ((ks_59.map Pk.k).length) (c_58), .slice (aL_42) ((us_47.map Pk.k).length) (cL_43)]) en11 rfl (samePacketsR _ ks_59 _ _ us_47 _ _ ho_61.sl hl_50 hQ_62.rd (rp_rd hRP hrp_52 K0) (by have h_ := congrArg List.length hpe_63; simp only [List.length_map] at h_; omega) (hpe_63.trans hpv_51.symm)) ?_
        rintro _ w_78 ⟨rfl, K_79⟩
        replace hO_20 := hO_20.ext K_79
        replace hO_21 := hO_21.ext K_79
        replace hb_35 := hb_35.ext K_79
        replace hl_50 := hl_50.ext K_79
        replace hB_48 := hB_48.ext K_79
        replace ho_61 := ho_61.ext K_79
        replace hQ_62 := hQ_62.ext K_79
        replace K0 := K0.ext K_79
        refine ⟨.inr ⟨hB_48, trivial⟩, ?_⟩
        refine RT.takeP (v := .bool (true)) 7 rfl (by kernel_rfl) (.inr ⟨hB_48, trivial⟩) (fun _ => (x_moveB rfl)) ?_
        refine RT.gst 8 rfl (by kernel_rfl) (wantedT1 rfl rfl rfl rfl) <| St1.call (vals := []) en6 rfl (awake_ _) ?_
        rintro _ w_80 ⟨rfl, K_81⟩
        replace hO_20 := hO_20.ext K_81
        replace hO_21 := hO_21.ext K_81
        replace hb_35 := hb_35.ext K_81
        replace hl_50 := hl_50.ext K_81
        replace hB_48 := hB_48.ext K_81
        replace ho_61 := ho_61.ext K_81
        replace hQ_62 := hQ_62.ext K_81
        replace K0 := K0.ext K_81
        refine ⟨.inr ⟨hB_48, trivial⟩, ?_⟩
        refine RT.takeP (v := .bool (true)) 9 rfl (by kernel_rfl) (.inr ⟨hB_48, trivial⟩) (fun _ => (x_andT rfl rfl rfl)) ?_
        refine RT.takeP (v := .bool (true)) 10 rfl (by kernel_rfl) (.inr ⟨hB_48, trivial⟩) (fun _ => (x_assignB rfl)) ?_
        refine RT.done (by kernel_rfl) ?_
        refine Run.ret1 (v := .bool (true)) Tryz.func3 rfl rfl ?_
        exact ⟨_, rfl, rfl, K0⟩
      · try simp only [br] at hc44
        refine Run.skip ?_
        refine Run.seq ?_
        refine Run.seq ?_
        refine Run.drawT [] (m := 20) (by kernel_rfl) rfl ?_
        intro w_82 K_83
        replace hO_20 := hO_20.ext K_83
        replace hO_21 := hO_21.ext K_83
        replace hb_35 := hb_35.ext K_83
        replace K0 := K0.ext K_83
        refine ⟨fun w' => Blk w' b_32 [.int .i64 ((o).op), .slice ((o).msgs.a) ((o).msgs.len) ((o).msgs.cap), .int .i64 ((o).a), .int .i64 ((o).b)] 33 ∧ True, ?_⟩
        refine RT.takeP (v := .pointer (some ⟨b_1, 0, none⟩)) 0 rfl (by kernel_rfl) (.inr ⟨hb_35, trivial⟩) (fun _ => (x_moveP rfl)) ?_
        refine RT.takeP (v := .pointer (some ⟨r_9, 0, none⟩)) 1 rfl (by kernel_rfl) (.inr ⟨hb_35, trivial⟩) (fun _ => (x_moveP rfl)) ?_
        refine RT.take (v := .agg #[.int .i64 ((o).op), .slice ((o).msgs.a) ((o).msgs.len) ((o).msgs.cap), .int .i64 ((o).a), .int .i64 ((o).b)]) 2 rfl (by kernel_rfl) ⟨hb_35, trivial⟩ (by rintro _ ⟨hb_35, -⟩; exact (litV (v' := .agg #[.int .i64 ((o).op), .slice ((o).msgs.a) ((o).msgs.len) ((o).msgs.cap), .int .i64 ((o).a), .int .i64 ((o).b)]) (x_lds (cs := #[.int .i64 ((o).op), .slice ((o).msgs.a) ((o).msgs.len) ((o).msgs.cap), .int .i64 ((o).a), .int .i64 ((o).b)]) ty33 rfl rfl (hb_35.cl.drop 0 4)) rfl)) ?_
        refine RT.st 3 rfl (by kernel_rfl) rfl <| St1.call (vals := [.pointer (some ⟨b_1, 0, none⟩), .pointer (some ⟨r_9, 0, none⟩), .agg #[.int .i64 ((o).op), .slice ((o).msgs.a) ((o).msgs.len) ((o).msgs.cap), .int .i64 ((o).a), .int .i64 ((o).b)]]) en7 rfl (does_ _ _ _ _ _ _ _ _ _ o ms w _ hO_20 hO_21 (fun q_ h1 h2 => pr_22 q_ h2 h1) hRP K0 pr_23 pr_24 hmn hml0 hml (fun m hm => hRPi _ _ (hms m hm)) (by omega) (by omega)) ?_
        rintro _ w_98 ⟨rfl, F_84, G_85, id_86, now_87, pv_88, cs_89, hW_90, hR_91, hm_92, hm_93, hap_94, hid_95, hcs_96, K_97⟩
        have pr_99 : ¬ dS F1 G1 b_32 := fun x_ => (ds_case _ x_).elim pr_38 (fun y_ => pr_39 y_)
        have pg_100 : ∀ q_, dS F1 G1 q_ → w.heap.size ≤ q_ := fun q_ x_ => (ds_case _ x_).elim (fun y_ => pr_23 q_ y_) (fun y_ => (fun y_ => pr_24 q_ y_) y_)
        have hm_101 : MovedS w_82 (dS F1 G1) F_84 := moved_of hm_92
        have pr_102 : ¬ F_84 b_32 := hm_101.not pr_99 hb_35.lt
        have pg_103 : ∀ q_, F_84 q_ → w.heap.size ≤ q_ := hm_101.ge pg_100 K0.size
        have hm_104 : MovedS w_82 (dS F1 G1) G_85 := moved_of hm_93
        have pr_105 : ¬ G_85 b_32 := hm_104.not pr_99 hb_35.lt
        have pg_106 : ∀ q_, G_85 q_ → w.heap.size ≤ q_ := hm_104.ge pg_100 K0.size
        replace hb_35 := hb_35.keep K_97 pr_99
        replace K0 := K0.new K_97 pg_100
        obtain ⟨aL_107, cL_108, aC_109, lC_110, cC_111, us_112, hB_113, hFr_114, hl_115, hpv_116, hrp_117⟩ := hR_91.view
        have ne_118 : b_32 ≠ r_9 := fun e_ => pr_105 (e_ ▸ hFr_114)
        have pr_119 : ¬ F_84 r_9 := fun h_ => hap_94 _ h_ hFr_114
        refine ⟨.inr ⟨hb_35, trivial⟩, ?_⟩
        refine RT.takeP (v := .bool (false)) 4 rfl (by kernel_rfl) (.inr ⟨hb_35, trivial⟩) (fun _ => (x_not (b := true) rfl)) ?_
        refine RT.takeP (v := .bool (false)) 5 rfl (by kernel_rfl) (.inr ⟨hb_35, trivial⟩) (fun _ => (x_moveB rfl)) ?_
        refine RT.gtakeP (v := .pointer (some ⟨b_1, 0, none⟩)) 6 rfl (by kernel_rfl) (.inr ⟨hb_35, trivial⟩) (wantedF1 rfl rfl rfl rfl) (fun hg _ => (x_moveP rfl)) ?_
        refine RT.gtakeP (v := .pointer (some ⟨r_9, 0, none⟩)) 8 rfl (by kernel_rfl) (.inr ⟨hb_35, trivial⟩) (wantedF1 rfl rfl rfl rfl) (fun hg _ => (x_moveP rfl)) ?_
        refine RT.gtakeP (v := .pointer (some ⟨r_9, 0, none⟩)) 9 rfl (by kernel_rfl) (.inr ⟨hb_35, trivial⟩) (wantedF1 rfl rfl rfl rfl) (fun hg _ => (x_nilCheck rfl)) ?_
        refine RT.gtakeP (v := .pointer (some ⟨r_9, 4, none⟩)) 10 rfl (by kernel_rfl) (.inr ⟨hb_35, trivial⟩) (wantedF1 rfl rfl rfl rfl) (fun hg _ => (x_fld (o' := 4) Tryz.underlying39 rfl ty3 rfl rfl rfl)) ?_
        refine RT.fork2 7 11 (by kernel_rfl) ?_ ?_
        · refine RT1.gst rfl (wantedF1 rfl rfl rfl rfl) <| St1.call (vals := [.pointer (some ⟨b_1, 0, none⟩)]) en8 rfl (nowD hW_90) ?_
          rintro _ w_120 ⟨rfl, K_121⟩
          replace hb_35 := hb_35.ext K_121
          replace hW_90 := hW_90.ext K_121
          replace hR_91 := hR_91.ext K_121
          replace hl_115 := hl_115.ext K_121
          replace hB_113 := hB_113.ext K_121
          replace K0 := K0.ext K_121
          refine ⟨.inr ⟨hb_35, trivial⟩, ?_⟩
          refine RT.gst 11 rfl (by kernel_rfl) (wantedF1 rfl rfl rfl rfl) <| St1.val (x_ld (v := .int .i64 (now_87)) ty3 rfl rfl (hB_113.cl.field (i := 4) rfl)) ?_
          refine ⟨.inr ⟨hb_35, trivial⟩, ?_⟩
          refine RT.gtakeP (v := .bool (false)) 12 rfl (by kernel_rfl) (.inr ⟨hb_35, trivial⟩) (wantedF1 rfl rfl rfl rfl) (fun hg _ => (litF (x_neI rfl rfl) (by simp))) ?_
          refine RT.takeP (v := .bool (false)) 13 rfl (by kernel_rfl) (.inr ⟨hb_35, trivial⟩) (fun _ => (x_orF rfl rfl rfl)) ?_
          refine RT.takeP (v := .bool (false)) 14 rfl (by kernel_rfl) (.inr ⟨hb_35, trivial⟩) (fun _ => (x_moveB rfl)) ?_
          refine RT.gtakeP (v := .pointer (some ⟨b_1, 0, none⟩)) 15 rfl (by kernel_rfl) (.inr ⟨hb_35, trivial⟩) (wantedF1 rfl rfl rfl rfl) (fun hg _ => (x_moveP rfl)) ?_
          refine RT.gtakeP (v := .pointer (some ⟨r_9, 0, none⟩)) 16 rfl (by kernel_rfl) (.inr ⟨hb_35, trivial⟩) (wantedF1 rfl rfl rfl rfl) (fun hg _ => (x_moveP rfl)) ?_
          refine RT.gst 17 rfl (by kernel_rfl) (wantedF1 rfl rfl rfl rfl) <| St1.call (vals := [.pointer (some ⟨b_1, 0, none⟩), .pointer (some ⟨r_9, 0, none⟩)]) en9 rfl (links_ _ _ _ _ _ _ _ _ _ _ _ _ _ hW_90 hR_91 (fun q_ h1 h2 => hap_94 q_ h2 h1)) ?_
          rintro _ w_122 ⟨rfl, K_123⟩
          replace hb_35 := hb_35.ext K_123
          replace hW_90 := hW_90.ext K_123
          replace hR_91 := hR_91.ext K_123
          replace hl_115 := hl_115.ext K_123
          replace hB_113 := hB_113.ext K_123
          replace K0 := K0.ext K_123
          refine ⟨.inr ⟨hb_35, trivial⟩, ?_⟩
          refine RT.gtakeP (v := .bool (false)) 18 rfl (by kernel_rfl) (.inr ⟨hb_35, trivial⟩) (wantedF1 rfl rfl rfl rfl) (fun hg _ => (x_not (b := true) rfl)) ?_
          refine RT.takeP (v := .bool (false)) 19 rfl (by kernel_rfl) (.inr ⟨hb_35, trivial⟩) (fun _ => (x_orF rfl rfl rfl)) ?_
          refine RT.done (by kernel_rfl) ?_
          refine Run.condF rfl ?_
          refine Run.skip ?_
          refine Run.seq ?_
          have hokp := hW_90.ok
          have hlenp := hokp.len
          refine Run.region ?_
          refine RL.val (x_moveP rfl) ?_
          refine RL.st rfl <| St1.call (vals := [.pointer (some ⟨b_1, 0, none⟩)]) en10 rfl (packetsD hW_90 (by first | decide | assumption | omega)) ?_
          rintro _ w_127 ⟨a_124, c_125, ks_126, rfl, ho_128, hQ_129, hpe_130, hg_131, hg_132, hap_133, K_134⟩
          have pr_135 : ¬ own a_124 b_32 := notNew hg_131 hb_35.lt
          have pr_136 : ∀ q_, own a_124 q_ → ¬ F_84 q_ := apartNew hg_131 hW_90.own_lt
          have pr_137 : ∀ q_, own a_124 q_ → ¬ G_85 q_ := apartNew hg_131 hR_91.own_lt
          have pr_138 : ¬ own a_124 r_9 := notNew hg_131 hB_113.lt
          have pg_139 : ∀ q_, own a_124 q_ → w.heap.size ≤ q_ := fun q_ h => Nat.le_trans K0.size (hg_131 q_ h)
          have pr_140 : ¬ mgsS ks_126 b_32 := notNew hg_132 hb_35.lt
          have pr_141 : ∀ q_, mgsS ks_126 q_ → ¬ F_84 q_ := apartNew hg_132 hW_90.own_lt
          have pr_142 : ∀ q_, mgsS ks_126 q_ → ¬ G_85 q_ := apartNew hg_132 hR_91.own_lt
          have pr_143 : ¬ mgsS ks_126 r_9 := notNew hg_132 hB_113.lt
          have pg_144 : ∀ q_, mgsS ks_126 q_ → w.heap.size ≤ q_ := fun q_ h => Nat.le_trans K0.size (hg_132 q_ h)
          clear hg_131 hg_132
          have hkl_ks_126 : (ks_126.map Pk.k).length = (pv_88).length := by have := congrArg List.length hpe_130; simpa using this
          replace hb_35 := hb_35.ext K_134
          replace hW_90 := hW_90.ext K_134
          replace hR_91 := hR_91.ext K_134
          replace hl_115 := hl_115.ext K_134
          replace hB_113 := hB_113.ext K_134
          replace K0 := K0.ext K_134
          refine RL.val (x_assignSl rfl) ?_
          refine RL.nil ?_
          refine Run.seq ?_
          refine Run.seq ?_
          refine Run.region ?_
          refine RL.val (x_moveSl rfl) ?_
          refine RL.val (x_moveP rfl) ?_
          refine RL.val (x_nilCheck rfl) ?_
          refine RL.val (x_fld (o' := 1) Tryz.underlying39 rfl ty36 rfl rfl rfl) ?_
          refine RL.val (x_ld (v := .slice (aL_107) ((us_112.map Pk.k).length) (cL_108)) ty36 rfl rfl (hB_113.cl.field (i := 1) rfl)) ?_
          refine RL.st rfl <| St1.call (vals := [.slice (a_124) ((ks_126.map Pk.k).length) (c_125), .slice (aL_107) ((us_112.map Pk.k).length) (cL_108)]) en11 rfl (samePacketsR _ ks_126 _ _ us_112 _ _ ho_128.sl hl_115 hQ_129.rd (rp_rd hRP hrp_117 K0) (by have h_ := congrArg List.length hpe_130; simp only [List.length_map] at h_; omega) (hpe_130.trans hpv_116.symm)) ?_
          rintro _ w_145 ⟨rfl, K_146⟩
          replace hb_35 := hb_35.ext K_146
          replace hW_90 := hW_90.ext K_146
          replace hR_91 := hR_91.ext K_146
          replace hl_115 := hl_115.ext K_146
          replace hB_113 := hB_113.ext K_146
          replace ho_128 := ho_128.ext K_146
          replace hQ_129 := hQ_129.ext K_146
          replace K0 := K0.ext K_146
          refine RL.val (x_not (b := true) rfl) ?_
          refine RL.nil ?_
          have hkk_ : (ks_126.map Pk.k).length = ks_126.length := List.length_map ..
          refine Run.condF rfl ?_
          refine Run.skip ?_
          refine Run.seq ?_
          refine Run.region ?_
          refine RL.val (x_moveSl rfl) ?_
          refine RL.val (x_lenSl Tryz.underlying36 rfl) ?_
          refine RL.val (x_moveI rfl) ?_
          refine RL.nil ?_
          refine Run.block ?_
          refine Run.loop (ι := Nat) (fun k ρ' w' => ∃ ys : List PacketC, Holds ρ' [(5, .pointer (some ⟨b_1, 0, none⟩)), (7, .pointer (some ⟨r_9, 0, none⟩)), (11, .slice (a_124) ((ks_126.map Pk.k).length) (c_125)), (36, .slice (al) (xs.length) (cl)), (37, .int .i64 (((xs.length : Nat) : Int))), (38, .int .i64 (((i : Nat) : Int))), (39, .bool (decide (((i : Nat) : Int) < ((xs.length : Nat) : Int)))), (75, .int .i64 ((((ks_126.map Pk.k).length : Nat) : Int))), (76, .int .i64 (((k : Nat) : Int)))] ∧ Ext w w' ∧ (Blk w' b_32 [.int .i64 ((o).op), .slice ((o).msgs.a) ((o).msgs.len) ((o).msgs.cap), .int .i64 ((o).a), .int .i64 ((o).b)] 33) ∧ (Blk w' r_9 [.int .i64 (nodes), .slice (aL_107) ((us_112.map Pk.k).length) (cL_108), .int .i64 (id_86), .slice (aC_109) (lC_110) (cC_111), .int .i64 (now_87)] 39) ∧ (WldAt w' b_1 F_84 nodes id_86 now_87 pv_88 cs_89) ∧ (RefAt RP w' r_9 G_85 nodes id_86 now_87 pv_88 cs_89) ∧ (MgsAt w' (ks_126.drop k)) ∧ (OwnSl w' 59 a_124 c_125 (ys)) ∧ (¬ mgsS (ks_126.drop k) b_32) ∧ (¬ mgsS (ks_126.drop k) r_9) ∧ (∀ q_, mgsS (ks_126.drop k) q_ → ¬ F_84 q_) ∧ (∀ q_, mgsS (ks_126.drop k) q_ → ¬ G_85 q_) ∧ (∀ q_, mgsS (ks_126.drop k) q_ → ¬ own a_124 q_) ∧ (∀ q_, mgsS (ks_126.drop k) q_ → w.heap.size ≤ q_) ∧ (¬ own a_124 b_32) ∧ (¬ own a_124 r_9) ∧ (∀ q_, own a_124 q_ → ¬ F_84 q_) ∧ (∀ q_, own a_124 q_ → ¬ G_85 q_) ∧ (∀ q_, own a_124 q_ → w.heap.size ≤ q_) ∧ (k ≤ ks_126.length) ∧ (ys.length = (ks_126.map Pk.k).length) ∧ (∀ j, k ≤ j → ys[j]? = (ks_126.map Pk.k)[j]?)) (fun k => ks_126.length - k) 0 ?_ ?_
          · refine ⟨ks_126.map Pk.k, ⟨rfl, rfl, rfl, rfl, rfl, rfl, rfl, rfl, rfl, trivial⟩, K0, hb_35, hB_113, hW_90, hR_91, hQ_129, ho_128, pr_140, pr_143, pr_141, pr_142, hap_133, pg_144, pr_135, pr_138, pr_136, pr_137, pg_139, ?_, ?_, ?_⟩
            · omega
            · rfl
            · exact fun j _ => rfl
          clear hb_35 hW_90 hR_91 hB_113 ho_128 hQ_129
          clear K0
          rintro k ρ_162 w_147 ⟨ys, hH_148, K0, hb_35, hB_113, hW_90, hR_91, hO_149, ho_150, pr_151, pr_152, pr_153, pr_154, pr_155, pr_156, pr_157, pr_158, pr_159, pr_160, pr_161, hk, hyl, hys⟩ ih2
          obtain ⟨ρ₀, rfl⟩ := hH_148.ex
          clear hH_148
          refine Run.seq ?_
          refine Run.region ?_
          refine RL.val (x_ltI rfl rfl) ?_
          refine RL.nil ?_
          refine Run.seq ?_
          refine Run.cond rfl (fun hc77 => ?_) (fun hc77 => ?_)
          · try simp only [br] at hc77
            refine Run.skip ?_
            refine Run.seq ?_
            refine Run.block ?_
            refine Run.seq ?_
            obtain ⟨x0, hx0⟩ : ∃ x, (ks_126.map Pk.k)[k]? = some x := ⟨_, List.getElem?_eq_getElem (by omega)⟩
            obtain ⟨p, hp, hxe_, hpv⟩ := pk_get hx0
            subst hxe_
            have hyi : ys[k]? = some (kC p.id p.v p.s) := (hys k (Nat.le_refl _)).trans hx0
            have hdr_163 := drop_at hp
            obtain ⟨hpm_164, hM_165, hRp_166⟩ := hO_149.open hdr_163
            replace hM_165 : MgsAt w_147 (ks_126.drop (k + 1)) := hM_165
            obtain ⟨hO_169, hA_167, hvk_168⟩ := hpm_164
            clear hO_149
            have pr_170 : ¬ ownS p.s b_32 := fun h_ => pr_151 ((mgs_p hdr_163) _ h_)
            have pr_171 : ¬ ownS p.s r_9 := fun h_ => pr_152 ((mgs_p hdr_163) _ h_)
            have pr_172 : ∀ q_, ownS p.s q_ → ¬ F_84 q_ := fun q_ h_ => pr_153 q_ ((mgs_p hdr_163) q_ h_)
            have pr_173 : ∀ q_, ownS p.s q_ → ¬ G_85 q_ := fun q_ h_ => pr_154 q_ ((mgs_p hdr_163) q_ h_)
            have pr_174 : ∀ q_, ownS p.s q_ → ¬ own a_124 q_ := fun q_ h_ => pr_155 q_ ((mgs_p hdr_163) q_ h_)
            have pr_175 : ¬ mgsS (ks_126.drop (k + 1)) b_32 := fun h_ => pr_151 ((mgs_r (l1 := []) hdr_163) _ h_)
            have pr_176 : ¬ mgsS (ks_126.drop (k + 1)) r_9 := fun h_ => pr_152 ((mgs_r (l1 := []) hdr_163) _ h_)
            have pr_177 : ∀ q_, mgsS (ks_126.drop (k + 1)) q_ → ¬ F_84 q_ := fun q_ h_ => pr_153 q_ ((mgs_r (l1 := []) hdr_163) q_ h_)
            have pr_178 : ∀ q_, mgsS (ks_126.drop (k + 1)) q_ → ¬ G_85 q_ := fun q_ h_ => pr_154 q_ ((mgs_r (l1 := []) hdr_163) q_ h_)
            have pr_179 : ∀ q_, mgsS (ks_126.drop (k + 1)) q_ → ¬ own a_124 q_ := fun q_ h_ => pr_155 q_ ((mgs_r (l1 := []) hdr_163) q_ h_)
            refine Run.region ?_
            refine RL.val (x_moveI rfl) ?_
            refine RL.val (x_assignI rfl) ?_
            refine RL.nil ?_
            refine Run.seq ?_
            refine Run.region ?_
            refine RL.val (x_moveSl rfl) ?_
            refine RL.val (x_moveI rfl) ?_
            obtain ⟨b_180, o_181, x_184, hx_185, ha_182, hc_183⟩ := ho_150.sl.el (i := k) (by first | omega | (simp only [List.length_set]; omega))
            obtain rfl : (kC p.id p.v p.s) = x_184 := Option.some.inj (hyi.symm.trans hx_185)
            refine RL.val (x_idxN Tryz.underlying36 ty59 rfl rfl ha_182 (by first | omega | (simp only [List.length_set]; omega))) ?_
            refine RL.val (x_fld (o' := o_181 + k * 18 + 1) Tryz.underlying59 rfl ty57 rfl rfl rfl) ?_
            refine RL.val (litV (v' := .agg #[.int .i64 (((mkC p.v p.s)).kind), .int .i64 (((mkC p.v p.s)).frm), .int .i64 (((mkC p.v p.s)).to), .int .i64 (((mkC p.v p.s)).req), .string (((mkC p.v p.s)).key), .slice (p.s.ea) (p.v.ent.length) (p.s.ec), .slice (p.s.ma) (p.v.mrk.length) (p.s.mc), .slice (p.s.ca) (p.v.cl.length) (p.s.cc), .int .i64 (((mkC p.v p.s)).owner), .int .i64 (((mkC p.v p.s)).part), .int .i64 (((mkC p.v p.s)).n), .int .i64 ((((mkC p.v p.s)).ring).parts), .int .i64 ((((mkC p.v p.s)).ring).copies), .int .i64 ((((mkC p.v p.s)).ring).spots), .slice (p.s.ba) (p.v.mem.length) (p.s.bc), .slice (p.s.pa) (p.v.pe.length) (p.s.pc), .slice (p.s.sa) (p.v.su.length) (p.s.sc)]) (x_lds (cs := #[.int .i64 ((((kC p.id p.v p.s)).msg).kind), .int .i64 ((((kC p.id p.v p.s)).msg).frm), .int .i64 ((((kC p.id p.v p.s)).msg).to), .int .i64 ((((kC p.id p.v p.s)).msg).req), .string ((((kC p.id p.v p.s)).msg).key), .slice (p.s.ea) (p.v.ent.length) (p.s.ec), .slice (p.s.ma) (p.v.mrk.length) (p.s.mc), .slice (p.s.ca) (p.v.cl.length) (p.s.cc), .int .i64 ((((kC p.id p.v p.s)).msg).owner), .int .i64 ((((kC p.id p.v p.s)).msg).part), .int .i64 ((((kC p.id p.v p.s)).msg).n), .int .i64 (((((kC p.id p.v p.s)).msg).ring).parts), .int .i64 (((((kC p.id p.v p.s)).msg).ring).copies), .int .i64 (((((kC p.id p.v p.s)).msg).ring).spots), .slice (p.s.ba) (p.v.mem.length) (p.s.bc), .slice (p.s.pa) (p.v.pe.length) (p.s.pc), .slice (p.s.sa) (p.v.su.length) (p.s.sc)]) ty57 rfl rfl (hc_183.drop 1 17)) rfl) ?_
            refine RL.st rfl <| St1.buildSlice ([(mkC p.v p.s)] : List MsgC) Tryz.underlying31 ty57 rfl rfl (by first | decide | (simp [Enc.size])) ?_
            intro b_186 w_187 hl_190 ho_189 K_188
            have pr_191 : ¬ own (some ⟨b_186, 0, none⟩) b_32 := notNew (ge_new hl_190) hb_35.lt
            have pr_192 : ¬ own (some ⟨b_186, 0, none⟩) r_9 := notNew (ge_new hl_190) hB_113.lt
            have pr_193 : ∀ q_, own (some ⟨b_186, 0, none⟩) q_ → ¬ F_84 q_ := apartNew (ge_new hl_190) hW_90.own_lt
            have pr_194 : ∀ q_, own (some ⟨b_186, 0, none⟩) q_ → ¬ G_85 q_ := apartNew (ge_new hl_190) hR_91.own_lt
            have pr_195 : ∀ q_, own (some ⟨b_186, 0, none⟩) q_ → ¬ own a_124 q_ := apartNew (ge_new hl_190) ho_150.own_lt
            have pr_196 : ∀ q_, own (some ⟨b_186, 0, none⟩) q_ → ¬ ownS p.s q_ := apartNew (ge_new hl_190) hO_169.own_lt
            have pr_197 : ∀ q_, own (some ⟨b_186, 0, none⟩) q_ → ¬ mgsS (ks_126.drop (k + 1)) q_ := apartNew (ge_new hl_190) hM_165.own_lt
            have pg_198 : ∀ q_, own (some ⟨b_186, 0, none⟩) q_ → w.heap.size ≤ q_ := fun q_ h => Nat.le_trans K0.size ((ge_new hl_190) q_ h)
            clear hl_190
            replace hb_35 := hb_35.ext K_188
            replace hB_113 := hB_113.ext K_188
            replace hW_90 := hW_90.ext K_188
            replace hR_91 := hR_91.ext K_188
            replace ho_150 := ho_150.ext K_188
            replace hO_169 := hO_169.ext K_188
            replace hM_165 := hM_165.ext K_188
            replace hc_183 := hc_183.ext K_188
            replace K0 := K0.ext K_188
            refine RL.st rfl <| St1.call (vals := [.slice (some ⟨b_186, 0, none⟩) (([(mkC p.v p.s)] : List MsgC).length) (([(mkC p.v p.s)] : List MsgC).length)]) en12 rfl (spoilMsgs_ _ [(⟨0, p.v, p.s⟩ : Pk)] _ _ (show OwnSl _ 57 _ _ ([(⟨0, p.v, p.s⟩ : Pk)].map Pk.c) from ho_189) (MgsAt.one hO_169 hA_167 hvk_168) (fun q_ h_ => (fun q_ h1 h2 => pr_196 q_ h2 h1) q_ (mgs_one q_ h_)) (by simp)) ?_
            rintro _ w_199 ⟨rfl, K_200⟩
            have pr_201 : ¬ spS (some ⟨b_186, 0, none⟩) [(⟨0, p.v, p.s⟩ : Pk)] b_32 := fun x_ => (sp_one _ x_).elim pr_191 (fun y_ => pr_170 y_)
            have pr_202 : ¬ spS (some ⟨b_186, 0, none⟩) [(⟨0, p.v, p.s⟩ : Pk)] r_9 := fun x_ => (sp_one _ x_).elim pr_192 (fun y_ => pr_171 y_)
            have pr_203 : ∀ q_, spS (some ⟨b_186, 0, none⟩) [(⟨0, p.v, p.s⟩ : Pk)] q_ → ¬ F_84 q_ := fun q_ x_ z_ => (sp_one _ x_).elim (fun y_ => pr_193 q_ y_ z_) (fun y_ => (fun y_ => pr_172 q_ y_ z_) y_)
            have pr_204 : ∀ q_, spS (some ⟨b_186, 0, none⟩) [(⟨0, p.v, p.s⟩ : Pk)] q_ → ¬ G_85 q_ := fun q_ x_ z_ => (sp_one _ x_).elim (fun y_ => pr_194 q_ y_ z_) (fun y_ => (fun y_ => pr_173 q_ y_ z_) y_)
            have pr_205 : ∀ q_, spS (some ⟨b_186, 0, none⟩) [(⟨0, p.v, p.s⟩ : Pk)] q_ → ¬ own a_124 q_ := fun q_ x_ z_ => (sp_one _ x_).elim (fun y_ => pr_195 q_ y_ z_) (fun y_ => (fun y_ => pr_174 q_ y_ z_) y_)
            have pr_206 : ∀ q_, spS (some ⟨b_186, 0, none⟩) [(⟨0, p.v, p.s⟩ : Pk)] q_ → ¬ mgsS (ks_126.drop (k + 1)) q_ := fun q_ x_ z_ => (sp_one _ x_).elim (fun y_ => pr_197 q_ y_ z_) (fun y_ => (fun y_ => (fun q_ h1 h2 => hRp_166 q_ h2 h1) q_ y_ z_) y_)
            have pg_207 : ∀ q_, spS (some ⟨b_186, 0, none⟩) [(⟨0, p.v, p.s⟩ : Pk)] q_ → w.heap.size ≤ q_ := fun q_ x_ => (sp_one _ x_).elim (fun y_ => pg_198 q_ y_) (fun y_ => (fun y_ => (fun q_ h_ => pr_156 q_ ((mgs_p hdr_163) q_ h_)) q_ y_) y_)
            replace hb_35 := hb_35.keep K_200 pr_201
            replace hB_113 := hB_113.keep K_200 pr_202
            replace hW_90 := hW_90.keepO K_200 (fun q_ h1 h2 => pr_203 q_ h2 h1)
            replace hR_91 := hR_91.keepO K_200 (fun q_ h1 h2 => pr_204 q_ h2 h1)
            replace ho_150 := ho_150.keepO K_200 (fun q_ h1 h2 => pr_205 q_ h2 h1)
            replace hM_165 := hM_165.keepO K_200 (fun q_ h1 h2 => pr_206 q_ h2 h1)
            replace hc_183 := hc_183.keep K_200 (fun h => (fun q_ h1 h2 => pr_205 q_ h2 h1) _ ((own_sub _) _ ha_182) h)
            replace K0 := K0.new K_200 pg_207
            refine RL.nil ?_
            refine Run.region ?_
            refine RL.val (x_moveSl rfl) ?_
            refine RL.val (x_moveI rfl) ?_
            obtain ⟨b_208, o_209, x_212, hx_213, ha_210, hc_211⟩ := ho_150.sl.el (i := k) (by first | omega | (simp only [List.length_set]; omega))
            obtain rfl : (kC p.id p.v p.s) = x_212 := Option.some.inj (hyi.symm.trans hx_213)
            refine RL.val (x_idxN Tryz.underlying36 ty59 rfl rfl ha_210 (by first | omega | (simp only [List.length_set]; omega))) ?_
            refine RL.val (x_fld (o' := o_209 + k * 18 + 0) Tryz.underlying59 rfl ty3 rfl rfl rfl) ?_
            refine RL.st rfl <| St1.storeEl (v := .int .i64 (-1)) (off := 0) (i := k) ({ (kC p.id p.v p.s) with id := -1 }) ty3 rfl rfl rfl (by simp [Value.cells, Value.oneCell']) ho_150 ha_210 hx_213 rfl (by decide) rfl ?_
            intro w_214 ho_216 K_215
            clear hc_211
            replace hb_35 := hb_35.keep K_215 pr_157
            replace hB_113 := hB_113.keep K_215 pr_158
            replace hW_90 := hW_90.keepO K_215 (fun q_ h1 h2 => pr_159 q_ h2 h1)
            replace hR_91 := hR_91.keepO K_215 (fun q_ h1 h2 => pr_160 q_ h2 h1)
            replace hM_165 := hM_165.keepO K_215 pr_179
            replace K0 := K0.new K_215 pr_161
            replace ho_150 := ho_216
            clear ho_216
            refine RL.nil ?_
            refine Run.inBlock ?_
            refine Run.region ?_
            refine RL.val (litI (c := ((k + 1 : Nat) : Int)) (x_add rfl rfl (by omega) (by omega)) rfl) ?_
            refine RL.val (x_moveI rfl) ?_
            refine RL.nil ?_
            refine ih2 (k + 1) _ _ ?_ (by omega)
            refine ⟨_, ⟨rfl, rfl, rfl, rfl, rfl, rfl, rfl, rfl, rfl, trivial⟩, K0, hb_35, hB_113, hW_90, hR_91, hM_165, ho_150, pr_175, pr_176, pr_177, pr_178, pr_179, (fun q_ h_ => pr_156 q_ ((mgs_r (l1 := []) hdr_163) q_ h_)), pr_157, pr_158, pr_159, pr_160, pr_161, ?_, ?_, ?_⟩
            · omega
            · rw [List.length_set]; exact hyl
            · exact fun j hj => by rw [List.getElem?_set_ne (by omega)]; exact hys j (by omega)
          · try simp only [br] at hc77
            refine Run.exit rfl ?_
            refine Run.inBlock ?_
            refine Run.region ?_
            refine RL.val (litI (c := ((i + 1 : Nat) : Int)) (x_add rfl rfl (by omega) (by omega)) rfl) ?_
            refine RL.val (x_moveI rfl) ?_
            refine RL.nil ?_
            refine ih1 (i + 1) _ _ ?_ (by omega)
            refine ⟨F_84, G_85, id_86, now_87, pv_88, cs_89, ⟨rfl, rfl, rfl, rfl, rfl, trivial⟩, K0, hW_90, hR_91, hap_94, pg_103, pg_106, ?_, ?_, ?_, ?_⟩
            · omega
            · omega
            · omega
            · omega
        · refine RT1.gst rfl (wantedF1 rfl rfl rfl rfl) <| St1.val (x_ld (v := .int .i64 (now_87)) ty3 rfl rfl (hB_113.cl.field (i := 4) rfl)) ?_
          refine ⟨.inr ⟨hb_35, trivial⟩, ?_⟩
          refine RT.gst 7 rfl (by kernel_rfl) (wantedF1 rfl rfl rfl rfl) <| St1.call (vals := [.pointer (some ⟨b_1, 0, none⟩)]) en8 rfl (nowD hW_90) ?_
          rintro _ w_217 ⟨rfl, K_218⟩
          replace hb_35 := hb_35.ext K_218
          replace hW_90 := hW_90.ext K_218
          replace hR_91 := hR_91.ext K_218
          replace hl_115 := hl_115.ext K_218
          replace hB_113 := hB_113.ext K_218
          replace K0 := K0.ext K_218
          refine ⟨.inr ⟨hb_35, trivial⟩, ?_⟩
          refine RT.gtakeP (v := .bool (false)) 12 rfl (by kernel_rfl) (.inr ⟨hb_35, trivial⟩) (wantedF1 rfl rfl rfl rfl) (fun hg _ => (litF (x_neI rfl rfl) (by simp))) ?_
          refine RT.takeP (v := .bool (false)) 13 rfl (by kernel_rfl) (.inr ⟨hb_35, trivial⟩) (fun _ => (x_orF rfl rfl rfl)) ?_
          refine RT.takeP (v := .bool (false)) 14 rfl (by kernel_rfl) (.inr ⟨hb_35, trivial⟩) (fun _ => (x_moveB rfl)) ?_
          refine RT.gtakeP (v := .pointer (some ⟨b_1, 0, none⟩)) 15 rfl (by kernel_rfl) (.inr ⟨hb_35, trivial⟩) (wantedF1 rfl rfl rfl rfl) (fun hg _ => (x_moveP rfl)) ?_
          refine RT.gtakeP (v := .pointer (some ⟨r_9, 0, none⟩)) 16 rfl (by kernel_rfl) (.inr ⟨hb_35, trivial⟩) (wantedF1 rfl rfl rfl rfl) (fun hg _ => (x_moveP rfl)) ?_
          refine RT.gst 17 rfl (by kernel_rfl) (wantedF1 rfl rfl rfl rfl) <| St1.call (vals := [.pointer (some ⟨b_1, 0, none⟩), .pointer (some ⟨r_9, 0, none⟩)]) en9 rfl (links_ _ _ _ _ _ _ _ _ _ _ _ _ _ hW_90 hR_91 (fun q_ h1 h2 => hap_94 q_ h2 h1)) ?_
          rintro _ w_219 ⟨rfl, K_220⟩
          replace hb_35 := hb_35.ext K_220
          replace hW_90 := hW_90.ext K_220
          replace hR_91 := hR_91.ext K_220
          replace hl_115 := hl_115.ext K_220
          replace hB_113 := hB_113.ext K_220
          replace K0 := K0.ext K_220
          refine ⟨.inr ⟨hb_35, trivial⟩, ?_⟩
          refine RT.gtakeP (v := .bool (false)) 18 rfl (by kernel_rfl) (.inr ⟨hb_35, trivial⟩) (wantedF1 rfl rfl rfl rfl) (fun hg _ => (x_not (b := true) rfl)) ?_
          refine RT.takeP (v := .bool (false)) 19 rfl (by kernel_rfl) (.inr ⟨hb_35, trivial⟩) (fun _ => (x_orF rfl rfl rfl)) ?_
          refine RT.done (by kernel_rfl) ?_
          refine Run.condF rfl ?_
          refine Run.skip ?_
          refine Run.seq ?_
          have hokp := hW_90.ok
          have hlenp := hokp.len
          refine Run.region ?_
          refine RL.val (x_moveP rfl) ?_
          refine RL.st rfl <| St1.call (vals := [.pointer (some ⟨b_1, 0, none⟩)]) en10 rfl (packetsD hW_90 (by first | decide | assumption | omega)) ?_
          rintro _ w_224 ⟨a_221, c_222, ks_223, rfl, ho_225, hQ_226, hpe_227, hg_228, hg_229, hap_230, K_231⟩
          have pr_232 : ¬ own a_221 b_32 := notNew hg_228 hb_35.lt
          have pr_233 : ∀ q_, own a_221 q_ → ¬ F_84 q_ := apartNew hg_228 hW_90.own_lt
          have pr_234 : ∀ q_, own a_221 q_ → ¬ G_85 q_ := apartNew hg_228 hR_91.own_lt
          have pr_235 : ¬ own a_221 r_9 := notNew hg_228 hB_113.lt
          have pg_236 : ∀ q_, own a_221 q_ → w.heap.size ≤ q_ := fun q_ h => Nat.le_trans K0.size (hg_228 q_ h)
          have pr_237 : ¬ mgsS ks_223 b_32 := notNew hg_229 hb_35.lt
          have pr_238 : ∀ q_, mgsS ks_223 q_ → ¬ F_84 q_ := apartNew hg_229 hW_90.own_lt
          have pr_239 : ∀ q_, mgsS ks_223 q_ → ¬ G_85 q_ := apartNew hg_229 hR_91.own_lt
          have pr_240 : ¬ mgsS ks_223 r_9 := notNew hg_229 hB_113.lt
          have pg_241 : ∀ q_, mgsS ks_223 q_ → w.heap.size ≤ q_ := fun q_ h => Nat.le_trans K0.size (hg_229 q_ h)
          clear hg_228 hg_229
          have hkl_ks_223 : (ks_223.map Pk.k).length = (pv_88).length := by have := congrArg List.length hpe_227; simpa using this
          replace hb_35 := hb_35.ext K_231
          replace hW_90 := hW_90.ext K_231
          replace hR_91 := hR_91.ext K_231
          replace hl_115 := hl_115.ext K_231
          replace hB_113 := hB_113.ext K_231
          replace K0 := K0.ext K_231
          refine RL.val (x_assignSl rfl) ?_
          refine RL.nil ?_
          refine Run.seq ?_
          refine Run.seq ?_
          refine Run.region ?_
          refine RL.val (x_moveSl rfl) ?_
          refine RL.val (x_moveP rfl) ?_
          refine RL.val (x_nilCheck rfl) ?_
          refine RL.val (x_fld (o' := 1) Tryz.underlying39 rfl ty36 rfl rfl rfl) ?_
          refine RL.val (x_ld (v := .slice (aL_107) ((us_112.map Pk.k).length) (cL_108)) ty36 rfl rfl (hB_113.cl.field (i := 1) rfl)) ?_
          refine RL.st rfl <| St1.call (vals := [.slice (a_221) ((ks_223.map Pk.k).length) (c_222), .slice (aL_107) ((us_112.map Pk.k).length) (cL_108)]) en11 rfl (samePacketsR _ ks_223 _ _ us_112 _ _ ho_225.sl hl_115 hQ_226.rd (rp_rd hRP hrp_117 K0) (by have h_ := congrArg List.length hpe_227; simp only [List.length_map] at h_; omega) (hpe_227.trans hpv_116.symm)) ?_
          rintro _ w_242 ⟨rfl, K_243⟩
          replace hb_35 := hb_35.ext K_243
          replace hW_90 := hW_90.ext K_243
          replace hR_91 := hR_91.ext K_243
          replace hl_115 := hl_115.ext K_243
          replace hB_113 := hB_113.ext K_243
          replace ho_225 := ho_225.ext K_243
          replace hQ_226 := hQ_226.ext K_243
          replace K0 := K0.ext K_243
          refine RL.val (x_not (b := true) rfl) ?_
          refine RL.nil ?_
          have hkk_ : (ks_223.map Pk.k).length = ks_223.length := List.length_map ..
          refine Run.condF rfl ?_
          refine Run.skip ?_
          refine Run.seq ?_
          refine Run.region ?_
          refine RL.val (x_moveSl rfl) ?_
          refine RL.val (x_lenSl Tryz.underlying36 rfl) ?_
          refine RL.val (x_moveI rfl) ?_
          refine RL.nil ?_
          refine Run.block ?_
          refine Run.loop (ι := Nat) (fun k ρ' w' => ∃ ys : List PacketC, Holds ρ' [(5, .pointer (some ⟨b_1, 0, none⟩)), (7, .pointer (some ⟨r_9, 0, none⟩)), (11, .slice (a_221) ((ks_223.map Pk.k).length) (c_222)), (36, .slice (al) (xs.length) (cl)), (37, .int .i64 (((xs.length : Nat) : Int))), (38, .int .i64 (((i : Nat) : Int))), (39, .bool (decide (((i : Nat) : Int) < ((xs.length : Nat) : Int)))), (75, .int .i64 ((((ks_223.map Pk.k).length : Nat) : Int))), (76, .int .i64 (((k : Nat) : Int)))] ∧ Ext w w' ∧ (Blk w' b_32 [.int .i64 ((o).op), .slice ((o).msgs.a) ((o).msgs.len) ((o).msgs.cap), .int .i64 ((o).a), .int .i64 ((o).b)] 33) ∧ (Blk w' r_9 [.int .i64 (nodes), .slice (aL_107) ((us_112.map Pk.k).length) (cL_108), .int .i64 (id_86), .slice (aC_109) (lC_110) (cC_111), .int .i64 (now_87)] 39) ∧ (WldAt w' b_1 F_84 nodes id_86 now_87 pv_88 cs_89) ∧ (RefAt RP w' r_9 G_85 nodes id_86 now_87 pv_88 cs_89) ∧ (MgsAt w' (ks_223.drop k)) ∧ (OwnSl w' 59 a_221 c_222 (ys)) ∧ (¬ mgsS (ks_223.drop k) b_32) ∧ (¬ mgsS (ks_223.drop k) r_9) ∧ (∀ q_, mgsS (ks_223.drop k) q_ → ¬ F_84 q_) ∧ (∀ q_, mgsS (ks_223.drop k) q_ → ¬ G_85 q_) ∧ (∀ q_, mgsS (ks_223.drop k) q_ → ¬ own a_221 q_) ∧ (∀ q_, mgsS (ks_223.drop k) q_ → w.heap.size ≤ q_) ∧ (¬ own a_221 b_32) ∧ (¬ own a_221 r_9) ∧ (∀ q_, own a_221 q_ → ¬ F_84 q_) ∧ (∀ q_, own a_221 q_ → ¬ G_85 q_) ∧ (∀ q_, own a_221 q_ → w.heap.size ≤ q_) ∧ (k ≤ ks_223.length) ∧ (ys.length = (ks_223.map Pk.k).length) ∧ (∀ j, k ≤ j → ys[j]? = (ks_223.map Pk.k)[j]?)) (fun k => ks_223.length - k) 0 ?_ ?_
          · refine ⟨ks_223.map Pk.k, ⟨rfl, rfl, rfl, rfl, rfl, rfl, rfl, rfl, rfl, trivial⟩, K0, hb_35, hB_113, hW_90, hR_91, hQ_226, ho_225, pr_237, pr_240, pr_238, pr_239, hap_230, pg_241, pr_232, pr_235, pr_233, pr_234, pg_236, ?_, ?_, ?_⟩
            · omega
            · rfl
            · exact fun j _ => rfl
          clear hb_35 hW_90 hR_91 hB_113 ho_225 hQ_226
          clear K0
          rintro k ρ_259 w_244 ⟨ys, hH_245, K0, hb_35, hB_113, hW_90, hR_91, hO_246, ho_247, pr_248, pr_249, pr_250, pr_251, pr_252, pr_253, pr_254, pr_255, pr_256, pr_257, pr_258, hk, hyl, hys⟩ ih3
          obtain ⟨ρ₀, rfl⟩ := hH_245.ex
          clear hH_245
          refine Run.seq ?_
          refine Run.region ?_
          refine RL.val (x_ltI rfl rfl) ?_
          refine RL.nil ?_
          refine Run.seq ?_
          refine Run.cond rfl (fun hc77 => ?_) (fun hc77 => ?_)
          · try simp only [br] at hc77
            refine Run.skip ?_
            refine Run.seq ?_
            refine Run.block ?_
            refine Run.seq ?_
            obtain ⟨x0, hx0⟩ : ∃ x, (ks_223.map Pk.k)[k]? = some x := ⟨_, List.getElem?_eq_getElem (by omega)⟩
            obtain ⟨p, hp, hxe_, hpv⟩ := pk_get hx0
            subst hxe_
            have hyi : ys[k]? = some (kC p.id p.v p.s) := (hys k (Nat.le_refl _)).trans hx0
            have hdr_260 := drop_at hp
            obtain ⟨hpm_261, hM_262, hRp_263⟩ := hO_246.open hdr_260
            replace hM_262 : MgsAt w_244 (ks_223.drop (k + 1)) := hM_262
            obtain ⟨hO_266, hA_264, hvk_265⟩ := hpm_261
            clear hO_246
            have pr_267 : ¬ ownS p.s b_32 := fun h_ => pr_248 ((mgs_p hdr_260) _ h_)
            have pr_268 : ¬ ownS p.s r_9 := fun h_ => pr_249 ((mgs_p hdr_260) _ h_)
            have pr_269 : ∀ q_, ownS p.s q_ → ¬ F_84 q_ := fun q_ h_ => pr_250 q_ ((mgs_p hdr_260) q_ h_)
            have pr_270 : ∀ q_, ownS p.s q_ → ¬ G_85 q_ := fun q_ h_ => pr_251 q_ ((mgs_p hdr_260) q_ h_)
            have pr_271 : ∀ q_, ownS p.s q_ → ¬ own a_221 q_ := fun q_ h_ => pr_252 q_ ((mgs_p hdr_260) q_ h_)
            have pr_272 : ¬ mgsS (ks_223.drop (k + 1)) b_32 := fun h_ => pr_248 ((mgs_r (l1 := []) hdr_260) _ h_)
            have pr_273 : ¬ mgsS (ks_223.drop (k + 1)) r_9 := fun h_ => pr_249 ((mgs_r (l1 := []) hdr_260) _ h_)
            have pr_274 : ∀ q_, mgsS (ks_223.drop (k + 1)) q_ → ¬ F_84 q_ := fun q_ h_ => pr_250 q_ ((mgs_r (l1 := []) hdr_260) q_ h_)
            have pr_275 : ∀ q_, mgsS (ks_223.drop (k + 1)) q_ → ¬ G_85 q_ := fun q_ h_ => pr_251 q_ ((mgs_r (l1 := []) hdr_260) q_ h_)
            have pr_276 : ∀ q_, mgsS (ks_223.drop (k + 1)) q_ → ¬ own a_221 q_ := fun q_ h_ => pr_252 q_ ((mgs_r (l1 := []) hdr_260) q_ h_)
            refine Run.region ?_
            refine RL.val (x_moveI rfl) ?_
            refine RL.val (x_assignI rfl) ?_
            refine RL.nil ?_
            refine Run.seq ?_
            refine Run.region ?_
            refine RL.val (x_moveSl rfl) ?_
            refine RL.val (x_moveI rfl) ?_
            obtain ⟨b_277, o_278, x_281, hx_282, ha_279, hc_280⟩ := ho_247.sl.el (i := k) (by first | omega | (simp only [List.length_set]; omega))
            obtain rfl : (kC p.id p.v p.s) = x_281 := Option.some.inj (hyi.symm.trans hx_282)
            refine RL.val (x_idxN Tryz.underlying36 ty59 rfl rfl ha_279 (by first | omega | (simp only [List.length_set]; omega))) ?_
            refine RL.val (x_fld (o' := o_278 + k * 18 + 1) Tryz.underlying59 rfl ty57 rfl rfl rfl) ?_
            refine RL.val (litV (v' := .agg #[.int .i64 (((mkC p.v p.s)).kind), .int .i64 (((mkC p.v p.s)).frm), .int .i64 (((mkC p.v p.s)).to), .int .i64 (((mkC p.v p.s)).req), .string (((mkC p.v p.s)).key), .slice (p.s.ea) (p.v.ent.length) (p.s.ec), .slice (p.s.ma) (p.v.mrk.length) (p.s.mc), .slice (p.s.ca) (p.v.cl.length) (p.s.cc), .int .i64 (((mkC p.v p.s)).owner), .int .i64 (((mkC p.v p.s)).part), .int .i64 (((mkC p.v p.s)).n), .int .i64 ((((mkC p.v p.s)).ring).parts), .int .i64 ((((mkC p.v p.s)).ring).copies), .int .i64 ((((mkC p.v p.s)).ring).spots), .slice (p.s.ba) (p.v.mem.length) (p.s.bc), .slice (p.s.pa) (p.v.pe.length) (p.s.pc), .slice (p.s.sa) (p.v.su.length) (p.s.sc)]) (x_lds (cs := #[.int .i64 ((((kC p.id p.v p.s)).msg).kind), .int .i64 ((((kC p.id p.v p.s)).msg).frm), .int .i64 ((((kC p.id p.v p.s)).msg).to), .int .i64 ((((kC p.id p.v p.s)).msg).req), .string ((((kC p.id p.v p.s)).msg).key), .slice (p.s.ea) (p.v.ent.length) (p.s.ec), .slice (p.s.ma) (p.v.mrk.length) (p.s.mc), .slice (p.s.ca) (p.v.cl.length) (p.s.cc), .int .i64 ((((kC p.id p.v p.s)).msg).owner), .int .i64 ((((kC p.id p.v p.s)).msg).part), .int .i64 ((((kC p.id p.v p.s)).msg).n), .int .i64 (((((kC p.id p.v p.s)).msg).ring).parts), .int .i64 (((((kC p.id p.v p.s)).msg).ring).copies), .int .i64 (((((kC p.id p.v p.s)).msg).ring).spots), .slice (p.s.ba) (p.v.mem.length) (p.s.bc), .slice (p.s.pa) (p.v.pe.length) (p.s.pc), .slice (p.s.sa) (p.v.su.length) (p.s.sc)]) ty57 rfl rfl (hc_280.drop 1 17)) rfl) ?_
            refine RL.st rfl <| St1.buildSlice ([(mkC p.v p.s)] : List MsgC) Tryz.underlying31 ty57 rfl rfl (by first | decide | (simp [Enc.size])) ?_
            intro b_283 w_284 hl_287 ho_286 K_285
            have pr_288 : ¬ own (some ⟨b_283, 0, none⟩) b_32 := notNew (ge_new hl_287) hb_35.lt
            have pr_289 : ¬ own (some ⟨b_283, 0, none⟩) r_9 := notNew (ge_new hl_287) hB_113.lt
            have pr_290 : ∀ q_, own (some ⟨b_283, 0, none⟩) q_ → ¬ F_84 q_ := apartNew (ge_new hl_287) hW_90.own_lt
            have pr_291 : ∀ q_, own (some ⟨b_283, 0, none⟩) q_ → ¬ G_85 q_ := apartNew (ge_new hl_287) hR_91.own_lt
            have pr_292 : ∀ q_, own (some ⟨b_283, 0, none⟩) q_ → ¬ own a_221 q_ := apartNew (ge_new hl_287) ho_247.own_lt
            have pr_293 : ∀ q_, own (some ⟨b_283, 0, none⟩) q_ → ¬ ownS p.s q_ := apartNew (ge_new hl_287) hO_266.own_lt
            have pr_294 : ∀ q_, own (some ⟨b_283, 0, none⟩) q_ → ¬ mgsS (ks_223.drop (k + 1)) q_ := apartNew (ge_new hl_287) hM_262.own_lt
            have pg_295 : ∀ q_, own (some ⟨b_283, 0, none⟩) q_ → w.heap.size ≤ q_ := fun q_ h => Nat.le_trans K0.size ((ge_new hl_287) q_ h)
            clear hl_287
            replace hb_35 := hb_35.ext K_285
            replace hB_113 := hB_113.ext K_285
            replace hW_90 := hW_90.ext K_285
            replace hR_91 := hR_91.ext K_285
            replace ho_247 := ho_247.ext K_285
            replace hO_266 := hO_266.ext K_285
            replace hM_262 := hM_262.ext K_285
            replace hc_280 := hc_280.ext K_285
            replace K0 := K0.ext K_285
            refine RL.st rfl <| St1.call (vals := [.slice (some ⟨b_283, 0, none⟩) (([(mkC p.v p.s)] : List MsgC).length) (([(mkC p.v p.s)] : List MsgC).length)]) en12 rfl (spoilMsgs_ _ [(⟨0, p.v, p.s⟩ : Pk)] _ _ (show OwnSl _ 57 _ _ ([(⟨0, p.v, p.s⟩ : Pk)].map Pk.c) from ho_286) (MgsAt.one hO_266 hA_264 hvk_265) (fun q_ h_ => (fun q_ h1 h2 => pr_293 q_ h2 h1) q_ (mgs_one q_ h_)) (by simp)) ?_
            rintro _ w_296 ⟨rfl, K_297⟩
            have pr_298 : ¬ spS (some ⟨b_283, 0, none⟩) [(⟨0, p.v, p.s⟩ : Pk)] b_32 := fun x_ => (sp_one _ x_).elim pr_288 (fun y_ => pr_267 y_)
            have pr_299 : ¬ spS (some ⟨b_283, 0, none⟩) [(⟨0, p.v, p.s⟩ : Pk)] r_9 := fun x_ => (sp_one _ x_).elim pr_289 (fun y_ => pr_268 y_)
            have pr_300 : ∀ q_, spS (some ⟨b_283, 0, none⟩) [(⟨0, p.v, p.s⟩ : Pk)] q_ → ¬ F_84 q_ := fun q_ x_ z_ => (sp_one _ x_).elim (fun y_ => pr_290 q_ y_ z_) (fun y_ => (fun y_ => pr_269 q_ y_ z_) y_)
            have pr_301 : ∀ q_, spS (some ⟨b_283, 0, none⟩) [(⟨0, p.v, p.s⟩ : Pk)] q_ → ¬ G_85 q_ := fun q_ x_ z_ => (sp_one _ x_).elim (fun y_ => pr_291 q_ y_ z_) (fun y_ => (fun y_ => pr_270 q_ y_ z_) y_)
            have pr_302 : ∀ q_, spS (some ⟨b_283, 0, none⟩) [(⟨0, p.v, p.s⟩ : Pk)] q_ → ¬ own a_221 q_ := fun q_ x_ z_ => (sp_one _ x_).elim (fun y_ => pr_292 q_ y_ z_) (fun y_ => (fun y_ => pr_271 q_ y_ z_) y_)
            have pr_303 : ∀ q_, spS (some ⟨b_283, 0, none⟩) [(⟨0, p.v, p.s⟩ : Pk)] q_ → ¬ mgsS (ks_223.drop (k + 1)) q_ := fun q_ x_ z_ => (sp_one _ x_).elim (fun y_ => pr_294 q_ y_ z_) (fun y_ => (fun y_ => (fun q_ h1 h2 => hRp_263 q_ h2 h1) q_ y_ z_) y_)
            have pg_304 : ∀ q_, spS (some ⟨b_283, 0, none⟩) [(⟨0, p.v, p.s⟩ : Pk)] q_ → w.heap.size ≤ q_ := fun q_ x_ => (sp_one _ x_).elim (fun y_ => pg_295 q_ y_) (fun y_ => (fun y_ => (fun q_ h_ => pr_253 q_ ((mgs_p hdr_260) q_ h_)) q_ y_) y_)
            replace hb_35 := hb_35.keep K_297 pr_298
            replace hB_113 := hB_113.keep K_297 pr_299
            replace hW_90 := hW_90.keepO K_297 (fun q_ h1 h2 => pr_300 q_ h2 h1)
            replace hR_91 := hR_91.keepO K_297 (fun q_ h1 h2 => pr_301 q_ h2 h1)
            replace ho_247 := ho_247.keepO K_297 (fun q_ h1 h2 => pr_302 q_ h2 h1)
            replace hM_262 := hM_262.keepO K_297 (fun q_ h1 h2 => pr_303 q_ h2 h1)
            replace hc_280 := hc_280.keep K_297 (fun h => (fun q_ h1 h2 => pr_302 q_ h2 h1) _ ((own_sub _) _ ha_279) h)
            replace K0 := K0.new K_297 pg_304
            refine RL.nil ?_
            refine Run.region ?_
            refine RL.val (x_moveSl rfl) ?_
            refine RL.val (x_moveI rfl) ?_
            obtain ⟨b_305, o_306, x_309, hx_310, ha_307, hc_308⟩ := ho_247.sl.el (i := k) (by first | omega | (simp only [List.length_set]; omega))
            obtain rfl : (kC p.id p.v p.s) = x_309 := Option.some.inj (hyi.symm.trans hx_310)
            refine RL.val (x_idxN Tryz.underlying36 ty59 rfl rfl ha_307 (by first | omega | (simp only [List.length_set]; omega))) ?_
            refine RL.val (x_fld (o' := o_306 + k * 18 + 0) Tryz.underlying59 rfl ty3 rfl rfl rfl) ?_
            refine RL.st rfl <| St1.storeEl (v := .int .i64 (-1)) (off := 0) (i := k) ({ (kC p.id p.v p.s) with id := -1 }) ty3 rfl rfl rfl (by simp [Value.cells, Value.oneCell']) ho_247 ha_307 hx_310 rfl (by decide) rfl ?_
            intro w_311 ho_313 K_312
            clear hc_308
            replace hb_35 := hb_35.keep K_312 pr_254
            replace hB_113 := hB_113.keep K_312 pr_255
            replace hW_90 := hW_90.keepO K_312 (fun q_ h1 h2 => pr_256 q_ h2 h1)
            replace hR_91 := hR_91.keepO K_312 (fun q_ h1 h2 => pr_257 q_ h2 h1)
            replace hM_262 := hM_262.keepO K_312 pr_276
            replace K0 := K0.new K_312 pr_258
            replace ho_247 := ho_313
            clear ho_313
            refine RL.nil ?_
            refine Run.inBlock ?_
            refine Run.region ?_
            refine RL.val (litI (c := ((k + 1 : Nat) : Int)) (x_add rfl rfl (by omega) (by omega)) rfl) ?_
            refine RL.val (x_moveI rfl) ?_
            refine RL.nil ?_
            refine ih3 (k + 1) _ _ ?_ (by omega)
            refine ⟨_, ⟨rfl, rfl, rfl, rfl, rfl, rfl, rfl, rfl, rfl, trivial⟩, K0, hb_35, hB_113, hW_90, hR_91, hM_262, ho_247, pr_272, pr_273, pr_274, pr_275, pr_276, (fun q_ h_ => pr_253 q_ ((mgs_r (l1 := []) hdr_260) q_ h_)), pr_254, pr_255, pr_256, pr_257, pr_258, ?_, ?_, ?_⟩
            · omega
            · rw [List.length_set]; exact hyl
            · exact fun j hj => by rw [List.getElem?_set_ne (by omega)]; exact hys j (by omega)
          · try simp only [br] at hc77
            refine Run.exit rfl ?_
            refine Run.inBlock ?_
            refine Run.region ?_
            refine RL.val (litI (c := ((i + 1 : Nat) : Int)) (x_add rfl rfl (by omega) (by omega)) rfl) ?_
            refine RL.val (x_moveI rfl) ?_
            refine RL.nil ?_
            refine ih1 (i + 1) _ _ ?_ (by omega)
            refine ⟨F_84, G_85, id_86, now_87, pv_88, cs_89, ⟨rfl, rfl, rfl, rfl, rfl, trivial⟩, K0, hW_90, hR_91, hap_94, pg_103, pg_106, ?_, ?_, ?_, ?_⟩
            · omega
            · omega
            · omega
            · omega
    · try simp only [br] at hc39
      refine Run.exit rfl ?_
      refine Run.seq ?_
      obtain ⟨aL_314, cL_315, aC_316, lC_317, cC_318, us_319, hB_320, hFr_321, hl_322, hpv_323, hrp_324⟩ := hO_21.view
      have pr_325 : ¬ F1 r_9 := fun h_ => pr_22 _ h_ hFr_321
      have hokp := hO_20.ok
      have hlenp := hokp.len
      refine Run.drawT [] (m := 11) (by kernel_rfl) rfl ?_
      intro w_326 K_327
      replace hO_20 := hO_20.ext K_327
      replace hO_21 := hO_21.ext K_327
      replace hl_322 := hl_322.ext K_327
      replace hB_320 := hB_320.ext K_327
      replace K0 := K0.ext K_327
      refine ⟨fun w' => Blk w' r_9 [.int .i64 (nodes), .slice (aL_314) ((us_319.map Pk.k).length) (cL_315), .int .i64 (id), .slice (aC_316) (lC_317) (cC_318), .int .i64 (now)] 39 ∧ True, ?_⟩
      refine RT.takeP (v := .pointer (some ⟨b_1, 0, none⟩)) 0 rfl (by kernel_rfl) (.inr ⟨hB_320, trivial⟩) (fun _ => (x_moveP rfl)) ?_
      refine RT.takeP (v := .pointer (some ⟨r_9, 0, none⟩)) 2 rfl (by kernel_rfl) (.inr ⟨hB_320, trivial⟩) (fun _ => (x_moveP rfl)) ?_
      refine RT.takeP (v := .pointer (some ⟨r_9, 0, none⟩)) 3 rfl (by kernel_rfl) (.inr ⟨hB_320, trivial⟩) (fun _ => (x_nilCheck rfl)) ?_
      refine RT.takeP (v := .pointer (some ⟨r_9, 1, none⟩)) 4 rfl (by kernel_rfl) (.inr ⟨hB_320, trivial⟩) (fun _ => (x_fld (o' := 1) Tryz.underlying39 rfl ty36 rfl rfl rfl)) ?_
      refine RT.take (v := .slice (aL_314) ((us_319.map Pk.k).length) (cL_315)) 5 rfl (by kernel_rfl) ⟨hB_320, trivial⟩ (by rintro _ ⟨hB_320, -⟩; exact (x_ld (v := .slice (aL_314) ((us_319.map Pk.k).length) (cL_315)) ty36 rfl rfl (hB_320.cl.field (i := 1) rfl))) ?_
      refine RT.st 1 rfl (by kernel_rfl) rfl <| St1.call (vals := [.pointer (some ⟨b_1, 0, none⟩)]) en10 rfl (packetsD hO_20 (by first | decide | assumption | omega)) ?_
      rintro _ w_331 ⟨a_328, c_329, ks_330, rfl, ho_332, hQ_333, hpe_334, hg_335, hg_336, hap_337, K_338⟩
      have pr_339 : ∀ q_, own a_328 q_ → ¬ F1 q_ := apartNew hg_335 hO_20.own_lt
      have pr_340 : ∀ q_, own a_328 q_ → ¬ G1 q_ := apartNew hg_335 hO_21.own_lt
      have pr_341 : ¬ own a_328 r_9 := notNew hg_335 hB_320.lt
      have pg_342 : ∀ q_, own a_328 q_ → w.heap.size ≤ q_ := fun q_ h => Nat.le_trans K0.size (hg_335 q_ h)
      have pr_343 : ∀ q_, mgsS ks_330 q_ → ¬ F1 q_ := apartNew hg_336 hO_20.own_lt
      have pr_344 : ∀ q_, mgsS ks_330 q_ → ¬ G1 q_ := apartNew hg_336 hO_21.own_lt
      have pr_345 : ¬ mgsS ks_330 r_9 := notNew hg_336 hB_320.lt
      have pg_346 : ∀ q_, mgsS ks_330 q_ → w.heap.size ≤ q_ := fun q_ h => Nat.le_trans K0.size (hg_336 q_ h)
      clear hg_335 hg_336
      have hkl_ks_330 : (ks_330.map Pk.k).length = (pv).length := by have := congrArg List.length hpe_334; simpa using this
      replace hO_20 := hO_20.ext K_338
      replace hO_21 := hO_21.ext K_338
      replace hl_322 := hl_322.ext K_338
      replace hB_320 := hB_320.ext K_338
      replace K0 := K0.ext K_338
      refine ⟨.inr ⟨hB_320, trivial⟩, ?_⟩
      refine RT.st 6 rfl (by kernel_rfl) rfl <| St1.call (vals := [.slice (a_328) ((ks_330.map Pk.k).length) (c_329), .slice (aL_314) ((us_319.map Pk.k).length) (cL_315)]) en11 rfl (samePacketsR _ ks_330 _ _ us_319 _ _ ho_332.sl hl_322 hQ_333.rd (rp_rd hRP hrp_324 K0) (by have h_ := congrArg List.length hpe_334; simp only [List.length_map] at h_; omega) (hpe_334.trans hpv_323.symm)) ?_
      rintro _ w_347 ⟨rfl, K_348⟩
      replace hO_20 := hO_20.ext K_348
      replace hO_21 := hO_21.ext K_348
      replace hl_322 := hl_322.ext K_348
      replace hB_320 := hB_320.ext K_348
      replace ho_332 := ho_332.ext K_348
      replace hQ_333 := hQ_333.ext K_348
      replace K0 := K0.ext K_348
      refine ⟨.inr ⟨hB_320, trivial⟩, ?_⟩
      refine RT.takeP (v := .bool (true)) 7 rfl (by kernel_rfl) (.inr ⟨hB_320, trivial⟩) (fun _ => (x_moveB rfl)) ?_
      refine RT.gst 8 rfl (by kernel_rfl) (wantedT1 rfl rfl rfl rfl) <| St1.call (vals := []) en6 rfl (awake_ _) ?_
      rintro _ w_349 ⟨rfl, K_350⟩
      replace hO_20 := hO_20.ext K_350
      replace hO_21 := hO_21.ext K_350
      replace hl_322 := hl_322.ext K_350
      replace hB_320 := hB_320.ext K_350
      replace ho_332 := ho_332.ext K_350
      replace hQ_333 := hQ_333.ext K_350
      replace K0 := K0.ext K_350
      refine ⟨.inr ⟨hB_320, trivial⟩, ?_⟩
      refine RT.takeP (v := .bool (true)) 9 rfl (by kernel_rfl) (.inr ⟨hB_320, trivial⟩) (fun _ => (x_andT rfl rfl rfl)) ?_
      refine RT.takeP (v := .bool (true)) 10 rfl (by kernel_rfl) (.inr ⟨hB_320, trivial⟩) (fun _ => (x_assignB rfl)) ?_
      refine RT.done (by kernel_rfl) ?_
      refine Run.ret1 (v := .bool (true)) Tryz.func3 rfl rfl ?_
      exact ⟨_, rfl, rfl, K0⟩
  · refine Run.region ?_
    refine RL.val (x_moveI rfl) ?_
    refine RL.st rfl <| St1.call (vals := [.int .i64 (nodes)]) en4 rfl (newD nodes _) ?_
    rintro _ w_351 (⟨_, rfl, K_352⟩ | ⟨hb_353, _⟩)
    rotate_left 1
    · exact absurd hb_353 hn
    have K0 := (K_352 : Ext w _)
    refine RL.val (x_moveT rfl) ?_
    refine RL.val (x_extract rfl rfl) ?_
    refine RL.val (x_extract rfl rfl) ?_
    refine RL.val (x_assignP rfl) ?_
    refine RL.val (x_assignI rfl) ?_
    refine RL.nil ?_
    refine Run.seq ?_
    refine Run.region ?_
    refine RL.val (x_moveI rfl) ?_
    refine RL.st rfl <| St1.call (vals := [.int .i64 (nodes)]) en5 rfl (newRD RP nodes _) ?_
    rintro _ w_354 (⟨_, rfl, K_355⟩ | ⟨hb_356, _⟩)
    rotate_left 1
    · exact absurd hb_356 hn
    replace K0 := K0.ext K_355
    refine RL.val (x_moveT rfl) ?_
    refine RL.val (x_extract rfl rfl) ?_
    refine RL.val (x_extract rfl rfl) ?_
    refine RL.val (x_assignP rfl) ?_
    refine RL.val (x_assignI rfl) ?_
    refine RL.nil ?_
    refine Run.seq ?_
    refine Run.seq ?_
    refine Run.region ?_
    refine RL.val (x_moveI rfl) ?_
    refine RL.val (x_moveI rfl) ?_
    refine RL.val (litF (x_neI rfl rfl) (by decide)) ?_
    refine RL.val (x_moveB rfl) ?_
    refine RL.gst (wantedF1 rfl rfl rfl rfl) <| St1.val (x_moveP rfl) ?_
    refine RL.gst (wantedF1 rfl rfl rfl rfl) <| St1.val (litT (x_ptrNil Tryz.underlying23 rfl rfl) rfl) ?_
    refine RL.gst (wantedF1 rfl rfl rfl rfl) <| St1.val (x_moveP rfl) ?_
    refine RL.gst (wantedF1 rfl rfl rfl rfl) <| St1.val (litT (x_ptrNil Tryz.underlying27 rfl rfl) rfl) ?_
    refine RL.gst (wantedF1 rfl rfl rfl rfl) <| St1.val (litF (x_neB Tryz.underlying4 rfl rfl) rfl) ?_
    refine RL.val (x_orF rfl rfl rfl) ?_
    refine RL.nil ?_
    refine Run.condF rfl ?_
    refine Run.skip ?_
    refine Run.seq ?_
    refine Run.seq ?_
    refine Run.region ?_
    refine RL.val (x_moveP rfl) ?_
    refine RL.val (litT (x_ptrNil Tryz.underlying27 rfl rfl) rfl) ?_
    refine RL.nil ?_
    refine Run.condT rfl ?_
    refine Run.seq ?_
    refine Run.region ?_
    refine RL.st rfl <| St1.call (vals := []) en6 rfl (awake_ _) ?_
    rintro _ w_357 ⟨rfl, K_358⟩
    replace K0 := K0.ext K_358
    refine RL.val (x_assignB rfl) ?_
    refine RL.nil ?_
    refine Run.ret1 (v := .bool (true)) Tryz.func3 rfl rfl ?_
    exact ⟨_, rfl, rfl, K0⟩

end Go.Proofs.YtdlaoncjiolckaaGreat
