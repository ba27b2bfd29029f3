/-
  DiskLives, DiskCopies.
-/
import Derived.Test.YtambibdkanpmaaaRows
import Derived.Test.YtambibdkanpmaaaDw
namespace Go.Proofs.Ytambibdkanpmaaa
attribute [local irreducible] St1 RL RA RT RT1 Run

theorem alikeRA {w : World} {d x : Nat} {F1 F2 : Nat → Prop} {room : Int} {pl : List PF} (hA : DiskAt w d F1 room pl) (hR : RefAt w x F2 room pl) (hap : ∀ q, F1 q → ¬ F2 q) : Calls Try.prog 31 #[.pointer (some ⟨d, 0, none⟩), .pointer (some ⟨x, 0, none⟩)] w (Ret fun v w' => v = .bool true ∧ Ext w w') := by
  obtain ⟨al, cl, rs, rfl, hp, hO⟩ := hR
  exact alike_ d F1 room pl x al cl rs w hA hO hp hap

theorem en29 : Enters Try.prog 29 := enters_of Try.func29 rfl (by kernel_rfl)
theorem en30 : Enters Try.prog 30 := enters_of Try.func30 rfl (by kernel_rfl)
theorem en31 : Enters Try.prog 31 := enters_of Try.func31 rfl (by kernel_rfl)
theorem en35 : Enters Try.prog 35 := enters_of Try.func35 rfl (by kernel_rfl)

set_option maxRecDepth 100000 in
set_option maxHeartbeats 4000000 in
theorem law_lives (room : Int) (a1 : Option Addr) (os : List DoC) (c1 : Nat) (ps : List DoP) (w : World) (hs1 : SlOf w a1 os) (hps : DosAt w os ps) (hl1 : os.length ≤ 4294967295) :
    Calls Try.prog 6 #[.int .i64 (room), .slice (a1) (os.length) (c1)] w (Ret (fun v w' => v = .bool true ∧ Ext w w')) := by
  refine calls_run (n := 67) Try.func6 rfl rfl rfl ?_
  refine Run.seq ?_
  refine Run.region ?_
  refine RL.val (x_assignB rfl) ?_
  refine RL.nil ?_
  refine Run.seq ?_
  refine Run.region ?_
  refine RL.val (x_moveI rfl) ?_
  refine RL.st rfl <| St1.call (vals := [.int .i64 (room)]) en28 rfl (newD room _) ?_
  rintro _ w_3 (⟨hnr, rfl, K_6⟩ | ⟨hrm, d_1, F_2, rfl, hD_4, hg_5, K_6⟩)
  · have K0 := (K_6 : Ext w _)
    refine RL.val (x_moveT rfl) ?_
    refine RL.val (x_extract rfl rfl) ?_
    refine RL.val (x_extract rfl rfl) ?_
    refine RL.val (x_assignP rfl) ?_
    refine RL.val (x_assignI rfl) ?_
    refine RL.nil ?_
    refine Run.seq ?_
    refine Run.region ?_
    refine RL.val (x_moveI rfl) ?_
    refine RL.st rfl <| St1.call (vals := [.int .i64 (room)]) en29 rfl (newRA room _) ?_
    rintro _ w_9 (⟨hnr2, rfl, K_12⟩ | ⟨hrm2, x_7, F_8, rfl, hR_10, hg_11, K_12⟩)
    · replace K0 := K0.ext K_12
      refine RL.val (x_moveT rfl) ?_
      refine RL.val (x_extract rfl rfl) ?_
      refine RL.val (x_extract rfl rfl) ?_
      refine RL.val (x_assignP rfl) ?_
      refine RL.val (x_assignI rfl) ?_
      refine RL.nil ?_
      refine Run.seq ?_
      refine Run.seq ?_
      refine Run.region ?_
      refine RL.val (x_moveI rfl) ?_
      refine RL.val (x_moveI rfl) ?_
      refine RL.val (litF (x_neI rfl rfl) (by decide)) ?_
      refine RL.val (x_moveB rfl) ?_
      refine RL.gst (wantedF1 rfl rfl rfl rfl) <| St1.val (x_moveP rfl) ?_
      refine RL.gst (wantedF1 rfl rfl rfl rfl) <| St1.val (litT (x_ptrNil Try.underlying23 rfl rfl) rfl) ?_
      refine RL.gst (wantedF1 rfl rfl rfl rfl) <| St1.val (x_moveP rfl) ?_
      refine RL.gst (wantedF1 rfl rfl rfl rfl) <| St1.val (litT (x_ptrNil Try.underlying57 rfl rfl) rfl) ?_
      refine RL.gst (wantedF1 rfl rfl rfl rfl) <| St1.val (litF (x_neB Try.underlying4 rfl rfl) rfl) ?_
      refine RL.val (x_orF rfl rfl rfl) ?_
      refine RL.nil ?_
      refine Run.condF rfl ?_
      refine Run.skip ?_
      refine Run.seq ?_
      refine Run.seq ?_
      refine Run.region ?_
      refine RL.val (x_moveP rfl) ?_
      refine RL.val (litT (x_ptrNil Try.underlying57 rfl rfl) rfl) ?_
      refine RL.nil ?_
      refine Run.condT rfl ?_
      refine Run.seq ?_
      refine Run.region ?_
      refine RL.st rfl <| St1.call (vals := []) en11 rfl (awake_ _) ?_
      rintro _ w_13 ⟨rfl, K_14⟩
      replace K0 := K0.ext K_14
      refine RL.val (x_assignB rfl) ?_
      refine RL.nil ?_
      refine Run.ret1 (v := .bool (true)) Try.func6 rfl rfl ?_
      exact ⟨_, rfl, rfl, K0⟩
    · exact absurd hrm2 hnr
  · have pg_15 : ∀ q_, F_2 q_ → w.heap.size ≤ q_ := fun q_ h => Nat.le_trans (Nat.le_refl _) (hg_5 q_ h)
    clear hg_5
    have K0 := (K_6 : Ext w _)
    refine RL.val (x_moveT rfl) ?_
    refine RL.val (x_extract rfl rfl) ?_
    refine RL.val (x_extract rfl rfl) ?_
    refine RL.val (x_assignP rfl) ?_
    refine RL.val (x_assignI rfl) ?_
    refine RL.nil ?_
    refine Run.seq ?_
    refine Run.region ?_
    refine RL.val (x_moveI rfl) ?_
    refine RL.st rfl <| St1.call (vals := [.int .i64 (room)]) en29 rfl (newRA room _) ?_
    rintro _ w_18 (⟨hnr2, rfl, K_21⟩ | ⟨hrm2, x_16, F_17, rfl, hR_19, hg_20, K_21⟩)
    · exact absurd hrm hnr2
    · have pr_22 : ∀ q_, F_17 q_ → ¬ F_2 q_ := apartNew hg_20 hD_4.own_lt
      have pg_23 : ∀ q_, F_17 q_ → w.heap.size ≤ q_ := fun q_ h => Nat.le_trans K0.size (hg_20 q_ h)
      clear hg_20
      replace hD_4 := hD_4.ext K_21
      replace K0 := K0.ext K_21
      refine RL.val (x_moveT rfl) ?_
      refine RL.val (x_extract rfl rfl) ?_
      refine RL.val (x_extract rfl rfl) ?_
      refine RL.val (x_assignP rfl) ?_
      refine RL.val (x_assignI rfl) ?_
      refine RL.nil ?_
      refine Run.seq ?_
      refine Run.seq ?_
      refine Run.region ?_
      refine RL.val (x_moveI rfl) ?_
      refine RL.val (x_moveI rfl) ?_
      refine RL.val (litF (x_neI rfl rfl) (by decide)) ?_
      refine RL.val (x_moveB rfl) ?_
      refine RL.gst (wantedF1 rfl rfl rfl rfl) <| St1.val (x_moveP rfl) ?_
      refine RL.gst (wantedF1 rfl rfl rfl rfl) <| St1.val (litF (x_ptrNil Try.underlying23 rfl rfl) rfl) ?_
      refine RL.gst (wantedF1 rfl rfl rfl rfl) <| St1.val (x_moveP rfl) ?_
      refine RL.gst (wantedF1 rfl rfl rfl rfl) <| St1.val (litF (x_ptrNil Try.underlying57 rfl rfl) rfl) ?_
      refine RL.gst (wantedF1 rfl rfl rfl rfl) <| St1.val (litF (x_neB Try.underlying4 rfl rfl) rfl) ?_
      refine RL.val (x_orF rfl rfl rfl) ?_
      refine RL.nil ?_
      refine Run.condF rfl ?_
      refine Run.skip ?_
      refine Run.seq ?_
      refine Run.seq ?_
      refine Run.region ?_
      refine RL.val (x_moveP rfl) ?_
      refine RL.val (litF (x_ptrNil Try.underlying57 rfl rfl) rfl) ?_
      refine RL.nil ?_
      refine Run.condF rfl ?_
      refine Run.skip ?_
      refine Run.seq ?_
      refine Run.seq ?_
      refine Run.region ?_
      refine RL.val (x_moveSl rfl) ?_
      refine RL.val (x_lenSl Try.underlying22 rfl) ?_
      refine RL.val (x_moveI rfl) ?_
      refine RL.nil ?_
      refine Run.block ?_
      refine Run.loop (ι := Nat) (fun i ρ' w' => ∃ Fd : Nat → Prop, ∃ Fr : Nat → Prop, Holds ρ' [(5, .pointer (some ⟨d_1, 0, none⟩)), (7, .pointer (some ⟨x_16, 0, none⟩)), (34, .slice (a1) (os.length) (c1)), (35, .int .i64 (((os.length : Nat) : Int))), (36, .int .i64 (((i : Nat) : Int)))] ∧ Ext w w' ∧ (DiskAt w' d_1 Fd room (runX room [] (ps.take i))) ∧ (RefAt w' x_16 Fr room (runX room [] (ps.take i))) ∧ (∀ q_, Fd q_ → ¬ Fr q_) ∧ (∀ q_, Fd q_ → w.heap.size ≤ q_) ∧ (∀ q_, Fr q_ → w.heap.size ≤ q_) ∧ (i ≤ os.length)) (fun i => os.length - i) 0 ?_ ?_
      · refine ⟨_, _, ⟨rfl, rfl, rfl, rfl, rfl, trivial⟩, K0, hD_4, hR_19, (fun q_ h1 h2 => pr_22 q_ h2 h1), pg_15, pg_23, ?_⟩
        · omega
      clear hD_4 hR_19
      clear K0
      rintro i ρ_31 w_24 ⟨Fd, Fr, hH_25, K0, hO_26, hO_27, pr_28, pr_29, pr_30, hi⟩ ih1
      obtain ⟨ρ₀, rfl⟩ := hH_25.ex
      clear hH_25
      refine Run.seq ?_
      refine Run.region ?_
      refine RL.val (x_ltI rfl rfl) ?_
      refine RL.nil ?_
      refine Run.seq ?_
      refine Run.cond rfl (fun hc37 => ?_) (fun hc37 => ?_)
      · try simp only [br] at hc37
        refine Run.skip ?_
        refine Run.seq ?_
        refine Run.block ?_
        refine Run.seq ?_
        refine Run.region ?_
        refine RL.val (x_moveI rfl) ?_
        obtain ⟨b_32, o_33, o, hx, ha_34, hc_35⟩ := hs1.el (i := i) (by first | omega | (simp only [List.length_set]; omega))
        have hc_35_lt := hc_35.lt
        replace hc_35 := hc_35.ext K0
        refine RL.val (x_idxN Try.underlying22 ty34 rfl rfl ha_34 (by first | omega | (simp only [List.length_set]; omega))) ?_
        refine RL.val (x_ldV (v := .agg #[.int .i64 ((o).op), .string ((o).name), .string ((o).other), .slice ((o).bytes.a) ((o).bytes.len) ((o).bytes.cap), .slice ((o).tears.a) ((o).tears.len) ((o).tears.cap)]) (y := o) ty34 rfl hc_35 rfl) ?_
        refine RL.st rfl <| St1.alloc ty34 ?_
        intro b_38 w_39 hl_42 hb_41 K_40
        replace hb_41 : Blk w_39 b_38 [.int .i64 (0), .string (⟨#[]⟩), .string (⟨#[]⟩), .slice (none) (0) (0), .slice (none) (0) (0)] 34 := hb_41
        have ne_43 : b_32 < b_38 := Nat.lt_of_lt_of_le hc_35.lt hl_42
        have pr_44 : ¬ Fd b_38 := fun h => absurd (hO_26.own_lt _ h) (by omega)
        have pr_45 : ¬ Fr b_38 := fun h => absurd (hO_27.own_lt _ h) (by omega)
        have : w.heap.size ≤ b_38 := Nat.le_trans K0.size hl_42
        clear hl_42
        replace hO_26 := hO_26.ext K_40
        replace hO_27 := hO_27.ext K_40
        replace hc_35 := hc_35.ext K_40
        replace K0 := K0.ext K_40
        refine RL.val (x_assignI rfl) ?_
        refine RL.st rfl <| St1.store (v := .agg #[.int .i64 ((o).op), .string ((o).name), .string ((o).other), .slice ((o).bytes.a) ((o).bytes.len) ((o).bytes.cap), .slice ((o).tears.a) ((o).tears.len) ((o).tears.cap)]) ty34 rfl rfl rfl (by simp [Value.cells, Value.oneCell']) hb_41 (by simp) ?_
        intro w_46 hb_41_ K_47
        have hb_41' : Blk w_46 b_38 [.int .i64 ((o).op), .string ((o).name), .string ((o).other), .slice ((o).bytes.a) ((o).bytes.len) ((o).bytes.cap), .slice ((o).tears.a) ((o).tears.len) ((o).tears.cap)] 34 := hb_41_
        clear hb_41_
        replace hO_26 := hO_26.keepO K_47 (fun q_ hq_ eq_ => pr_44 (by simp only [one] at eq_; rw [← eq_]; exact hq_))
        replace hO_27 := hO_27.keepO K_47 (fun q_ hq_ eq_ => pr_45 (by simp only [one] at eq_; rw [← eq_]; exact hq_))
        replace hc_35 := hc_35.keep K_47 (by simp only [one]; omega)
        replace K0 := K0.new K_47 (fun x hx => by simp only [one] at hx; omega)
        replace hb_41 := hb_41'
        clear hb_41'
        refine RL.nil ?_
        obtain ⟨p, hp⟩ : ∃ p_, ps[i]? = some p_ := ⟨_, List.getElem?_eq_getElem (by rw [← hps.len]; omega)⟩
        obtain ⟨b, pts, hpe, hdo⟩ := hps.all i o p hx hp
        refine Run.seq ?_
        refine Run.seq ?_
        refine Run.region ?_
        refine RL.val (x_moveI rfl) ?_
        refine RL.val (x_gtI rfl rfl) ?_
        refine RL.nil ?_
        refine Run.cond rfl (fun hc42 => ?_) (fun hc42 => ?_)
        · try simp only [br] at hc42
          refine Run.exit rfl ?_
          refine Run.seq ?_
          refine Run.region ?_
          refine RL.val (x_moveP rfl) ?_
          refine RL.val (x_moveP rfl) ?_
          refine RL.st rfl <| St1.call (vals := [.pointer (some ⟨d_1, 0, none⟩), .pointer (some ⟨x_16, 0, none⟩)]) en31 rfl (alikeRA hO_26 hO_27 pr_28) ?_
          rintro _ w_48 ⟨rfl, K_49⟩
          replace hO_26 := hO_26.ext K_49
          replace hO_27 := hO_27.ext K_49
          replace hb_41 := hb_41.ext K_49
          replace K0 := K0.ext K_49
          refine RL.val (x_moveB rfl) ?_
          refine RL.gst (wantedT1 rfl rfl rfl rfl) <| St1.call (vals := []) en11 rfl (awake_ _) ?_
          rintro _ w_50 ⟨rfl, K_51⟩
          replace hO_26 := hO_26.ext K_51
          replace hO_27 := hO_27.ext K_51
          replace hb_41 := hb_41.ext K_51
          replace K0 := K0.ext K_51
          refine RL.val (x_andT rfl rfl rfl) ?_
          refine RL.val (x_assignB rfl) ?_
          refine RL.nil ?_
          refine Run.ret1 (v := .bool (true)) Try.func6 rfl rfl ?_
          exact ⟨_, rfl, rfl, K0⟩
        · try simp only [br] at hc42
          refine Run.skip ?_
          refine Run.seq ?_
          refine Run.region ?_
          refine RL.val (x_moveP rfl) ?_
          refine RL.val (x_moveP rfl) ?_
          refine RL.val (x_lds (cs := #[.int .i64 ((o).op), .string ((o).name), .string ((o).other), .slice ((o).bytes.a) ((o).bytes.len) ((o).bytes.cap), .slice ((o).tears.a) ((o).tears.len) ((o).tears.cap)]) ty34 rfl rfl (hb_41.cl.drop 0 5)) ?_
          refine RL.st rfl <| St1.call (vals := [.pointer (some ⟨d_1, 0, none⟩), .pointer (some ⟨x_16, 0, none⟩), .agg #[.int .i64 ((o).op), .string ((o).name), .string ((o).other), .slice ((o).bytes.a) ((o).bytes.len) ((o).bytes.cap), .slice ((o).tears.a) ((o).tears.len) ((o).tears.cap)]]) en30 rfl (does_ d_1 Fd x_16 Fr room (runX room [] (ps.take i)) o _ _ w _ hO_26 hO_27 pr_28 hdo K0 (fun q_ h_ => h_.elim (pr_29 q_) (pr_30 q_))) ?_
          rintro _ w_52 ⟨rfl, Fd_53, Fr_54, hD_55, hR_56, hm_57, hm_58, hap_59, K_60⟩
          rw [← hpe] at hD_55 hR_56
          have pr_61 : ¬ Fd_53 b_38 := hm_57.not pr_44 hb_41.lt
          have pg_62 : ∀ q_, Fd_53 q_ → w.heap.size ≤ q_ := hm_57.ge pr_29 K0.size
          have pr_63 : ¬ Fr_54 b_38 := hm_58.not pr_45 hb_41.lt
          have pg_64 : ∀ q_, Fr_54 q_ → w.heap.size ≤ q_ := hm_58.ge pr_30 K0.size
          have pr_65 : ¬ (fun q => Fd q ∨ Fr q) b_38 := fun x_ => ((fun q_ h_ => h_) _ x_).elim pr_44 (fun y_ => pr_45 y_)
          have pg_66 : ∀ q_, (fun q => Fd q ∨ Fr q) q_ → w.heap.size ≤ q_ := fun q_ x_ => ((fun q_ h_ => h_) _ x_).elim (fun y_ => pr_29 q_ y_) (fun y_ => (fun y_ => pr_30 q_ y_) y_)
          replace hb_41 := hb_41.keep K_60 pr_65
          replace K0 := K0.new K_60 pg_66
          refine RL.val (x_not rfl) ?_
          refine RL.val (x_moveB rfl) ?_
          refine RL.gst (wantedF1 rfl rfl rfl rfl) <| St1.val (x_moveP rfl) ?_
          refine RL.gst (wantedF1 rfl rfl rfl rfl) <| St1.val (x_moveP rfl) ?_
          refine RL.gst (wantedF1 rfl rfl rfl rfl) <| St1.call (vals := [.pointer (some ⟨d_1, 0, none⟩), .pointer (some ⟨x_16, 0, none⟩)]) en31 rfl (alikeRA hD_55 hR_56 hap_59) ?_
          rintro _ w_67 ⟨rfl, K_68⟩
          replace hb_41 := hb_41.ext K_68
          replace hD_55 := hD_55.ext K_68
          replace hR_56 := hR_56.ext K_68
          replace K0 := K0.ext K_68
          refine RL.gst (wantedF1 rfl rfl rfl rfl) <| St1.val (x_not rfl) ?_
          refine RL.val (x_orF rfl rfl rfl) ?_
          refine RL.val (x_moveB rfl) ?_
          refine RL.gst (wantedF1 rfl rfl rfl rfl) <| St1.val (x_moveP rfl) ?_
          refine RL.gst (wantedF1 rfl rfl rfl rfl) <| St1.val (x_moveP rfl) ?_
          refine RL.gst (wantedF1 rfl rfl rfl rfl) <| St1.call (vals := [.pointer (some ⟨d_1, 0, none⟩), .pointer (some ⟨x_16, 0, none⟩)]) en31 rfl (alikeRA hD_55 hR_56 hap_59) ?_
          rintro _ w_69 ⟨rfl, K_70⟩
          replace hb_41 := hb_41.ext K_70
          replace hD_55 := hD_55.ext K_70
          replace hR_56 := hR_56.ext K_70
          replace K0 := K0.ext K_70
          refine RL.gst (wantedF1 rfl rfl rfl rfl) <| St1.val (x_not rfl) ?_
          refine RL.val (x_orF rfl rfl rfl) ?_
          refine RL.nil ?_
          rw [← runX_snoc hp] at hD_55 hR_56
          refine Run.condF rfl ?_
          refine Run.skip ?_
          refine Run.inBlock ?_
          refine Run.region ?_
          refine RL.val (litI (c := ((i + 1 : Nat) : Int)) (x_add rfl rfl (by omega) (by omega)) rfl) ?_
          refine RL.val (x_moveI rfl) ?_
          refine RL.nil ?_
          refine ih1 (i + 1) _ _ ?_ (by omega)
          refine ⟨_, _, ⟨rfl, rfl, rfl, rfl, rfl, trivial⟩, K0, hD_55, hR_56, hap_59, pg_62, pg_64, ?_⟩
          · omega
      · try simp only [br] at hc37
        refine Run.exit rfl ?_
        refine Run.seq ?_
        refine Run.region ?_
        refine RL.val (x_moveP rfl) ?_
        refine RL.val (x_moveP rfl) ?_
        refine RL.st rfl <| St1.call (vals := [.pointer (some ⟨d_1, 0, none⟩), .pointer (some ⟨x_16, 0, none⟩)]) en31 rfl (alikeRA hO_26 hO_27 pr_28) ?_
        rintro _ w_71 ⟨rfl, K_72⟩
        replace hO_26 := hO_26.ext K_72
        replace hO_27 := hO_27.ext K_72
        replace K0 := K0.ext K_72
        refine RL.val (x_moveB rfl) ?_
        refine RL.gst (wantedT1 rfl rfl rfl rfl) <| St1.call (vals := []) en11 rfl (awake_ _) ?_
        rintro _ w_73 ⟨rfl, K_74⟩
        replace hO_26 := hO_26.ext K_74
        replace hO_27 := hO_27.ext K_74
        replace K0 := K0.ext K_74
        refine RL.val (x_andT rfl rfl rfl) ?_
        refine RL.val (x_assignB rfl) ?_
        refine RL.nil ?_
        refine Run.ret1 (v := .bool (true)) Try.func6 rfl rfl ?_
        exact ⟨_, rfl, rfl, K0⟩

set_option maxRecDepth 100000 in
set_option maxHeartbeats 4000000 in
theorem law_copies (room : Int) (a1 : Option Addr) (os : List DoC) (c1 : Nat) (ps : List DoP) (a2 : Option Addr) (om : List DoC) (c2 : Nat) (pm : List DoP) (w : World) (hs1 : SlOf w a1 os) (hps : DosAt w os ps) (hl1 : os.length ≤ 4294967295) (hs2 : SlOf w a2 om) (hpm : DosAt w om pm) (hl2 : om.length ≤ 4294967295) :
    Calls Try.prog 8 #[.int .i64 (room), .slice (a1) (os.length) (c1), .slice (a2) (om.length) (c2)] w (Ret (fun v w' => v = .bool true ∧ Ext w w')) := by
  refine calls_run (n := 101) Try.func8 rfl rfl rfl ?_
  refine Run.seq ?_
  refine Run.region ?_
  refine RL.val (x_assignB rfl) ?_
  refine RL.nil ?_
  refine Run.seq ?_
  refine Run.region ?_
  refine RL.val (x_moveI rfl) ?_
  refine RL.st rfl <| St1.call (vals := [.int .i64 (room)]) en28 rfl (newD room _) ?_
  rintro _ w_3 (⟨hnr, rfl, K_6⟩ | ⟨hrm, d_1, F_2, rfl, hD_4, hg_5, K_6⟩)
  · have K0 := (K_6 : Ext w _)
    refine RL.val (x_moveT rfl) ?_
    refine RL.val (x_extract rfl rfl) ?_
    refine RL.val (x_extract rfl rfl) ?_
    refine RL.val (x_assignP rfl) ?_
    refine RL.val (x_assignI rfl) ?_
    refine RL.nil ?_
    refine Run.seq ?_
    refine Run.region ?_
    refine RL.val (x_moveI rfl) ?_
    refine RL.st rfl <| St1.call (vals := [.int .i64 (room)]) en29 rfl (newRA room _) ?_
    rintro _ w_9 (⟨hnr2, rfl, K_12⟩ | ⟨hrm2, x_7, F_8, rfl, hR_10, hg_11, K_12⟩)
    · replace K0 := K0.ext K_12
      refine RL.val (x_moveT rfl) ?_
      refine RL.val (x_extract rfl rfl) ?_
      refine RL.val (x_extract rfl rfl) ?_
      refine RL.val (x_assignP rfl) ?_
      refine RL.val (x_assignI rfl) ?_
      refine RL.nil ?_
      refine Run.seq ?_
      refine Run.seq ?_
      refine Run.region ?_
      refine RL.val (x_moveP rfl) ?_
      refine RL.val (litT (x_ptrNil Try.underlying23 rfl rfl) rfl) ?_
      refine RL.val (x_moveB rfl) ?_
      refine RL.guardF (wantedF0 rfl rfl rfl rfl) ?_
      refine RL.guardF (wantedF0 rfl rfl rfl rfl) ?_
      refine RL.val (x_or (b := true) (e := false) rfl rfl rfl) ?_
      refine RL.nil ?_
      refine Run.condT rfl ?_
      refine Run.seq ?_
      refine Run.region ?_
      refine RL.val (x_moveP rfl) ?_
      refine RL.val (litT (x_ptrNil Try.underlying57 rfl rfl) rfl) ?_
      refine RL.val (x_moveB rfl) ?_
      refine RL.gst (wantedT1 rfl rfl rfl rfl) <| St1.val (x_moveP rfl) ?_
      refine RL.gst (wantedT1 rfl rfl rfl rfl) <| St1.val (litT (x_ptrNil Try.underlying23 rfl rfl) rfl) ?_
      refine RL.val (x_andT rfl rfl rfl) ?_
      refine RL.val (x_moveB rfl) ?_
      refine RL.gst (wantedT1 rfl rfl rfl rfl) <| St1.call (vals := []) en11 rfl (awake_ _) ?_
      rintro _ w_13 ⟨rfl, K_14⟩
      replace K0 := K0.ext K_14
      refine RL.val (x_andT rfl rfl rfl) ?_
      refine RL.val (x_assignB rfl) ?_
      refine RL.nil ?_
      refine Run.ret1 (v := .bool (true)) Try.func8 rfl rfl ?_
      exact ⟨_, rfl, rfl, K0⟩
    · exact absurd hrm2 hnr
  · have pg_15 : ∀ q_, F_2 q_ → w.heap.size ≤ q_ := fun q_ h => Nat.le_trans (Nat.le_refl _) (hg_5 q_ h)
    clear hg_5
    have K0 := (K_6 : Ext w _)
    refine RL.val (x_moveT rfl) ?_
    refine RL.val (x_extract rfl rfl) ?_
    refine RL.val (x_extract rfl rfl) ?_
    refine RL.val (x_assignP rfl) ?_
    refine RL.val (x_assignI rfl) ?_
    refine RL.nil ?_
    refine Run.seq ?_
    refine Run.region ?_
    refine RL.val (x_moveI rfl) ?_
    refine RL.st rfl <| St1.call (vals := [.int .i64 (room)]) en29 rfl (newRA room _) ?_
    rintro _ w_18 (⟨hnr2, rfl, K_21⟩ | ⟨hrm2, x_16, F_17, rfl, hR_19, hg_20, K_21⟩)
    · exact absurd hrm hnr2
    · have pr_22 : ∀ q_, F_17 q_ → ¬ F_2 q_ := apartNew hg_20 hD_4.own_lt
      have pg_23 : ∀ q_, F_17 q_ → w.heap.size ≤ q_ := fun q_ h => Nat.le_trans K0.size (hg_20 q_ h)
      clear hg_20
      replace hD_4 := hD_4.ext K_21
      replace K0 := K0.ext K_21
      refine RL.val (x_moveT rfl) ?_
      refine RL.val (x_extract rfl rfl) ?_
      refine RL.val (x_extract rfl rfl) ?_
      refine RL.val (x_assignP rfl) ?_
      refine RL.val (x_assignI rfl) ?_
      refine RL.nil ?_
      refine Run.seq ?_
      refine Run.seq ?_
      refine Run.region ?_
      refine RL.val (x_moveP rfl) ?_
      refine RL.val (litF (x_ptrNil Try.underlying23 rfl rfl) rfl) ?_
      refine RL.val (x_moveB rfl) ?_
      refine RL.gst (wantedF1 rfl rfl rfl rfl) <| St1.val (x_moveP rfl) ?_
      refine RL.gst (wantedF1 rfl rfl rfl rfl) <| St1.val (litF (x_ptrNil Try.underlying57 rfl rfl) rfl) ?_
      refine RL.val (x_orF rfl rfl rfl) ?_
      refine RL.nil ?_
      refine Run.condF rfl ?_
      refine Run.skip ?_
      refine Run.seq ?_
      refine Run.seq ?_
      refine Run.region ?_
      refine RL.val (x_moveSl rfl) ?_
      refine RL.val (x_lenSl Try.underlying22 rfl) ?_
      refine RL.val (x_moveI rfl) ?_
      refine RL.nil ?_
      refine Run.block ?_
      refine Run.loop (ι := Nat) (fun i ρ' w' => ∃ Fd : Nat → Prop, ∃ Fr : Nat → Prop, Holds ρ' [(2, .slice (a2) (om.length) (c2)), (7, .pointer (some ⟨d_1, 0, none⟩)), (9, .pointer (some ⟨x_16, 0, none⟩)), (42, .slice (a1) (os.length) (c1)), (43, .int .i64 (((os.length : Nat) : Int))), (44, .int .i64 (((i : Nat) : Int)))] ∧ Ext w w' ∧ (DiskAt w' d_1 Fd room (runX room [] (ps.take i))) ∧ (RefAt w' x_16 Fr room (runX room [] (ps.take i))) ∧ (∀ q_, Fd q_ → ¬ Fr q_) ∧ (∀ q_, Fd q_ → w.heap.size ≤ q_) ∧ (∀ q_, Fr q_ → w.heap.size ≤ q_) ∧ (i ≤ os.length)) (fun i => os.length - i) 0 ?_ ?_
      · refine ⟨_, _, ⟨rfl, rfl, rfl, rfl, rfl, rfl, trivial⟩, K0, hD_4, hR_19, (fun q_ h1 h2 => pr_22 q_ h2 h1), pg_15, pg_23, ?_⟩
        · omega
      clear hD_4 hR_19
      clear K0
      rintro i ρ_31 w_24 ⟨Fd, Fr, hH_25, K0, hO_26, hO_27, pr_28, pr_29, pr_30, hi⟩ ih1
      obtain ⟨ρ₀, rfl⟩ := hH_25.ex
      clear hH_25
      refine Run.seq ?_
      refine Run.region ?_
      refine RL.val (x_ltI rfl rfl) ?_
      refine RL.nil ?_
      refine Run.seq ?_
      refine Run.cond rfl (fun hc45 => ?_) (fun hc45 => ?_)
      · try simp only [br] at hc45
        refine Run.skip ?_
        refine Run.seq ?_
        refine Run.block ?_
        refine Run.seq ?_
        refine Run.region ?_
        refine RL.val (x_moveI rfl) ?_
        obtain ⟨b_32, o_33, o, hx, ha_34, hc_35⟩ := hs1.el (i := i) (by first | omega | (simp only [List.length_set]; omega))
        have hc_35_lt := hc_35.lt
        replace hc_35 := hc_35.ext K0
        refine RL.val (x_idxN Try.underlying22 ty34 rfl rfl ha_34 (by first | omega | (simp only [List.length_set]; omega))) ?_
        refine RL.val (x_ldV (v := .agg #[.int .i64 ((o).op), .string ((o).name), .string ((o).other), .slice ((o).bytes.a) ((o).bytes.len) ((o).bytes.cap), .slice ((o).tears.a) ((o).tears.len) ((o).tears.cap)]) (y := o) ty34 rfl hc_35 rfl) ?_
        refine RL.st rfl <| St1.alloc ty34 ?_
        intro b_38 w_39 hl_42 hb_41 K_40
        replace hb_41 : Blk w_39 b_38 [.int .i64 (0), .string (⟨#[]⟩), .string (⟨#[]⟩), .slice (none) (0) (0), .slice (none) (0) (0)] 34 := hb_41
        have ne_43 : b_32 < b_38 := Nat.lt_of_lt_of_le hc_35.lt hl_42
        have pr_44 : ¬ Fd b_38 := fun h => absurd (hO_26.own_lt _ h) (by omega)
        have pr_45 : ¬ Fr b_38 := fun h => absurd (hO_27.own_lt _ h) (by omega)
        have : w.heap.size ≤ b_38 := Nat.le_trans K0.size hl_42
        clear hl_42
        replace hO_26 := hO_26.ext K_40
        replace hO_27 := hO_27.ext K_40
        replace hc_35 := hc_35.ext K_40
        replace K0 := K0.ext K_40
        refine RL.val (x_assignI rfl) ?_
        refine RL.st rfl <| St1.store (v := .agg #[.int .i64 ((o).op), .string ((o).name), .string ((o).other), .slice ((o).bytes.a) ((o).bytes.len) ((o).bytes.cap), .slice ((o).tears.a) ((o).tears.len) ((o).tears.cap)]) ty34 rfl rfl rfl (by simp [Value.cells, Value.oneCell']) hb_41 (by simp) ?_
        intro w_46 hb_41_ K_47
        have hb_41' : Blk w_46 b_38 [.int .i64 ((o).op), .string ((o).name), .string ((o).other), .slice ((o).bytes.a) ((o).bytes.len) ((o).bytes.cap), .slice ((o).tears.a) ((o).tears.len) ((o).tears.cap)] 34 := hb_41_
        clear hb_41_
        replace hO_26 := hO_26.keepO K_47 (fun q_ hq_ eq_ => pr_44 (by simp only [one] at eq_; rw [← eq_]; exact hq_))
        replace hO_27 := hO_27.keepO K_47 (fun q_ hq_ eq_ => pr_45 (by simp only [one] at eq_; rw [← eq_]; exact hq_))
        replace hc_35 := hc_35.keep K_47 (by simp only [one]; omega)
        replace K0 := K0.new K_47 (fun x hx => by simp only [one] at hx; omega)
        replace hb_41 := hb_41'
        clear hb_41'
        refine RL.nil ?_
        obtain ⟨p, hp⟩ : ∃ p_, ps[i]? = some p_ := ⟨_, List.getElem?_eq_getElem (by rw [← hps.len]; omega)⟩
        obtain ⟨b, pts, hpe, hdo⟩ := hps.all i o p hx hp
        refine Run.seq ?_
        refine Run.seq ?_
        refine Run.region ?_
        refine RL.val (x_moveI rfl) ?_
        refine RL.val (x_gtI rfl rfl) ?_
        refine RL.nil ?_
        refine Run.cond rfl (fun hc50 => ?_) (fun hc50 => ?_)
        · try simp only [br] at hc50
          refine Run.exit rfl ?_
          refine Run.seq ?_
          obtain ⟨i1, hi1⟩ : ∃ i1, i1 = i := ⟨i, rfl⟩
          rw [← hi1] at hO_26 hO_27
          clear hi1
          refine Run.region ?_
          refine RL.val (x_moveP rfl) ?_
          refine RL.st rfl <| St1.call (vals := [.pointer (some ⟨d_1, 0, none⟩)]) en16 rfl (copyD hO_26) ?_
          rintro _ w_50 ⟨d_48, F_49, rfl, hD_51, hg_52, K_53⟩
          have pr_54 : ∀ q_, F_49 q_ → ¬ Fd q_ := apartNew hg_52 hO_26.own_lt
          have pr_55 : ∀ q_, F_49 q_ → ¬ Fr q_ := apartNew hg_52 hO_27.own_lt
          have pr_56 : ¬ F_49 b_38 := notNew hg_52 hb_41.lt
          have pg_57 : ∀ q_, F_49 q_ → w.heap.size ≤ q_ := fun q_ h => Nat.le_trans K0.size (hg_52 q_ h)
          clear hg_52
          replace hO_26 := hO_26.ext K_53
          replace hO_27 := hO_27.ext K_53
          replace hb_41 := hb_41.ext K_53
          replace K0 := K0.ext K_53
          refine RL.val (x_moveP rfl) ?_
          refine RL.st rfl <| St1.call (vals := [.pointer (some ⟨x_16, 0, none⟩)]) en35 rfl (copyRA hO_27) ?_
          rintro _ w_60 ⟨x_58, F_59, rfl, hR_61, hg_62, K_63⟩
          have pr_64 : ∀ q_, F_59 q_ → ¬ Fd q_ := apartNew hg_62 hO_26.own_lt
          have pr_65 : ∀ q_, F_59 q_ → ¬ Fr q_ := apartNew hg_62 hO_27.own_lt
          have pr_66 : ¬ F_59 b_38 := notNew hg_62 hb_41.lt
          have pr_67 : ∀ q_, F_59 q_ → ¬ F_49 q_ := apartNew hg_62 hD_51.own_lt
          have pg_68 : ∀ q_, F_59 q_ → w.heap.size ≤ q_ := fun q_ h => Nat.le_trans K0.size (hg_62 q_ h)
          clear hg_62
          replace hO_26 := hO_26.ext K_63
          replace hO_27 := hO_27.ext K_63
          replace hb_41 := hb_41.ext K_63
          replace hD_51 := hD_51.ext K_63
          replace K0 := K0.ext K_63
          refine RL.val (x_assignP rfl) ?_
          refine RL.val (x_assignP rfl) ?_
          refine RL.nil ?_
          refine Run.seq ?_
          refine Run.seq ?_
          refine Run.region ?_
          refine RL.val (x_moveP rfl) ?_
          refine RL.val (litF (x_ptrNil Try.underlying23 rfl rfl) rfl) ?_
          refine RL.val (x_moveB rfl) ?_
          refine RL.gst (wantedF1 rfl rfl rfl rfl) <| St1.val (x_moveP rfl) ?_
          refine RL.gst (wantedF1 rfl rfl rfl rfl) <| St1.val (x_moveP rfl) ?_
          refine RL.gst (wantedF1 rfl rfl rfl rfl) <| St1.call (vals := [.pointer (some ⟨d_48, 0, none⟩), .pointer (some ⟨x_58, 0, none⟩)]) en31 rfl (alikeRA hD_51 hR_61 (fun q_ h1 h2 => pr_67 q_ h2 h1)) ?_
          rintro _ w_69 ⟨rfl, K_70⟩
          replace hO_26 := hO_26.ext K_70
          replace hO_27 := hO_27.ext K_70
          replace hb_41 := hb_41.ext K_70
          replace hD_51 := hD_51.ext K_70
          replace hR_61 := hR_61.ext K_70
          replace K0 := K0.ext K_70
          refine RL.gst (wantedF1 rfl rfl rfl rfl) <| St1.val (x_not rfl) ?_
          refine RL.val (x_orF rfl rfl rfl) ?_
          refine RL.nil ?_
          refine Run.condF rfl ?_
          refine Run.skip ?_
          refine Run.seq ?_
          refine Run.seq ?_
          rw [show (runX room [] (ps.take i1)) = runX room (runX room [] (ps.take i1)) (pm.take 0) from rfl] at hD_51 hR_61
          refine Run.region ?_
          refine RL.val (x_moveSl rfl) ?_
          refine RL.val (x_lenSl Try.underlying22 rfl) ?_
          refine RL.val (x_moveI rfl) ?_
          refine RL.nil ?_
          refine Run.block ?_
          refine Run.loop (ι := Nat) (fun i ρ' w' => ∃ Fd2 : Nat → Prop, ∃ Fr2 : Nat → Prop, Holds ρ' [(7, .pointer (some ⟨d_1, 0, none⟩)), (9, .pointer (some ⟨x_16, 0, none⟩)), (13, .pointer (some ⟨d_48, 0, none⟩)), (14, .pointer (some ⟨x_58, 0, none⟩)), (69, .slice (a2) (om.length) (c2)), (70, .int .i64 (((om.length : Nat) : Int))), (71, .int .i64 (((i : Nat) : Int)))] ∧ Ext w w' ∧ (Blk w' b_38 [.int .i64 ((o).op), .string ((o).name), .string ((o).other), .slice ((o).bytes.a) ((o).bytes.len) ((o).bytes.cap), .slice ((o).tears.a) ((o).tears.len) ((o).tears.cap)] 34) ∧ (DiskAt w' d_1 Fd room (runX room [] (ps.take i1))) ∧ (RefAt w' x_16 Fr room (runX room [] (ps.take i1))) ∧ (DiskAt w' d_48 Fd2 room (runX room (runX room [] (ps.take i1)) (pm.take i))) ∧ (RefAt w' x_58 Fr2 room (runX room (runX room [] (ps.take i1)) (pm.take i))) ∧ (¬ Fd2 b_38) ∧ (∀ q_, Fd2 q_ → ¬ Fd q_) ∧ (∀ q_, Fd2 q_ → ¬ Fr q_) ∧ (∀ q_, Fd2 q_ → ¬ Fr2 q_) ∧ (∀ q_, Fd2 q_ → w.heap.size ≤ q_) ∧ (¬ Fr2 b_38) ∧ (∀ q_, Fr2 q_ → ¬ Fd q_) ∧ (∀ q_, Fr2 q_ → ¬ Fr q_) ∧ (∀ q_, Fr2 q_ → w.heap.size ≤ q_) ∧ (i ≤ om.length)) (fun i => om.length - i) 0 ?_ ?_
          · refine ⟨F_49, F_59, ⟨rfl, rfl, rfl, rfl, rfl, rfl, rfl, trivial⟩, K0, hb_41, hO_26, hO_27, hD_51, hR_61, pr_56, pr_54, pr_55, (fun q_ h1 h2 => pr_67 q_ h2 h1), pg_57, pr_66, pr_64, pr_65, pg_68, ?_⟩
            · omega
          clear hO_26 hO_27 hb_41 hD_51 hR_61
          clear K0
          rintro i ρ_84 w_71 ⟨Fd2, Fr2, hH_72, K0, hb_41, hO_26, hO_27, hO_73, hO_74, pr_75, pr_76, pr_77, pr_78, pr_79, pr_80, pr_81, pr_82, pr_83, hi2⟩ ih2
          obtain ⟨ρ₀, rfl⟩ := hH_72.ex
          clear hH_72
          refine Run.seq ?_
          refine Run.region ?_
          refine RL.val (x_ltI rfl rfl) ?_
          refine RL.nil ?_
          refine Run.seq ?_
          refine Run.cond rfl (fun hc72 => ?_) (fun hc72 => ?_)
          · try simp only [br] at hc72
            refine Run.skip ?_
            refine Run.seq ?_
            refine Run.block ?_
            refine Run.seq ?_
            refine Run.region ?_
            refine RL.val (x_moveI rfl) ?_
            obtain ⟨b_85, o_86, o, hx, ha_87, hc_88⟩ := hs2.el (i := i) (by first | omega | (simp only [List.length_set]; omega))
            have hc_88_lt := hc_88.lt
            replace hc_88 := hc_88.ext K0
            refine RL.val (x_idxN Try.underlying22 ty34 rfl rfl ha_87 (by first | omega | (simp only [List.length_set]; omega))) ?_
            refine RL.val (x_ldV (v := .agg #[.int .i64 ((o).op), .string ((o).name), .string ((o).other), .slice ((o).bytes.a) ((o).bytes.len) ((o).bytes.cap), .slice ((o).tears.a) ((o).tears.len) ((o).tears.cap)]) (y := o) ty34 rfl hc_88 rfl) ?_
            refine RL.st rfl <| St1.alloc ty34 ?_
            intro b_91 w_92 hl_95 hb_94 K_93
            replace hb_94 : Blk w_92 b_91 [.int .i64 (0), .string (⟨#[]⟩), .string (⟨#[]⟩), .slice (none) (0) (0), .slice (none) (0) (0)] 34 := hb_94
            have ne_96 : b_38 < b_91 := Nat.lt_of_lt_of_le hb_41.lt hl_95
            have ne_97 : b_85 < b_91 := Nat.lt_of_lt_of_le hc_88.lt hl_95
            have pr_98 : ¬ Fd b_91 := fun h => absurd (hO_26.own_lt _ h) (by omega)
            have pr_99 : ¬ Fr b_91 := fun h => absurd (hO_27.own_lt _ h) (by omega)
            have pr_100 : ¬ Fd2 b_91 := fun h => absurd (hO_73.own_lt _ h) (by omega)
            have pr_101 : ¬ Fr2 b_91 := fun h => absurd (hO_74.own_lt _ h) (by omega)
            have : w.heap.size ≤ b_91 := Nat.le_trans K0.size hl_95
            clear hl_95
            replace hb_41 := hb_41.ext K_93
            replace hO_26 := hO_26.ext K_93
            replace hO_27 := hO_27.ext K_93
            replace hO_73 := hO_73.ext K_93
            replace hO_74 := hO_74.ext K_93
            replace hc_88 := hc_88.ext K_93
            replace K0 := K0.ext K_93
            refine RL.val (x_assignI rfl) ?_
            refine RL.st rfl <| St1.store (v := .agg #[.int .i64 ((o).op), .string ((o).name), .string ((o).other), .slice ((o).bytes.a) ((o).bytes.len) ((o).bytes.cap), .slice ((o).tears.a) ((o).tears.len) ((o).tears.cap)]) ty34 rfl rfl rfl (by simp [Value.cells, Value.oneCell']) hb_94 (by simp) ?_
            intro w_102 hb_94_ K_103
            have hb_94' : Blk w_102 b_91 [.int .i64 ((o).op), .string ((o).name), .string ((o).other), .slice ((o).bytes.a) ((o).bytes.len) ((o).bytes.cap), .slice ((o).tears.a) ((o).tears.len) ((o).tears.cap)] 34 := hb_94_
            clear hb_94_
            replace hb_41 := hb_41.keep K_103 (by simp only [one]; omega)
            replace hO_26 := hO_26.keepO K_103 (fun q_ hq_ eq_ => pr_98 (by simp only [one] at eq_; rw [← eq_]; exact hq_))
            replace hO_27 := hO_27.keepO K_103 (fun q_ hq_ eq_ => pr_99 (by simp only [one] at eq_; rw [← eq_]; exact hq_))
            replace hO_73 := hO_73.keepO K_103 (fun q_ hq_ eq_ => pr_100 (by simp only [one] at eq_; rw [← eq_]; exact hq_))
            replace hO_74 := hO_74.keepO K_103 (fun q_ hq_ eq_ => pr_101 (by simp only [one] at eq_; rw [← eq_]; exact hq_))
            replace hc_88 := hc_88.keep K_103 (by simp only [one]; omega)
            replace K0 := K0.new K_103 (fun x hx => by simp only [one] at hx; omega)
            replace hb_94 := hb_94'
            clear hb_94'
            refine RL.nil ?_
            obtain ⟨p, hp⟩ : ∃ p_, pm[i]? = some p_ := ⟨_, List.getElem?_eq_getElem (by rw [← hpm.len]; omega)⟩
            obtain ⟨b, pts, hpe, hdo⟩ := hpm.all i o p hx hp
            refine Run.seq ?_
            refine Run.seq ?_
            refine Run.region ?_
            refine RL.val (x_moveI rfl) ?_
            refine RL.val (x_gtI rfl rfl) ?_
            refine RL.nil ?_
            refine Run.cond rfl (fun hc77 => ?_) (fun hc77 => ?_)
            · try simp only [br] at hc77
              refine Run.exit rfl ?_
              refine Run.seq ?_
              refine Run.region ?_
              refine RL.val (x_moveP rfl) ?_
              refine RL.val (x_moveP rfl) ?_
              refine RL.st rfl <| St1.call (vals := [.pointer (some ⟨d_48, 0, none⟩), .pointer (some ⟨x_58, 0, none⟩)]) en31 rfl (alikeRA hO_73 hO_74 pr_78) ?_
              rintro _ w_104 ⟨rfl, K_105⟩
              replace hb_41 := hb_41.ext K_105
              replace hO_26 := hO_26.ext K_105
              replace hO_27 := hO_27.ext K_105
              replace hO_73 := hO_73.ext K_105
              replace hO_74 := hO_74.ext K_105
              replace hb_94 := hb_94.ext K_105
              replace K0 := K0.ext K_105
              refine RL.val (x_moveB rfl) ?_
              refine RL.gst (wantedT1 rfl rfl rfl rfl) <| St1.val (x_moveP rfl) ?_
              refine RL.gst (wantedT1 rfl rfl rfl rfl) <| St1.val (x_moveP rfl) ?_
              refine RL.gst (wantedT1 rfl rfl rfl rfl) <| St1.call (vals := [.pointer (some ⟨d_1, 0, none⟩), .pointer (some ⟨x_16, 0, none⟩)]) en31 rfl (alikeRA hO_26 hO_27 pr_28) ?_
              rintro _ w_106 ⟨rfl, K_107⟩
              replace hb_41 := hb_41.ext K_107
              replace hO_26 := hO_26.ext K_107
              replace hO_27 := hO_27.ext K_107
              replace hO_73 := hO_73.ext K_107
              replace hO_74 := hO_74.ext K_107
              replace hb_94 := hb_94.ext K_107
              replace K0 := K0.ext K_107
              refine RL.val (x_andT rfl rfl rfl) ?_
              refine RL.val (x_moveB rfl) ?_
              refine RL.gst (wantedT1 rfl rfl rfl rfl) <| St1.call (vals := []) en11 rfl (awake_ _) ?_
              rintro _ w_108 ⟨rfl, K_109⟩
              replace hb_41 := hb_41.ext K_109
              replace hO_26 := hO_26.ext K_109
              replace hO_27 := hO_27.ext K_109
              replace hO_73 := hO_73.ext K_109
              replace hO_74 := hO_74.ext K_109
              replace hb_94 := hb_94.ext K_109
              replace K0 := K0.ext K_109
              refine RL.val (x_andT rfl rfl rfl) ?_
              refine RL.val (x_assignB rfl) ?_
              refine RL.nil ?_
              refine Run.ret1 (v := .bool (true)) Try.func8 rfl rfl ?_
              exact ⟨_, rfl, rfl, K0⟩
            · try simp only [br] at hc77
              refine Run.skip ?_
              refine Run.seq ?_
              refine Run.region ?_
              refine RL.val (x_moveP rfl) ?_
              refine RL.val (x_moveP rfl) ?_
              refine RL.val (x_lds (cs := #[.int .i64 ((o).op), .string ((o).name), .string ((o).other), .slice ((o).bytes.a) ((o).bytes.len) ((o).bytes.cap), .slice ((o).tears.a) ((o).tears.len) ((o).tears.cap)]) ty34 rfl rfl (hb_94.cl.drop 0 5)) ?_
              refine RL.st rfl <| St1.call (vals := [.pointer (some ⟨d_48, 0, none⟩), .pointer (some ⟨x_58, 0, none⟩), .agg #[.int .i64 ((o).op), .string ((o).name), .string ((o).other), .slice ((o).bytes.a) ((o).bytes.len) ((o).bytes.cap), .slice ((o).tears.a) ((o).tears.len) ((o).tears.cap)]]) en30 rfl (does_ d_48 Fd2 x_58 Fr2 room (runX room (runX room [] (ps.take i1)) (pm.take i)) o _ _ w _ hO_73 hO_74 pr_78 hdo K0 (fun q_ h_ => h_.elim (pr_79 q_) (pr_83 q_))) ?_
              rintro _ w_110 ⟨rfl, Fd_111, Fr_112, hD_113, hR_114, hm_115, hm_116, hap_117, K_118⟩
              rw [← hpe] at hD_113 hR_114
              have pr_119 : ¬ Fd_111 b_38 := hm_115.not pr_75 hb_41.lt
              have pr_120 : ∀ q_, Fd_111 q_ → ¬ Fd q_ := hm_115.apart pr_76 hO_26.own_lt
              have pr_121 : ∀ q_, Fd_111 q_ → ¬ Fr q_ := hm_115.apart pr_77 hO_27.own_lt
              have pr_122 : ¬ Fd_111 b_91 := hm_115.not pr_100 hb_94.lt
              have pg_123 : ∀ q_, Fd_111 q_ → w.heap.size ≤ q_ := hm_115.ge pr_79 K0.size
              have pr_124 : ¬ Fr_112 b_38 := hm_116.not pr_80 hb_41.lt
              have pr_125 : ∀ q_, Fr_112 q_ → ¬ Fd q_ := hm_116.apart pr_81 hO_26.own_lt
              have pr_126 : ∀ q_, Fr_112 q_ → ¬ Fr q_ := hm_116.apart pr_82 hO_27.own_lt
              have pr_127 : ¬ Fr_112 b_91 := hm_116.not pr_101 hb_94.lt
              have pg_128 : ∀ q_, Fr_112 q_ → w.heap.size ≤ q_ := hm_116.ge pr_83 K0.size
              have pr_129 : ¬ (fun q => Fd2 q ∨ Fr2 q) b_38 := fun x_ => ((fun q_ h_ => h_) _ x_).elim pr_75 (fun y_ => pr_80 y_)
              have pr_130 : ∀ q_, (fun q => Fd2 q ∨ Fr2 q) q_ → ¬ Fd q_ := fun q_ x_ z_ => ((fun q_ h_ => h_) _ x_).elim (fun y_ => pr_76 q_ y_ z_) (fun y_ => (fun y_ => pr_81 q_ y_ z_) y_)
              have pr_131 : ∀ q_, (fun q => Fd2 q ∨ Fr2 q) q_ → ¬ Fr q_ := fun q_ x_ z_ => ((fun q_ h_ => h_) _ x_).elim (fun y_ => pr_77 q_ y_ z_) (fun y_ => (fun y_ => pr_82 q_ y_ z_) y_)
              have pr_132 : ¬ (fun q => Fd2 q ∨ Fr2 q) b_91 := fun x_ => ((fun q_ h_ => h_) _ x_).elim pr_100 (fun y_ => pr_101 y_)
              have pg_133 : ∀ q_, (fun q => Fd2 q ∨ Fr2 q) q_ → w.heap.size ≤ q_ := fun q_ x_ => ((fun q_ h_ => h_) _ x_).elim (fun y_ => pr_79 q_ y_) (fun y_ => (fun y_ => pr_83 q_ y_) y_)
              replace hb_41 := hb_41.keep K_118 pr_129
              replace hO_26 := hO_26.keepO K_118 (fun q_ h1 h2 => pr_130 q_ h2 h1)
              replace hO_27 := hO_27.keepO K_118 (fun q_ h1 h2 => pr_131 q_ h2 h1)
              replace hb_94 := hb_94.keep K_118 pr_132
              replace K0 := K0.new K_118 pg_133
              refine RL.val (x_not rfl) ?_
              refine RL.val (x_moveB rfl) ?_
              refine RL.gst (wantedF1 rfl rfl rfl rfl) <| St1.val (x_moveP rfl) ?_
              refine RL.gst (wantedF1 rfl rfl rfl rfl) <| St1.val (x_moveP rfl) ?_
              refine RL.gst (wantedF1 rfl rfl rfl rfl) <| St1.call (vals := [.pointer (some ⟨d_1, 0, none⟩), .pointer (some ⟨x_16, 0, none⟩)]) en31 rfl (alikeRA hO_26 hO_27 pr_28) ?_
              rintro _ w_134 ⟨rfl, K_135⟩
              replace hb_41 := hb_41.ext K_135
              replace hO_26 := hO_26.ext K_135
              replace hO_27 := hO_27.ext K_135
              replace hb_94 := hb_94.ext K_135
              replace hD_113 := hD_113.ext K_135
              replace hR_114 := hR_114.ext K_135
              replace K0 := K0.ext K_135
              refine RL.gst (wantedF1 rfl rfl rfl rfl) <| St1.val (x_not rfl) ?_
              refine RL.val (x_orF rfl rfl rfl) ?_
              refine RL.nil ?_
              rw [← runX_snoc hp] at hD_113 hR_114
              refine Run.condF rfl ?_
              refine Run.skip ?_
              refine Run.inBlock ?_
              refine Run.region ?_
              refine RL.val (litI (c := ((i + 1 : Nat) : Int)) (x_add rfl rfl (by omega) (by omega)) rfl) ?_
              refine RL.val (x_moveI rfl) ?_
              refine RL.nil ?_
              refine ih2 (i + 1) _ _ ?_ (by omega)
              refine ⟨_, _, ⟨rfl, rfl, rfl, rfl, rfl, rfl, rfl, trivial⟩, K0, hb_41, hO_26, hO_27, hD_113, hR_114, pr_119, pr_120, pr_121, hap_117, pg_123, pr_124, pr_125, pr_126, pg_128, ?_⟩
              · omega
          · try simp only [br] at hc72
            refine Run.exit rfl ?_
            refine Run.seq ?_
            refine Run.region ?_
            refine RL.val (x_moveP rfl) ?_
            refine RL.val (x_moveP rfl) ?_
            refine RL.st rfl <| St1.call (vals := [.pointer (some ⟨d_48, 0, none⟩), .pointer (some ⟨x_58, 0, none⟩)]) en31 rfl (alikeRA hO_73 hO_74 pr_78) ?_
            rintro _ w_136 ⟨rfl, K_137⟩
            replace hb_41 := hb_41.ext K_137
            replace hO_26 := hO_26.ext K_137
            replace hO_27 := hO_27.ext K_137
            replace hO_73 := hO_73.ext K_137
            replace hO_74 := hO_74.ext K_137
            replace K0 := K0.ext K_137
            refine RL.val (x_moveB rfl) ?_
            refine RL.gst (wantedT1 rfl rfl rfl rfl) <| St1.val (x_moveP rfl) ?_
            refine RL.gst (wantedT1 rfl rfl rfl rfl) <| St1.val (x_moveP rfl) ?_
            refine RL.gst (wantedT1 rfl rfl rfl rfl) <| St1.call (vals := [.pointer (some ⟨d_1, 0, none⟩), .pointer (some ⟨x_16, 0, none⟩)]) en31 rfl (alikeRA hO_26 hO_27 pr_28) ?_
            rintro _ w_138 ⟨rfl, K_139⟩
            replace hb_41 := hb_41.ext K_139
            replace hO_26 := hO_26.ext K_139
            replace hO_27 := hO_27.ext K_139
            replace hO_73 := hO_73.ext K_139
            replace hO_74 := hO_74.ext K_139
            replace K0 := K0.ext K_139
            refine RL.val (x_andT rfl rfl rfl) ?_
            refine RL.val (x_moveB rfl) ?_
            refine RL.gst (wantedT1 rfl rfl rfl rfl) <| St1.call (vals := []) en11 rfl (awake_ _) ?_
            rintro _ w_140 ⟨rfl, K_141⟩
            replace hb_41 := hb_41.ext K_141
            replace hO_26 := hO_26.ext K_141
            replace hO_27 := hO_27.ext K_141
            replace hO_73 := hO_73.ext K_141
            replace hO_74 := hO_74.ext K_141
            replace K0 := K0.ext K_141
            refine RL.val (x_andT rfl rfl rfl) ?_
            refine RL.val (x_assignB rfl) ?_
            refine RL.nil ?_
            refine Run.ret1 (v := .bool (true)) Try.func8 rfl rfl ?_
            exact ⟨_, rfl, rfl, K0⟩
        · try simp only [br] at hc50
          refine Run.skip ?_
          refine Run.seq ?_
          refine Run.region ?_
          refine RL.val (x_moveP rfl) ?_
          refine RL.val (x_moveP rfl) ?_
          refine RL.val (x_lds (cs := #[.int .i64 ((o).op), .string ((o).name), .string ((o).other), .slice ((o).bytes.a) ((o).bytes.len) ((o).bytes.cap), .slice ((o).tears.a) ((o).tears.len) ((o).tears.cap)]) ty34 rfl rfl (hb_41.cl.drop 0 5)) ?_
          refine RL.st rfl <| St1.call (vals := [.pointer (some ⟨d_1, 0, none⟩), .pointer (some ⟨x_16, 0, none⟩), .agg #[.int .i64 ((o).op), .string ((o).name), .string ((o).other), .slice ((o).bytes.a) ((o).bytes.len) ((o).bytes.cap), .slice ((o).tears.a) ((o).tears.len) ((o).tears.cap)]]) en30 rfl (does_ d_1 Fd x_16 Fr room (runX room [] (ps.take i)) o _ _ w _ hO_26 hO_27 pr_28 hdo K0 (fun q_ h_ => h_.elim (pr_29 q_) (pr_30 q_))) ?_
          rintro _ w_142 ⟨rfl, Fd_143, Fr_144, hD_145, hR_146, hm_147, hm_148, hap_149, K_150⟩
          rw [← hpe] at hD_145 hR_146
          have pr_151 : ¬ Fd_143 b_38 := hm_147.not pr_44 hb_41.lt
          have pg_152 : ∀ q_, Fd_143 q_ → w.heap.size ≤ q_ := hm_147.ge pr_29 K0.size
          have pr_153 : ¬ Fr_144 b_38 := hm_148.not pr_45 hb_41.lt
          have pg_154 : ∀ q_, Fr_144 q_ → w.heap.size ≤ q_ := hm_148.ge pr_30 K0.size
          have pr_155 : ¬ (fun q => Fd q ∨ Fr q) b_38 := fun x_ => ((fun q_ h_ => h_) _ x_).elim pr_44 (fun y_ => pr_45 y_)
          have pg_156 : ∀ q_, (fun q => Fd q ∨ Fr q) q_ → w.heap.size ≤ q_ := fun q_ x_ => ((fun q_ h_ => h_) _ x_).elim (fun y_ => pr_29 q_ y_) (fun y_ => (fun y_ => pr_30 q_ y_) y_)
          replace hb_41 := hb_41.keep K_150 pr_155
          replace K0 := K0.new K_150 pg_156
          refine RL.val (x_not rfl) ?_
          refine RL.nil ?_
          rw [← runX_snoc hp] at hD_145 hR_146
          refine Run.condF rfl ?_
          refine Run.skip ?_
          refine Run.inBlock ?_
          refine Run.region ?_
          refine RL.val (litI (c := ((i + 1 : Nat) : Int)) (x_add rfl rfl (by omega) (by omega)) rfl) ?_
          refine RL.val (x_moveI rfl) ?_
          refine RL.nil ?_
          refine ih1 (i + 1) _ _ ?_ (by omega)
          refine ⟨_, _, ⟨rfl, rfl, rfl, rfl, rfl, rfl, trivial⟩, K0, hD_145, hR_146, hap_149, pg_152, pg_154, ?_⟩
          · omega
      · try simp only [br] at hc45
        refine Run.exit rfl ?_
        refine Run.seq ?_
        obtain ⟨i1, hi1⟩ : ∃ i1, i1 = i := ⟨i, rfl⟩
        rw [← hi1] at hO_26 hO_27
        clear hi1
        refine Run.region ?_
        refine RL.val (x_moveP rfl) ?_
        refine RL.st rfl <| St1.call (vals := [.pointer (some ⟨d_1, 0, none⟩)]) en16 rfl (copyD hO_26) ?_
        rintro _ w_159 ⟨d_157, F_158, rfl, hD_160, hg_161, K_162⟩
        have pr_163 : ∀ q_, F_158 q_ → ¬ Fd q_ := apartNew hg_161 hO_26.own_lt
        have pr_164 : ∀ q_, F_158 q_ → ¬ Fr q_ := apartNew hg_161 hO_27.own_lt
        have pg_165 : ∀ q_, F_158 q_ → w.heap.size ≤ q_ := fun q_ h => Nat.le_trans K0.size (hg_161 q_ h)
        clear hg_161
        replace hO_26 := hO_26.ext K_162
        replace hO_27 := hO_27.ext K_162
        replace K0 := K0.ext K_162
        refine RL.val (x_moveP rfl) ?_
        refine RL.st rfl <| St1.call (vals := [.pointer (some ⟨x_16, 0, none⟩)]) en35 rfl (copyRA hO_27) ?_
        rintro _ w_168 ⟨x_166, F_167, rfl, hR_169, hg_170, K_171⟩
        have pr_172 : ∀ q_, F_167 q_ → ¬ Fd q_ := apartNew hg_170 hO_26.own_lt
        have pr_173 : ∀ q_, F_167 q_ → ¬ Fr q_ := apartNew hg_170 hO_27.own_lt
        have pr_174 : ∀ q_, F_167 q_ → ¬ F_158 q_ := apartNew hg_170 hD_160.own_lt
        have pg_175 : ∀ q_, F_167 q_ → w.heap.size ≤ q_ := fun q_ h => Nat.le_trans K0.size (hg_170 q_ h)
        clear hg_170
        replace hO_26 := hO_26.ext K_171
        replace hO_27 := hO_27.ext K_171
        replace hD_160 := hD_160.ext K_171
        replace K0 := K0.ext K_171
        refine RL.val (x_assignP rfl) ?_
        refine RL.val (x_assignP rfl) ?_
        refine RL.nil ?_
        refine Run.seq ?_
        refine Run.seq ?_
        refine Run.region ?_
        refine RL.val (x_moveP rfl) ?_
        refine RL.val (litF (x_ptrNil Try.underlying23 rfl rfl) rfl) ?_
        refine RL.val (x_moveB rfl) ?_
        refine RL.gst (wantedF1 rfl rfl rfl rfl) <| St1.val (x_moveP rfl) ?_
        refine RL.gst (wantedF1 rfl rfl rfl rfl) <| St1.val (x_moveP rfl) ?_
        refine RL.gst (wantedF1 rfl rfl rfl rfl) <| St1.call (vals := [.pointer (some ⟨d_157, 0, none⟩), .pointer (some ⟨x_166, 0, none⟩)]) en31 rfl (alikeRA hD_160 hR_169 (fun q_ h1 h2 => pr_174 q_ h2 h1)) ?_
        rintro _ w_176 ⟨rfl, K_177⟩
        replace hO_26 := hO_26.ext K_177
        replace hO_27 := hO_27.ext K_177
        replace hD_160 := hD_160.ext K_177
        replace hR_169 := hR_169.ext K_177
        replace K0 := K0.ext K_177
        refine RL.gst (wantedF1 rfl rfl rfl rfl) <| St1.val (x_not rfl) ?_
        refine RL.val (x_orF rfl rfl rfl) ?_
        refine RL.nil ?_
        refine Run.condF rfl ?_
        refine Run.skip ?_
        refine Run.seq ?_
        refine Run.seq ?_
        rw [show (runX room [] (ps.take i1)) = runX room (runX room [] (ps.take i1)) (pm.take 0) from rfl] at hD_160 hR_169
        refine Run.region ?_
        refine RL.val (x_moveSl rfl) ?_
        refine RL.val (x_lenSl Try.underlying22 rfl) ?_
        refine RL.val (x_moveI rfl) ?_
        refine RL.nil ?_
        refine Run.block ?_
        refine Run.loop (ι := Nat) (fun i ρ' w' => ∃ Fd2 : Nat → Prop, ∃ Fr2 : Nat → Prop, Holds ρ' [(7, .pointer (some ⟨d_1, 0, none⟩)), (9, .pointer (some ⟨x_16, 0, none⟩)), (13, .pointer (some ⟨d_157, 0, none⟩)), (14, .pointer (some ⟨x_166, 0, none⟩)), (69, .slice (a2) (om.length) (c2)), (70, .int .i64 (((om.length : Nat) : Int))), (71, .int .i64 (((i : Nat) : Int)))] ∧ Ext w w' ∧ (DiskAt w' d_1 Fd room (runX room [] (ps.take i1))) ∧ (RefAt w' x_16 Fr room (runX room [] (ps.take i1))) ∧ (DiskAt w' d_157 Fd2 room (runX room (runX room [] (ps.take i1)) (pm.take i))) ∧ (RefAt w' x_166 Fr2 room (runX room (runX room [] (ps.take i1)) (pm.take i))) ∧ (∀ q_, Fd2 q_ → ¬ Fd q_) ∧ (∀ q_, Fd2 q_ → ¬ Fr q_) ∧ (∀ q_, Fd2 q_ → ¬ Fr2 q_) ∧ (∀ q_, Fd2 q_ → w.heap.size ≤ q_) ∧ (∀ q_, Fr2 q_ → ¬ Fd q_) ∧ (∀ q_, Fr2 q_ → ¬ Fr q_) ∧ (∀ q_, Fr2 q_ → w.heap.size ≤ q_) ∧ (i ≤ om.length)) (fun i => om.length - i) 0 ?_ ?_
        · refine ⟨F_158, F_167, ⟨rfl, rfl, rfl, rfl, rfl, rfl, rfl, trivial⟩, K0, hO_26, hO_27, hD_160, hR_169, pr_163, pr_164, (fun q_ h1 h2 => pr_174 q_ h2 h1), pg_165, pr_172, pr_173, pg_175, ?_⟩
          · omega
        clear hO_26 hO_27 hD_160 hR_169
        clear K0
        rintro i ρ_189 w_178 ⟨Fd2, Fr2, hH_179, K0, hO_26, hO_27, hO_180, hO_181, pr_182, pr_183, pr_184, pr_185, pr_186, pr_187, pr_188, hi2⟩ ih3
        obtain ⟨ρ₀, rfl⟩ := hH_179.ex
        clear hH_179
        refine Run.seq ?_
        refine Run.region ?_
        refine RL.val (x_ltI rfl rfl) ?_
        refine RL.nil ?_
        refine Run.seq ?_
        refine Run.cond rfl (fun hc72 => ?_) (fun hc72 => ?_)
        · try simp only [br] at hc72
          refine Run.skip ?_
          refine Run.seq ?_
          refine Run.block ?_
          refine Run.seq ?_
          refine Run.region ?_
          refine RL.val (x_moveI rfl) ?_
          obtain ⟨b_190, o_191, o, hx, ha_192, hc_193⟩ := hs2.el (i := i) (by first | omega | (simp only [List.length_set]; omega))
          have hc_193_lt := hc_193.lt
          replace hc_193 := hc_193.ext K0
          refine RL.val (x_idxN Try.underlying22 ty34 rfl rfl ha_192 (by first | omega | (simp only [List.length_set]; omega))) ?_
          refine RL.val (x_ldV (v := .agg #[.int .i64 ((o).op), .string ((o).name), .string ((o).other), .slice ((o).bytes.a) ((o).bytes.len) ((o).bytes.cap), .slice ((o).tears.a) ((o).tears.len) ((o).tears.cap)]) (y := o) ty34 rfl hc_193 rfl) ?_
          refine RL.st rfl <| St1.alloc ty34 ?_
          intro b_196 w_197 hl_200 hb_199 K_198
          replace hb_199 : Blk w_197 b_196 [.int .i64 (0), .string (⟨#[]⟩), .string (⟨#[]⟩), .slice (none) (0) (0), .slice (none) (0) (0)] 34 := hb_199
          have ne_201 : b_190 < b_196 := Nat.lt_of_lt_of_le hc_193.lt hl_200
          have pr_202 : ¬ Fd b_196 := fun h => absurd (hO_26.own_lt _ h) (by omega)
          have pr_203 : ¬ Fr b_196 := fun h => absurd (hO_27.own_lt _ h) (by omega)
          have pr_204 : ¬ Fd2 b_196 := fun h => absurd (hO_180.own_lt _ h) (by omega)
          have pr_205 : ¬ Fr2 b_196 := fun h => absurd (hO_181.own_lt _ h) (by omega)
          have : w.heap.size ≤ b_196 := Nat.le_trans K0.size hl_200
          clear hl_200
          replace hO_26 := hO_26.ext K_198
          replace hO_27 := hO_27.ext K_198
          replace hO_180 := hO_180.ext K_198
          replace hO_181 := hO_181.ext K_198
          replace hc_193 := hc_193.ext K_198
          replace K0 := K0.ext K_198
          refine RL.val (x_assignI rfl) ?_
          refine RL.st rfl <| St1.store (v := .agg #[.int .i64 ((o).op), .string ((o).name), .string ((o).other), .slice ((o).bytes.a) ((o).bytes.len) ((o).bytes.cap), .slice ((o).tears.a) ((o).tears.len) ((o).tears.cap)]) ty34 rfl rfl rfl (by simp [Value.cells, Value.oneCell']) hb_199 (by simp) ?_
          intro w_206 hb_199_ K_207
          have hb_199' : Blk w_206 b_196 [.int .i64 ((o).op), .string ((o).name), .string ((o).other), .slice ((o).bytes.a) ((o).bytes.len) ((o).bytes.cap), .slice ((o).tears.a) ((o).tears.len) ((o).tears.cap)] 34 := hb_199_
          clear hb_199_
          replace hO_26 := hO_26.keepO K_207 (fun q_ hq_ eq_ => pr_202 (by simp only [one] at eq_; rw [← eq_]; exact hq_))
          replace hO_27 := hO_27.keepO K_207 (fun q_ hq_ eq_ => pr_203 (by simp only [one] at eq_; rw [← eq_]; exact hq_))
          replace hO_180 := hO_180.keepO K_207 (fun q_ hq_ eq_ => pr_204 (by simp only [one] at eq_; rw [← eq_]; exact hq_))
          replace hO_181 := hO_181.keepO K_207 (fun q_ hq_ eq_ => pr_205 (by simp only [one] at eq_; rw [← eq_]; exact hq_))
          replace hc_193 := hc_193.keep K_207 (by simp only [one]; omega)
          replace K0 := K0.new K_207 (fun x hx => by simp only [one] at hx; omega)
          replace hb_199 := hb_199'
          clear hb_199'
          refine RL.nil ?_
          obtain ⟨p, hp⟩ : ∃ p_, pm[i]? = some p_ := ⟨_, List.getElem?_eq_getElem (by rw [← hpm.len]; omega)⟩
          obtain ⟨b, pts, hpe, hdo⟩ := hpm.all i o p hx hp
          refine Run.seq ?_
          refine Run.seq ?_
          refine Run.region ?_
          refine RL.val (x_moveI rfl) ?_
          refine RL.val (x_gtI rfl rfl) ?_
          refine RL.nil ?_
          refine Run.cond rfl (fun hc77 => ?_) (fun hc77 => ?_)
          · try simp only [br] at hc77
            refine Run.exit rfl ?_
            refine Run.seq ?_
            refine Run.region ?_
            refine RL.val (x_moveP rfl) ?_
            refine RL.val (x_moveP rfl) ?_
            refine RL.st rfl <| St1.call (vals := [.pointer (some ⟨d_157, 0, none⟩), .pointer (some ⟨x_166, 0, none⟩)]) en31 rfl (alikeRA hO_180 hO_181 pr_184) ?_
            rintro _ w_208 ⟨rfl, K_209⟩
            replace hO_26 := hO_26.ext K_209
            replace hO_27 := hO_27.ext K_209
            replace hO_180 := hO_180.ext K_209
            replace hO_181 := hO_181.ext K_209
            replace hb_199 := hb_199.ext K_209
            replace K0 := K0.ext K_209
            refine RL.val (x_moveB rfl) ?_
            refine RL.gst (wantedT1 rfl rfl rfl rfl) <| St1.val (x_moveP rfl) ?_
            refine RL.gst (wantedT1 rfl rfl rfl rfl) <| St1.val (x_moveP rfl) ?_
            refine RL.gst (wantedT1 rfl rfl rfl rfl) <| St1.call (vals := [.pointer (some ⟨d_1, 0, none⟩), .pointer (some ⟨x_16, 0, none⟩)]) en31 rfl (alikeRA hO_26 hO_27 pr_28) ?_
            rintro _ w_210 ⟨rfl, K_211⟩
            replace hO_26 := hO_26.ext K_211
            replace hO_27 := hO_27.ext K_211
            replace hO_180 := hO_180.ext K_211
            replace hO_181 := hO_181.ext K_211
            replace hb_199 := hb_199.ext K_211
            replace K0 := K0.ext K_211
            refine RL.val (x_andT rfl rfl rfl) ?_
            refine RL.val (x_moveB rfl) ?_
            refine RL.gst (wantedT1 rfl rfl rfl rfl) <| St1.call (vals := []) en11 rfl (awake_ _) ?_
            rintro _ w_212 ⟨rfl, K_213⟩
            replace hO_26 := hO_26.ext K_213
            replace hO_27 := hO_27.ext K_213
            replace hO_180 := hO_180.ext K_213
            replace hO_181 := hO_181.ext K_213
            replace hb_199 := hb_199.ext K_213
            replace K0 := K0.ext K_213
            refine RL.val (x_andT rfl rfl rfl) ?_
            refine RL.val (x_assignB rfl) ?_
            refine RL.nil ?_
            refine Run.ret1 (v := .bool (true)) Try.func8 rfl rfl ?_
            exact ⟨_, rfl, rfl, K0⟩
          · try simp only [br] at hc77
            refine Run.skip ?_
            refine Run.seq ?_
            refine Run.region ?_
            refine RL.val (x_moveP rfl) ?_
            refine RL.val (x_moveP rfl) ?_
            refine RL.val (x_lds (cs := #[.int .i64 ((o).op), .string ((o).name), .string ((o).other), .slice ((o).bytes.a) ((o).bytes.len) ((o).bytes.cap), .slice ((o).tears.a) ((o).tears.len) ((o).tears.cap)]) ty34 rfl rfl (hb_199.cl.drop 0 5)) ?_
            refine RL.st rfl <| St1.call (vals := [.pointer (some ⟨d_157, 0, none⟩), .pointer (some ⟨x_166, 0, none⟩), .agg #[.int .i64 ((o).op), .string ((o).name), .string ((o).other), .slice ((o).bytes.a) ((o).bytes.len) ((o).bytes.cap), .slice ((o).tears.a) ((o).tears.len) ((o).tears.cap)]]) en30 rfl (does_ d_157 Fd2 x_166 Fr2 room (runX room (runX room [] (ps.take i1)) (pm.take i)) o _ _ w _ hO_180 hO_181 pr_184 hdo K0 (fun q_ h_ => h_.elim (pr_185 q_) (pr_188 q_))) ?_
            rintro _ w_214 ⟨rfl, Fd_215, Fr_216, hD_217, hR_218, hm_219, hm_220, hap_221, K_222⟩
            rw [← hpe] at hD_217 hR_218
            have pr_223 : ∀ q_, Fd_215 q_ → ¬ Fd q_ := hm_219.apart pr_182 hO_26.own_lt
            have pr_224 : ∀ q_, Fd_215 q_ → ¬ Fr q_ := hm_219.apart pr_183 hO_27.own_lt
            have pr_225 : ¬ Fd_215 b_196 := hm_219.not pr_204 hb_199.lt
            have pg_226 : ∀ q_, Fd_215 q_ → w.heap.size ≤ q_ := hm_219.ge pr_185 K0.size
            have pr_227 : ∀ q_, Fr_216 q_ → ¬ Fd q_ := hm_220.apart pr_186 hO_26.own_lt
            have pr_228 : ∀ q_, Fr_216 q_ → ¬ Fr q_ := hm_220.apart pr_187 hO_27.own_lt
            have pr_229 : ¬ Fr_216 b_196 := hm_220.not pr_205 hb_199.lt
            have pg_230 : ∀ q_, Fr_216 q_ → w.heap.size ≤ q_ := hm_220.ge pr_188 K0.size
            have pr_231 : ∀ q_, (fun q => Fd2 q ∨ Fr2 q) q_ → ¬ Fd q_ := fun q_ x_ z_ => ((fun q_ h_ => h_) _ x_).elim (fun y_ => pr_182 q_ y_ z_) (fun y_ => (fun y_ => pr_186 q_ y_ z_) y_)
            have pr_232 : ∀ q_, (fun q => Fd2 q ∨ Fr2 q) q_ → ¬ Fr q_ := fun q_ x_ z_ => ((fun q_ h_ => h_) _ x_).elim (fun y_ => pr_183 q_ y_ z_) (fun y_ => (fun y_ => pr_187 q_ y_ z_) y_)
            have pr_233 : ¬ (fun q => Fd2 q ∨ Fr2 q) b_196 := fun x_ => ((fun q_ h_ => h_) _ x_).elim pr_204 (fun y_ => pr_205 y_)
            have pg_234 : ∀ q_, (fun q => Fd2 q ∨ Fr2 q) q_ → w.heap.size ≤ q_ := fun q_ x_ => ((fun q_ h_ => h_) _ x_).elim (fun y_ => pr_185 q_ y_) (fun y_ => (fun y_ => pr_188 q_ y_) y_)
            replace hO_26 := hO_26.keepO K_222 (fun q_ h1 h2 => pr_231 q_ h2 h1)
            replace hO_27 := hO_27.keepO K_222 (fun q_ h1 h2 => pr_232 q_ h2 h1)
            replace hb_199 := hb_199.keep K_222 pr_233
            replace K0 := K0.new K_222 pg_234
            refine RL.val (x_not rfl) ?_
            refine RL.val (x_moveB rfl) ?_
            refine RL.gst (wantedF1 rfl rfl rfl rfl) <| St1.val (x_moveP rfl) ?_
            refine RL.gst (wantedF1 rfl rfl rfl rfl) <| St1.val (x_moveP rfl) ?_
            refine RL.gst (wantedF1 rfl rfl rfl rfl) <| St1.call (vals := [.pointer (some ⟨d_1, 0, none⟩), .pointer (some ⟨x_16, 0, none⟩)]) en31 rfl (alikeRA hO_26 hO_27 pr_28) ?_
            rintro _ w_235 ⟨rfl, K_236⟩
            replace hO_26 := hO_26.ext K_236
            replace hO_27 := hO_27.ext K_236
            replace hb_199 := hb_199.ext K_236
            replace hD_217 := hD_217.ext K_236
            replace hR_218 := hR_218.ext K_236
            replace K0 := K0.ext K_236
            refine RL.gst (wantedF1 rfl rfl rfl rfl) <| St1.val (x_not rfl) ?_
            refine RL.val (x_orF rfl rfl rfl) ?_
            refine RL.nil ?_
            rw [← runX_snoc hp] at hD_217 hR_218
            refine Run.condF rfl ?_
            refine Run.skip ?_
            refine Run.inBlock ?_
            refine Run.region ?_
            refine RL.val (litI (c := ((i + 1 : Nat) : Int)) (x_add rfl rfl (by omega) (by omega)) rfl) ?_
            refine RL.val (x_moveI rfl) ?_
            refine RL.nil ?_
            refine ih3 (i + 1) _ _ ?_ (by omega)
            refine ⟨_, _, ⟨rfl, rfl, rfl, rfl, rfl, rfl, rfl, trivial⟩, K0, hO_26, hO_27, hD_217, hR_218, pr_223, pr_224, hap_221, pg_226, pr_227, pr_228, pg_230, ?_⟩
            · omega
        · try simp only [br] at hc72
          refine Run.exit rfl ?_
          refine Run.seq ?_
          refine Run.region ?_
          refine RL.val (x_moveP rfl) ?_
          refine RL.val (x_moveP rfl) ?_
          refine RL.st rfl <| St1.call (vals := [.pointer (some ⟨d_157, 0, none⟩), .pointer (some ⟨x_166, 0, none⟩)]) en31 rfl (alikeRA hO_180 hO_181 pr_184) ?_
          rintro _ w_237 ⟨rfl, K_238⟩
          replace hO_26 := hO_26.ext K_238
          replace hO_27 := hO_27.ext K_238
          replace hO_180 := hO_180.ext K_238
          replace hO_181 := hO_181.ext K_238
          replace K0 := K0.ext K_238
          refine RL.val (x_moveB rfl) ?_
          refine RL.gst (wantedT1 rfl rfl rfl rfl) <| St1.val (x_moveP rfl) ?_
          refine RL.gst (wantedT1 rfl rfl rfl rfl) <| St1.val (x_moveP rfl) ?_
          refine RL.gst (wantedT1 rfl rfl rfl rfl) <| St1.call (vals := [.pointer (some ⟨d_1, 0, none⟩), .pointer (some ⟨x_16, 0, none⟩)]) en31 rfl (alikeRA hO_26 hO_27 pr_28) ?_
          rintro _ w_239 ⟨rfl, K_240⟩
          replace hO_26 := hO_26.ext K_240
          replace hO_27 := hO_27.ext K_240
          replace hO_180 := hO_180.ext K_240
          replace hO_181 := hO_181.ext K_240
          replace K0 := K0.ext K_240
          refine RL.val (x_andT rfl rfl rfl) ?_
          refine RL.val (x_moveB rfl) ?_
          refine RL.gst (wantedT1 rfl rfl rfl rfl) <| St1.call (vals := []) en11 rfl (awake_ _) ?_
          rintro _ w_241 ⟨rfl, K_242⟩
          replace hO_26 := hO_26.ext K_242
          replace hO_27 := hO_27.ext K_242
          replace hO_180 := hO_180.ext K_242
          replace hO_181 := hO_181.ext K_242
          replace K0 := K0.ext K_242
          refine RL.val (x_andT rfl rfl rfl) ?_
          refine RL.val (x_assignB rfl) ?_
          refine RL.nil ?_
          refine Run.ret1 (v := .bool (true)) Try.func8 rfl rfl ?_
          exact ⟨_, rfl, rfl, K0⟩

end Go.Proofs.Ytambibdkanpmaaa
