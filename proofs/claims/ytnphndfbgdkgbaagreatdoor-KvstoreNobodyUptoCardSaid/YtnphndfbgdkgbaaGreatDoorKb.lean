/-
  Layer 9: KvstoreNobody.
-/
import Derived.Test.YtnphndfbgdkgbaaGreatDoorRows
import Derived.Test.YtnphndfbgdkgbaaGreatDoorYi
import Derived.Test.YtnphndfbgdkgbaaGreatDoorKa
namespace Go.Proofs.YtnphndfbgdkgbaaGreatDoor
attribute [local irreducible] St1 RL RA RT RT1 Run
attribute [local irreducible] crcN crcL crcS crcB numL leL unfR nameS segsL sortZ segI segO hasP restP
attribute [local irreducible] readAll mayP frameB openP appendP
theorem rec_ok : (appendP 4194304 [] [1, 1]).1 = 0 ∧ LogAt 0 [[1, 1]] (appendP 4194304 [] [1, 1]).2 := logAt_nil.append (b := [1, 1]) (by decide) (by decide) (by decide) (fun p h => by cases h)
theorem vput1 : vput 1 = [1] := by rw [vput_small (by decide)]; rfl

theorem ty22 : Ty Tryz.prog 22 1 8 (.pointer none) false := ty_of (by kernel_rfl) (by kernel_rfl)
theorem en4 : Enters Tryz.prog 4 := enters_of Tryz.func4 rfl (by kernel_rfl)
theorem en5 : Enters Tryz.prog 5 := enters_of Tryz.func5 rfl (by kernel_rfl)
theorem en6 : Enters Tryz.prog 6 := enters_of Tryz.func6 rfl (by kernel_rfl)
theorem en7 : Enters Tryz.prog 7 := enters_of Tryz.func7 rfl (by kernel_rfl)
theorem en8 : Enters Tryz.prog 8 := enters_of Tryz.func8 rfl (by kernel_rfl)
theorem en9 : Enters Tryz.prog 9 := enters_of Tryz.func9 rfl (by kernel_rfl)
theorem en10 : Enters Tryz.prog 10 := enters_of Tryz.func10 rfl (by kernel_rfl)
theorem en11 : Enters Tryz.prog 11 := enters_of Tryz.func11 rfl (by kernel_rfl)
theorem en12 : Enters Tryz.prog 12 := enters_of Tryz.func12 rfl (by kernel_rfl)
theorem en13 : Enters Tryz.prog 13 := enters_of Tryz.func13 rfl (by kernel_rfl)
theorem en14 : Enters Tryz.prog 14 := enters_of Tryz.func14 rfl (by kernel_rfl)
theorem en15 : Enters Tryz.prog 15 := enters_of Tryz.func15 rfl (by kernel_rfl)
theorem en16 : Enters Tryz.prog 16 := enters_of Tryz.func16 rfl (by kernel_rfl)
theorem en17 : Enters Tryz.prog 17 := enters_of Tryz.func17 rfl (by kernel_rfl)
theorem en18 : Enters Tryz.prog 18 := enters_of Tryz.func18 rfl (by kernel_rfl)
theorem en27 : Enters Tryz.prog 27 := enters_of Tryz.func27 rfl (by kernel_rfl)
theorem en30 : Enters Tryz.prog 30 := enters_of Tryz.func30 rfl (by kernel_rfl)
theorem en40 : Enters Tryz.prog 40 := enters_of Tryz.func40 rfl (by kernel_rfl)
theorem en48 : Enters Tryz.prog 48 := enters_of Tryz.func48 rfl (by kernel_rfl)
theorem en49 : Enters Tryz.prog 49 := enters_of Tryz.func49 rfl (by kernel_rfl)
theorem en94 : Enters Tryz.prog 94 := enters_of Tryz.func94 rfl (by kernel_rfl)

set_option maxRecDepth 100000 in
set_option maxHeartbeats 4000000 in
theorem locked_live (b lg m1 m2 m3 : Nat) (s : Int) (w : World) (hb : Blk w b [.int .i32 (0), .int .u32 (0), .pointer (some ⟨lg, 0, none⟩), .int .i64 (s), .map (some m1), .map (some m2), .map (some m3)] 35) :
    Calls Tryz.prog 19 #[.pointer (some ⟨b, 0, none⟩)] w (Ret (fun v w' => v = .bool true ∧ Blk w' b [.int .i32 (1), .int .u32 (0), .pointer (some ⟨lg, 0, none⟩), .int .i64 (s), .map (some m1), .map (some m2), .map (some m3)] 35 ∧ Keeps (one b) w w')) := by
  refine calls_run (n := 18) Tryz.func19 rfl rfl rfl ?_
  refine Run.seq ?_
  refine Run.region ?_
  refine RL.val (x_assignB rfl) ?_
  refine RL.nil ?_
  refine Run.seq ?_
  refine Run.seq ?_
  refine Run.region ?_
  refine RL.val (x_moveP rfl) ?_
  refine RL.val (litF (x_ptrNil Tryz.underlying22 rfl rfl) rfl) ?_
  refine RL.nil ?_
  refine Run.condF rfl ?_
  refine Run.skip ?_
  refine Run.seq ?_
  refine Run.region ?_
  refine RL.val (x_moveP rfl) ?_
  refine RL.val (x_nilCheck rfl) ?_
  refine RL.val (x_fld (o' := 0) Tryz.underlying35 rfl ty29 rfl rfl rfl) ?_
  refine RL.st rfl <| St1.call (vals := [.pointer (some ⟨b, 0, none⟩)]) en50 rfl (lockB muLib hb) ?_
  rintro _ w_1 ⟨rfl, hb_2, K_3⟩
  have K0 := (Keeps.refl (one b) w).trans K_3 (fun x _ hx => by simp only [one] at hx; subst hx; exact rfl)
  replace hb : Blk w_1 b [.int .i32 (1), .int .u32 (0), .pointer (some ⟨lg, 0, none⟩), .int .i64 (s), .map (some m1), .map (some m2), .map (some m3)] 35 := hb_2
  clear hb_2
  refine RL.nil ?_
  refine Run.seq ?_
  refine Run.seq ?_
  refine Run.region ?_
  refine RL.val (x_moveP rfl) ?_
  refine RL.val (x_nilCheck rfl) ?_
  refine RL.val (x_fld (o' := 2) Tryz.underlying35 rfl ty30 rfl rfl rfl) ?_
  refine RL.val (x_ld (v := .pointer (some ⟨lg, 0, none⟩)) ty30 rfl rfl (hb.cl.field (i := 2) rfl)) ?_
  refine RL.val (litF (x_ptrNil Tryz.underlying30 rfl rfl) rfl) ?_
  refine RL.nil ?_
  refine Run.condF rfl ?_
  refine Run.skip ?_
  refine Run.seq ?_
  refine Run.region ?_
  refine RL.val (x_assignB rfl) ?_
  refine RL.nil ?_
  refine Run.ret1 (v := .bool (true)) Tryz.func19 rfl rfl ?_
  exact ⟨_, rfl, rfl, hb, K0⟩

set_option maxRecDepth 100000 in
set_option maxHeartbeats 4000000 in
theorem Starts_live (b lg m1 m2 m3 : Nat) (s : Int) (w : World) (hb : Blk w b [.int .i32 (0), .int .u32 (0), .pointer (some ⟨lg, 0, none⟩), .int .i64 (s), .map (some m1), .map (some m2), .map (some m3)] 35) :
    Calls Tryz.prog 13 #[.pointer (some ⟨b, 0, none⟩)] w (Ret (fun v w' => v = .int .i64 s ∧ Keeps (one b) w w')) := by
  refine calls_run (n := 13) Tryz.func13 rfl rfl rfl ?_
  refine Run.seq ?_
  refine Run.region ?_
  refine RL.val (x_assignI rfl) ?_
  refine RL.nil ?_
  refine Run.seq ?_
  refine Run.seq ?_
  refine Run.region ?_
  refine RL.val (x_moveP rfl) ?_
  refine RL.st rfl <| St1.call (vals := [.pointer (some ⟨b, 0, none⟩)]) en19 rfl (locked_live _ _ _ _ _ _ _ hb) ?_
  rintro _ w_1 ⟨rfl, hb_2, K_3⟩
  have K0 := (Keeps.refl (one b) w).trans K_3 (fun x _ hx => by simp only [one] at hx; subst hx; exact rfl)
  replace hb := hb_2
  clear hb_2
  refine RL.val (x_not (b := true) rfl) ?_
  refine RL.nil ?_
  refine Run.condF rfl ?_
  refine Run.skip ?_
  refine Run.seq ?_
  refine Run.region ?_
  refine RL.val (x_moveP rfl) ?_
  refine RL.val (x_nilCheck rfl) ?_
  refine RL.val (x_fld (o' := 0) Tryz.underlying35 rfl ty29 rfl rfl rfl) ?_
  refine RL.defer (vals := [.pointer (some ⟨b, 0, none⟩)]) rfl ?_
  refine Run.seq ?_
  refine Run.region ?_
  refine RL.val (x_moveP rfl) ?_
  refine RL.val (x_nilCheck rfl) ?_
  refine RL.val (x_fld (o' := 3) Tryz.underlying35 rfl ty3 rfl rfl rfl) ?_
  refine RL.val (x_ld (v := .int .i64 (s)) ty3 rfl rfl (hb.cl.field (i := 3) rfl)) ?_
  refine RL.val (x_assignI rfl) ?_
  refine RL.nil ?_
  refine Run.retU muLib Tryz.func13 rfl (fun _ => results1 rfl rfl) hb.cellH (hb.thawH 0) ?_
  obtain ⟨w_4, hwU_⟩ : ∃ w_, w_ = w_1.setCell ⟨b, 0, none⟩ (.int .i32 0) := ⟨_, rfl⟩
  rw [← hwU_]
  have hbU_ : Blk w_4 b [.int .i32 (0), .int .u32 (0), .pointer (some ⟨lg, 0, none⟩), .int .i64 (s), .map (some m1), .map (some m2), .map (some m3)] 35 := hwU_ ▸ hb.setH
  have K_5 : Keeps (one b) w_1 w_4 := hwU_ ▸ keepsCell _ _ _ _
  replace K0 := K0.trans K_5 (fun x _ hx => by simp only [one] at hx; subst hx; exact rfl)
  replace hb := hbU_
  exact ⟨_, rfl, rfl, K0⟩

set_option maxRecDepth 100000 in
set_option maxHeartbeats 4000000 in
theorem rec1_ (a : Option Addr) (c : Nat) (w : World) (hs : SlOf w a ([1] : List Int)) :
    Calls Tryz.prog 30 #[.int .i64 (1), .slice (a) (1) (c)] w (Ret (fun v w' => ∃ a' c', v = .slice a' ([1, 1] : List UInt8).length c' ∧ OwnSl w' 5 a' c' ([1, 1] : List UInt8) ∧ (∀ q, own a' q → w.heap.size ≤ q) ∧ Ext w w')) := by
  have hone : ([UInt8.ofNat 1] : List UInt8).length = 1 := rfl
  refine calls_run (n := 22) Tryz.func30 rfl rfl rfl ?_
  refine Run.seq ?_
  refine Run.region ?_
  refine RL.val (x_assignSl rfl) ?_
  refine RL.nil ?_
  refine Run.seq ?_
  refine Run.region ?_
  refine RL.val (x_moveI rfl) ?_
  refine RL.val (x_convB (a := 1) rfl ⟨_, Tryz.underlying3⟩ Tryz.underlying5) ?_
  refine RL.st rfl <| St1.buildSlice ([UInt8.ofNat 1] : List UInt8) Tryz.underlying74 ty5 rfl rfl (by first | decide | (simp [Enc.size])) ?_
  intro b_1 w_2 hl_5 ho_4 K_3
  have pg_6 : ∀ q_, own (some ⟨b_1, 0, none⟩) q_ → w.heap.size ≤ q_ := fun q_ h => Nat.le_trans (Nat.le_refl _) ((ge_new hl_5) q_ h)
  clear hl_5
  have K0 := (K_3 : Ext w _)
  refine RL.val (x_assignSl rfl) ?_
  refine RL.nil ?_
  refine Run.seq ?_
  refine Run.seq ?_
  refine Run.region ?_
  refine RL.val (x_moveSl rfl) ?_
  refine RL.val (litI (c := 1) (x_lenSl Tryz.underlying130 rfl) rfl) ?_
  refine RL.val (x_moveI rfl) ?_
  refine RL.nil ?_
  refine Run.block ?_
  refine Run.unloop ?_
  refine Run.seq ?_
  refine Run.region ?_
  refine RL.val (litT (x_ltI rfl rfl) (by decide)) ?_
  refine RL.nil ?_
  refine Run.seq ?_
  refine Run.condT rfl ?_
  refine Run.skip ?_
  refine Run.seq ?_
  refine Run.block ?_
  refine Run.seq ?_
  refine Run.region ?_
  obtain ⟨b_7, o_8, x_11, hx_12, ha_9, hc_10⟩ := hs.el (i := 0) (by simp)
  have hc_10_lt := hc_10.lt
  replace hc_10 := hc_10.ext K0
  obtain rfl : 1 = x_11 := Option.some.inj hx_12
  refine RL.val (x_idxN Tryz.underlying130 ty3 rfl rfl ha_9 (by simp)) ?_
  refine RL.val (x_ldV (v := .int .i64 (1)) (y := 1) ty3 rfl hc_10 rfl) ?_
  refine RL.val (x_assignI rfl) ?_
  refine RL.nil ?_
  refine Run.region ?_
  refine RL.val (x_moveSl rfl) ?_
  refine RL.val (x_moveI rfl) ?_
  refine RL.st rfl <| St1.call (vals := [.slice (some ⟨b_1, 0, none⟩) (([UInt8.ofNat 1] : List UInt8).length) (([UInt8.ofNat 1] : List UInt8).length), .int .i64 (1)]) en71 rfl (put_ (some ⟨b_1, 0, none⟩) ([UInt8.ofNat 1] : List UInt8) (([UInt8.ofNat 1] : List UInt8).length) 1 _ ho_4.sl (by omega) (by omega)) ?_
  rintro _ w_15 ⟨a_13, c_14, rfl, ho_16, hg_17, K_18⟩
  have pr_19 : ∀ q_, own a_13 q_ → ¬ own (some ⟨b_1, 0, none⟩) q_ := apartNew hg_17 ho_4.own_lt
  have pg_20 : ∀ q_, own a_13 q_ → w.heap.size ≤ q_ := fun q_ h => Nat.le_trans K0.size (hg_17 q_ h)
  clear hg_17
  replace ho_4 := ho_4.ext K_18
  replace K0 := K0.ext K_18
  refine RL.val (x_assignSl rfl) ?_
  refine RL.nil ?_
  refine Run.inBlock ?_
  refine Run.region ?_
  refine RL.val (litI (c := 1) (x_add rfl rfl (by decide) (by decide)) (by decide)) ?_
  refine RL.val (x_moveI rfl) ?_
  refine RL.nil ?_
  refine Run.inLoop ?_
  refine Run.seq ?_
  refine Run.region ?_
  refine RL.val (litF (x_ltI rfl rfl) (by decide)) ?_
  refine RL.nil ?_
  refine Run.seq ?_
  refine Run.condF rfl ?_
  refine Run.exit rfl ?_
  refine Run.seq ?_
  refine Run.region ?_
  refine RL.val (x_moveSl rfl) ?_
  refine RL.val (x_assignSl rfl) ?_
  refine RL.nil ?_
  refine Run.ret1 (v := .slice (a_13) ((([UInt8.ofNat 1] : List UInt8) ++ vput 1).length) (c_14)) Tryz.func30 rfl rfl ?_
  rw [vput1] at ho_16 ⊢
  exact ⟨_, rfl, a_13, c_14, rfl, ho_16, pg_20, K0⟩

set_option maxRecDepth 100000 in
set_option maxHeartbeats 4000000 in
theorem kopen_ (d : Nat) (F : Nat → Prop) (w : World) (hD : DiskAt w d F 4194304 []) (hL : LaidOk w) (hFG : ∀ q, F q → 7 ≤ q) :
    Calls Tryz.prog 49 #[.pointer (some ⟨d, 0, none⟩)] w (Ret (fun v w' => ∃ b lg m1 m2 m3, v = .tuple #[.pointer (some ⟨b, 0, none⟩), .int .i64 0] ∧ Blk w' b [.int .i32 (0), .int .u32 (0), .pointer (some ⟨lg, 0, none⟩), .int .i64 (1), .map (some m1), .map (some m2), .map (some m3)] 35 ∧ w.heap.size ≤ b ∧ Keeps F w w')) := by
  have hLs := hL.size
  refine calls_run (n := 65) Tryz.func49 rfl rfl rfl ?_
  refine Run.seq ?_
  refine Run.region ?_
  refine RL.val (x_assignP rfl) ?_
  refine RL.val (x_assignI rfl) ?_
  refine RL.nil ?_
  refine Run.seq ?_
  refine Run.region ?_
  refine RL.val (x_moveP rfl) ?_
  refine RL.st rfl <| St1.call (vals := [.pointer (some ⟨d, 0, none⟩)]) en94 rfl (open7_ _ _ _ _ _ hD hL hFG) ?_
  rintro vv w_2 ⟨F_1, hD_3, hm_4, K_5, hcs_6⟩
  rcases hcs_6 with hcs_6 | hcs_6
  · obtain ⟨he_7, a_8, c_9, rs_10, b_19, rfl, hb_20, hbF_21, hbl_22, ho_11, hR_12, hms_13, hg_14, hg_15, hap_16, hf_17, hf_18⟩ := hcs_6
    have pr_23 : ∀ q_, own a_8 q_ → ¬ F q_ := apartNew hg_14 hD.own_lt
    have pg_24 : ∀ q_, own a_8 q_ → q_ < w.heap.size → F q_ := fun q_ h hlt => absurd (Nat.le_trans (Nat.le_refl _) (hg_14 q_ h)) (by omega)
    have pw_25 : ∀ q_, own a_8 q_ → w.heap.size ≤ q_ := fun q_ h => Nat.le_trans (Nat.le_refl _) (hg_14 q_ h)
    have pr_26 : ∀ q_, recsS (rs_10) q_ → ¬ F q_ := apartNew hg_15 hD.own_lt
    have pg_27 : ∀ q_, recsS (rs_10) q_ → q_ < w.heap.size → F q_ := fun q_ h hlt => absurd (Nat.le_trans (Nat.le_refl _) (hg_15 q_ h)) (by omega)
    have pw_28 : ∀ q_, recsS (rs_10) q_ → w.heap.size ≤ q_ := fun q_ h => Nat.le_trans (Nat.le_refl _) (hg_15 q_ h)
    have : w.heap.size ≤ b_19 := Nat.le_trans (Nat.le_refl _) hbl_22
    have pg_29 : ∀ q_, F_1 q_ → q_ < w.heap.size → F q_ := hm_4.inS (fun q_ h_ _ => h_) (Nat.le_refl _)
    have pG_30 : ∀ q_, F_1 q_ → 7 ≤ q_ := fun q_ h_ => (hm_4 q_ h_).elim (hFG q_) (fun h2_ => Nat.le_trans hLs (Nat.le_trans (Nat.le_refl _) h2_))
    replace hL := hL.keep K_5 hFG
    have K0 := (Keeps.refl F w).trans K_5 (fun x hlt hx => (fun q_ h_ _ => h_) x hx hlt)
    clear hm_4
    rw [show (openP 4194304 ([] : List PF)).2.2 = ([] : List PF) from by rw [open_nil]] at hD_3
    refine RL.val (x_moveT rfl) ?_
    refine RL.val (x_extract rfl rfl) ?_
    refine RL.val (x_extract rfl rfl) ?_
    refine RL.val (x_extract rfl rfl) ?_
    refine RL.val (x_assignP rfl) ?_
    refine RL.val (x_assignSl rfl) ?_
    refine RL.val (x_assignI rfl) ?_
    refine RL.nil ?_
    have hr0 : rs_10 = [] := by
      have h9 := congrArg List.length (hms_13.trans (show (openP 4194304 ([] : List PF)).2.1 = [] by rw [open_nil]))
      simp at h9
      exact h9
    have hr1 : (rs_10.map RB.h).length = 0 := by rw [hr0]; rfl
    refine Run.seq ?_
    refine Run.seq ?_
    refine Run.region ?_
    refine RL.val (x_moveI rfl) ?_
    refine RL.val (litF (x_neI rfl rfl) (by decide)) ?_
    refine RL.nil ?_
    refine Run.condF rfl ?_
    refine Run.skip ?_
    refine Run.seq ?_
    refine Run.region ?_
    refine RL.val (x_moveP rfl) ?_
    refine RL.st rfl <| St1.makeMap (κ := ByteArray) ?_
    intro m_33 w_34 hl_35 hM_36 K_37
    have pr_38 : ∀ q_, one m_33 q_ → ¬ F_1 q_ := apartNew (ge_one hl_35) hD_3.own_lt
    have pr_39 : ∀ q_, one m_33 q_ → ¬ own a_8 q_ := apartNew (ge_one hl_35) ho_11.own_lt
    have pr_40 : ∀ q_, one m_33 q_ → ¬ recsS (rs_10) q_ := apartNew (ge_one hl_35) hR_12.own_lt
    have pr_41 : ¬ one m_33 b_19 := notNew (ge_one hl_35) hb_20.lt
    have pg_42 : ∀ q_, one m_33 q_ → q_ < w.heap.size → F q_ := fun q_ h hlt => absurd (Nat.le_trans K0.size ((ge_one hl_35) q_ h)) (by omega)
    have pw_43 : ∀ q_, one m_33 q_ → w.heap.size ≤ q_ := fun q_ h => Nat.le_trans K0.size ((ge_one hl_35) q_ h)
    clear hl_35
    replace hL := hL.ext K_37
    replace hD_3 := hD_3.ext K_37
    replace ho_11 := ho_11.ext K_37
    replace hR_12 := hR_12.ext K_37
    replace hb_20 := hb_20.ext K_37
    replace K0 := K0.ext K_37
    refine RL.st rfl <| St1.makeMap (κ := ByteArray) ?_
    intro m_44 w_45 hl_46 hM_47 K_48
    have pr_49 : ∀ q_, one m_44 q_ → ¬ F_1 q_ := apartNew (ge_one hl_46) hD_3.own_lt
    have pr_50 : ∀ q_, one m_44 q_ → ¬ own a_8 q_ := apartNew (ge_one hl_46) ho_11.own_lt
    have pr_51 : ∀ q_, one m_44 q_ → ¬ recsS (rs_10) q_ := apartNew (ge_one hl_46) hR_12.own_lt
    have pr_52 : ¬ one m_44 b_19 := notNew (ge_one hl_46) hb_20.lt
    have pr_53 : ∀ q_, one m_44 q_ → ¬ one m_33 q_ := apartNew (ge_one hl_46) hM_36.own_lt
    have pg_54 : ∀ q_, one m_44 q_ → q_ < w.heap.size → F q_ := fun q_ h hlt => absurd (Nat.le_trans K0.size ((ge_one hl_46) q_ h)) (by omega)
    have pw_55 : ∀ q_, one m_44 q_ → w.heap.size ≤ q_ := fun q_ h => Nat.le_trans K0.size ((ge_one hl_46) q_ h)
    clear hl_46
    replace hL := hL.ext K_48
    replace hD_3 := hD_3.ext K_48
    replace ho_11 := ho_11.ext K_48
    replace hR_12 := hR_12.ext K_48
    replace hb_20 := hb_20.ext K_48
    replace hM_36 := hM_36.ext K_48
    replace K0 := K0.ext K_48
    refine RL.st rfl <| St1.makeMap (κ := ByteArray) ?_
    intro m_56 w_57 hl_58 hM_59 K_60
    have pr_61 : ∀ q_, one m_56 q_ → ¬ F_1 q_ := apartNew (ge_one hl_58) hD_3.own_lt
    have pr_62 : ∀ q_, one m_56 q_ → ¬ own a_8 q_ := apartNew (ge_one hl_58) ho_11.own_lt
    have pr_63 : ∀ q_, one m_56 q_ → ¬ recsS (rs_10) q_ := apartNew (ge_one hl_58) hR_12.own_lt
    have pr_64 : ¬ one m_56 b_19 := notNew (ge_one hl_58) hb_20.lt
    have pr_65 : ∀ q_, one m_56 q_ → ¬ one m_33 q_ := apartNew (ge_one hl_58) hM_36.own_lt
    have pr_66 : ∀ q_, one m_56 q_ → ¬ one m_44 q_ := apartNew (ge_one hl_58) hM_47.own_lt
    have pg_67 : ∀ q_, one m_56 q_ → q_ < w.heap.size → F q_ := fun q_ h hlt => absurd (Nat.le_trans K0.size ((ge_one hl_58) q_ h)) (by omega)
    have pw_68 : ∀ q_, one m_56 q_ → w.heap.size ≤ q_ := fun q_ h => Nat.le_trans K0.size ((ge_one hl_58) q_ h)
    clear hl_58
    replace hL := hL.ext K_60
    replace hD_3 := hD_3.ext K_60
    replace ho_11 := ho_11.ext K_60
    replace hR_12 := hR_12.ext K_60
    replace hb_20 := hb_20.ext K_60
    replace hM_36 := hM_36.ext K_60
    replace hM_47 := hM_47.ext K_60
    replace K0 := K0.ext K_60
    refine RL.val (x_build (cells := #[.int .i32 (0), .int .u32 (0), .pointer (some ⟨b_19, 0, none⟩), .int .i64 (0), .map (some m_33), .map (some m_44), .map (some m_56)]) (by kernel_rfl)) ?_
    refine RL.st rfl <| St1.box (v := .agg #[.int .i32 (0), .int .u32 (0), .pointer (some ⟨b_19, 0, none⟩), .int .i64 (0), .map (some m_33), .map (some m_44), .map (some m_56)]) rfl ?_
    intro b_69 w_70 hl_73 hb_72 K_71
    replace hb_72 : Blk w_70 b_69 [.int .i32 (0), .int .u32 (0), .pointer (some ⟨b_19, 0, none⟩), .int .i64 (0), .map (some m_33), .map (some m_44), .map (some m_56)] 35 := hb_72
    have ne_74 : b_19 < b_69 := Nat.lt_of_lt_of_le hb_20.lt hl_73
    have pr_75 : ¬ F_1 b_69 := fun h => absurd (hD_3.own_lt _ h) (by omega)
    have pr_76 : ¬ own a_8 b_69 := fun h => absurd (ho_11.own_lt _ h) (by omega)
    have pr_77 : ¬ recsS (rs_10) b_69 := fun h => absurd (hR_12.own_lt _ h) (by omega)
    have pr_78 : ¬ one m_33 b_69 := fun h => absurd (hM_36.own_lt _ h) (by omega)
    have pr_79 : ¬ one m_44 b_69 := fun h => absurd (hM_47.own_lt _ h) (by omega)
    have pr_80 : ¬ one m_56 b_69 := fun h => absurd (hM_59.own_lt _ h) (by omega)
    have : w.heap.size ≤ b_69 := Nat.le_trans K0.size hl_73
    clear hl_73
    replace hL := hL.ext K_71
    replace hD_3 := hD_3.ext K_71
    replace ho_11 := ho_11.ext K_71
    replace hR_12 := hR_12.ext K_71
    replace hb_20 := hb_20.ext K_71
    replace hM_36 := hM_36.ext K_71
    replace hM_47 := hM_47.ext K_71
    replace hM_59 := hM_59.ext K_71
    replace K0 := K0.ext K_71
    refine RL.val (x_assignP rfl) ?_
    refine RL.nil ?_
    refine Run.seq ?_
    refine Run.seq ?_
    refine Run.region ?_
    refine RL.val (x_moveSl rfl) ?_
    refine RL.val (x_lenSl Tryz.underlying91 rfl) ?_
    refine RL.val (x_moveI rfl) ?_
    refine RL.nil ?_
    refine Run.block ?_
    refine Run.unloop ?_
    refine Run.seq ?_
    refine Run.region ?_
    refine RL.val (x_ltI rfl rfl) ?_
    refine RL.nil ?_
    refine Run.seq ?_
    refine Run.cond rfl (fun hc28 => ?_) (fun hc28 => ?_)
    · try simp only [br] at hc28
      exfalso; omega
    · try simp only [br] at hc28
      refine Run.exit rfl ?_
      refine Run.seq ?_
      refine Run.seq ?_
      refine Run.region ?_
      refine RL.val (x_moveP rfl) ?_
      refine RL.val (x_nilCheck rfl) ?_
      refine RL.val (x_fld (o' := 3) Tryz.underlying35 rfl ty3 rfl rfl rfl) ?_
      refine RL.val (x_ld (v := .int .i64 (0)) ty3 rfl rfl (hb_72.cl.field (i := 3) rfl)) ?_
      refine RL.val (litF (x_geI rfl rfl) (by decide)) ?_
      refine RL.nil ?_
      refine Run.condF rfl ?_
      refine Run.skip ?_
      refine Run.seq ?_
      refine Run.region ?_
      refine RL.val (x_moveP rfl) ?_
      refine RL.val (x_moveP rfl) ?_
      refine RL.val (x_nilCheck rfl) ?_
      refine RL.val (x_fld (o' := 3) Tryz.underlying35 rfl ty3 rfl rfl rfl) ?_
      refine RL.val (x_ld (v := .int .i64 (0)) ty3 rfl rfl (hb_72.cl.field (i := 3) rfl)) ?_
      refine RL.val (litI (c := 1) (litI (c := 1) (x_add rfl rfl (by decide) (by decide)) (by decide)) rfl) ?_
      refine RL.st rfl <| St1.buildSlice ([1] : List Int) Tryz.underlying130 ty3 rfl rfl (by first | decide | (simp [Enc.size])) ?_
      intro b_81 w_82 hl_85 ho_84 K_83
      have pr_86 : ∀ q_, own (some ⟨b_81, 0, none⟩) q_ → ¬ F_1 q_ := apartNew (ge_new hl_85) hD_3.own_lt
      have pr_87 : ∀ q_, own (some ⟨b_81, 0, none⟩) q_ → ¬ own a_8 q_ := apartNew (ge_new hl_85) ho_11.own_lt
      have pr_88 : ∀ q_, own (some ⟨b_81, 0, none⟩) q_ → ¬ recsS (rs_10) q_ := apartNew (ge_new hl_85) hR_12.own_lt
      have pr_89 : ¬ own (some ⟨b_81, 0, none⟩) b_19 := notNew (ge_new hl_85) hb_20.lt
      have pr_90 : ∀ q_, own (some ⟨b_81, 0, none⟩) q_ → ¬ one m_33 q_ := apartNew (ge_new hl_85) hM_36.own_lt
      have pr_91 : ∀ q_, own (some ⟨b_81, 0, none⟩) q_ → ¬ one m_44 q_ := apartNew (ge_new hl_85) hM_47.own_lt
      have pr_92 : ∀ q_, own (some ⟨b_81, 0, none⟩) q_ → ¬ one m_56 q_ := apartNew (ge_new hl_85) hM_59.own_lt
      have pr_93 : ¬ own (some ⟨b_81, 0, none⟩) b_69 := notNew (ge_new hl_85) hb_72.lt
      have pg_94 : ∀ q_, own (some ⟨b_81, 0, none⟩) q_ → q_ < w.heap.size → F q_ := fun q_ h hlt => absurd (Nat.le_trans K0.size ((ge_new hl_85) q_ h)) (by omega)
      have pw_95 : ∀ q_, own (some ⟨b_81, 0, none⟩) q_ → w.heap.size ≤ q_ := fun q_ h => Nat.le_trans K0.size ((ge_new hl_85) q_ h)
      clear hl_85
      replace hL := hL.ext K_83
      replace hD_3 := hD_3.ext K_83
      replace ho_11 := ho_11.ext K_83
      replace hR_12 := hR_12.ext K_83
      replace hb_20 := hb_20.ext K_83
      replace hM_36 := hM_36.ext K_83
      replace hM_47 := hM_47.ext K_83
      replace hM_59 := hM_59.ext K_83
      replace hb_72 := hb_72.ext K_83
      replace K0 := K0.ext K_83
      refine RL.st rfl <| St1.call (vals := [.int .i64 (1), .slice (some ⟨b_81, 0, none⟩) (([1] : List Int).length) (([1] : List Int).length)]) en30 rfl (rec1_ _ _ _ ho_84.sl) ?_
      rintro _ w_98 ⟨a_96, c_97, rfl, ho_99, hg_100, K_101⟩
      have pr_102 : ∀ q_, own a_96 q_ → ¬ F_1 q_ := apartNew hg_100 hD_3.own_lt
      have pr_103 : ∀ q_, own a_96 q_ → ¬ own a_8 q_ := apartNew hg_100 ho_11.own_lt
      have pr_104 : ∀ q_, own a_96 q_ → ¬ recsS (rs_10) q_ := apartNew hg_100 hR_12.own_lt
      have pr_105 : ¬ own a_96 b_19 := notNew hg_100 hb_20.lt
      have pr_106 : ∀ q_, own a_96 q_ → ¬ one m_33 q_ := apartNew hg_100 hM_36.own_lt
      have pr_107 : ∀ q_, own a_96 q_ → ¬ one m_44 q_ := apartNew hg_100 hM_47.own_lt
      have pr_108 : ∀ q_, own a_96 q_ → ¬ one m_56 q_ := apartNew hg_100 hM_59.own_lt
      have pr_109 : ¬ own a_96 b_69 := notNew hg_100 hb_72.lt
      have pr_110 : ∀ q_, own a_96 q_ → ¬ own (some ⟨b_81, 0, none⟩) q_ := apartNew hg_100 ho_84.own_lt
      have pg_111 : ∀ q_, own a_96 q_ → q_ < w.heap.size → F q_ := fun q_ h hlt => absurd (Nat.le_trans K0.size (hg_100 q_ h)) (by omega)
      have pw_112 : ∀ q_, own a_96 q_ → w.heap.size ≤ q_ := fun q_ h => Nat.le_trans K0.size (hg_100 q_ h)
      clear hg_100
      replace hL := hL.ext K_101
      replace hD_3 := hD_3.ext K_101
      replace ho_11 := ho_11.ext K_101
      replace hR_12 := hR_12.ext K_101
      replace hb_20 := hb_20.ext K_101
      replace hM_36 := hM_36.ext K_101
      replace hM_47 := hM_47.ext K_101
      replace hM_59 := hM_59.ext K_101
      replace hb_72 := hb_72.ext K_101
      replace ho_84 := ho_84.ext K_101
      replace K0 := K0.ext K_101
      refine RL.st rfl <| St1.call (vals := [.pointer (some ⟨b_19, 0, none⟩), .slice (a_96) (([1, 1] : List UInt8).length) (c_97)]) en27 rfl (dcast (lappend_ _ _ _ _ _ _ ([1, 1] : List UInt8) _ _ hb_20 hD_3 hbF_21 hL pG_30 ho_99.sl (fun x_ hx_ => pr_102 _ ⟨x_, hx_, rfl⟩)) rec_ok.1 rfl) ?_
      rintro _ w_114 ⟨F_113, rfl, hD_115, hm_116, K_117⟩
      have pr_118 : ∀ q_, F_113 q_ → ¬ own a_8 q_ := hm_116.apart (fun q_ h1 h2 => hf_17 q_ h2 h1) ho_11.own_lt
      have pr_119 : ∀ q_, F_113 q_ → ¬ recsS (rs_10) q_ := hm_116.apart (fun q_ h1 h2 => hf_18 q_ h2 h1) hR_12.own_lt
      have pr_120 : ¬ F_113 b_19 := hm_116.not hbF_21 hb_20.lt
      have pr_121 : ∀ q_, F_113 q_ → ¬ one m_33 q_ := hm_116.apart (fun q_ h1 h2 => pr_38 q_ h2 h1) hM_36.own_lt
      have pr_122 : ∀ q_, F_113 q_ → ¬ one m_44 q_ := hm_116.apart (fun q_ h1 h2 => pr_49 q_ h2 h1) hM_47.own_lt
      have pr_123 : ∀ q_, F_113 q_ → ¬ one m_56 q_ := hm_116.apart (fun q_ h1 h2 => pr_61 q_ h2 h1) hM_59.own_lt
      have pr_124 : ¬ F_113 b_69 := hm_116.not pr_75 hb_72.lt
      have pr_125 : ∀ q_, F_113 q_ → ¬ own (some ⟨b_81, 0, none⟩) q_ := hm_116.apart (fun q_ h1 h2 => pr_86 q_ h2 h1) ho_84.own_lt
      have pr_126 : ∀ q_, F_113 q_ → ¬ own a_96 q_ := hm_116.apart (fun q_ h1 h2 => pr_102 q_ h2 h1) ho_99.own_lt
      have pg_127 : ∀ q_, F_113 q_ → q_ < w.heap.size → F q_ := hm_116.inS pg_29 K0.size
      have pG_128 : ∀ q_, F_113 q_ → 7 ≤ q_ := fun q_ h_ => (hm_116 q_ h_).elim (pG_30 q_) (fun h2_ => Nat.le_trans hLs (Nat.le_trans K0.size h2_))
      replace hL := hL.keep K_117 pG_30
      replace ho_11 := ho_11.keepO K_117 hf_17
      replace hR_12 := hR_12.keepO K_117 hf_18
      replace hb_20 := hb_20.keep K_117 hbF_21
      replace hM_36 := hM_36.keepO K_117 pr_38
      replace hM_47 := hM_47.keepO K_117 pr_49
      replace hM_59 := hM_59.keepO K_117 pr_61
      replace hb_72 := hb_72.keep K_117 pr_75
      replace ho_84 := ho_84.keepO K_117 pr_86
      replace ho_99 := ho_99.keepO K_117 pr_102
      replace K0 := K0.trans K_117 (fun x hlt hx => pg_29 x hx hlt)
      clear hm_116
      refine RL.val (x_assignI rfl) ?_
      refine RL.nil ?_
      refine Run.seq ?_
      refine Run.seq ?_
      refine Run.region ?_
      refine RL.val (x_moveI rfl) ?_
      refine RL.val (litT (x_eqI rfl rfl) (by decide)) ?_
      refine RL.nil ?_
      refine Run.condT rfl ?_
      refine Run.region ?_
      refine RL.val (x_moveP rfl) ?_
      refine RL.st rfl <| St1.call (vals := [.pointer (some ⟨b_19, 0, none⟩)]) en40 rfl (lsync_ _ _ _ _ _  _ hb_20 hD_115 pr_120 hL pG_128 ) ?_
      rintro _ w_130 ⟨F_129, rfl, hD_131, hm_132, K_133⟩
      have pr_134 : ∀ q_, F_129 q_ → ¬ own a_8 q_ := hm_132.apart pr_118 ho_11.own_lt
      have pr_135 : ∀ q_, F_129 q_ → ¬ recsS (rs_10) q_ := hm_132.apart pr_119 hR_12.own_lt
      have pr_136 : ¬ F_129 b_19 := hm_132.not pr_120 hb_20.lt
      have pr_137 : ∀ q_, F_129 q_ → ¬ one m_33 q_ := hm_132.apart pr_121 hM_36.own_lt
      have pr_138 : ∀ q_, F_129 q_ → ¬ one m_44 q_ := hm_132.apart pr_122 hM_47.own_lt
      have pr_139 : ∀ q_, F_129 q_ → ¬ one m_56 q_ := hm_132.apart pr_123 hM_59.own_lt
      have pr_140 : ¬ F_129 b_69 := hm_132.not pr_124 hb_72.lt
      have pr_141 : ∀ q_, F_129 q_ → ¬ own (some ⟨b_81, 0, none⟩) q_ := hm_132.apart pr_125 ho_84.own_lt
      have pr_142 : ∀ q_, F_129 q_ → ¬ own a_96 q_ := hm_132.apart pr_126 ho_99.own_lt
      have pg_143 : ∀ q_, F_129 q_ → q_ < w.heap.size → F q_ := hm_132.inS pg_127 K0.size
      have pG_144 : ∀ q_, F_129 q_ → 7 ≤ q_ := fun q_ h_ => (hm_132 q_ h_).elim (pG_128 q_) (fun h2_ => Nat.le_trans hLs (Nat.le_trans K0.size h2_))
      replace hL := hL.keep K_133 pG_128
      replace ho_11 := ho_11.keepO K_133 (fun q_ h1 h2 => pr_118 q_ h2 h1)
      replace hR_12 := hR_12.keepO K_133 (fun q_ h1 h2 => pr_119 q_ h2 h1)
      replace hb_20 := hb_20.keep K_133 pr_120
      replace hM_36 := hM_36.keepO K_133 (fun q_ h1 h2 => pr_121 q_ h2 h1)
      replace hM_47 := hM_47.keepO K_133 (fun q_ h1 h2 => pr_122 q_ h2 h1)
      replace hM_59 := hM_59.keepO K_133 (fun q_ h1 h2 => pr_123 q_ h2 h1)
      replace hb_72 := hb_72.keep K_133 pr_124
      replace ho_84 := ho_84.keepO K_133 (fun q_ h1 h2 => pr_125 q_ h2 h1)
      replace ho_99 := ho_99.keepO K_133 (fun q_ h1 h2 => pr_126 q_ h2 h1)
      replace K0 := K0.trans K_133 (fun x hlt hx => pg_127 x hx hlt)
      clear hm_132
      refine RL.val (x_assignI rfl) ?_
      refine RL.nil ?_
      refine Run.seq ?_
      refine Run.seq ?_
      refine Run.region ?_
      refine RL.val (x_moveI rfl) ?_
      refine RL.val (litF (x_neI rfl rfl) (by decide)) ?_
      refine RL.nil ?_
      refine Run.condF rfl ?_
      refine Run.skip ?_
      refine Run.seq ?_
      refine Run.region ?_
      refine RL.val (x_moveP rfl) ?_
      refine RL.val (x_nilCheck rfl) ?_
      refine RL.val (x_fld (o' := 3) Tryz.underlying35 rfl ty3 rfl rfl rfl) ?_
      refine RL.val (x_ld (v := .int .i64 (0)) ty3 rfl rfl (hb_72.cl.field (i := 3) rfl)) ?_
      refine RL.val (litI (c := 1) (litI (c := 1) (x_add rfl rfl (by decide) (by decide)) (by decide)) rfl) ?_
      refine RL.val (x_nilCheck rfl) ?_
      refine RL.val (x_fld (o' := 3) Tryz.underlying35 rfl ty3 rfl rfl rfl) ?_
      refine RL.st rfl <| St1.store (v := .int .i64 (1)) ty3 rfl rfl rfl (by simp [Value.cells, Value.oneCell']) hb_72 (by simp) ?_
      intro w_145 hb_72_ K_146
      have hb_72' : Blk w_145 b_69 [.int .i32 (0), .int .u32 (0), .pointer (some ⟨b_19, 0, none⟩), .int .i64 (1), .map (some m_33), .map (some m_44), .map (some m_56)] 35 := hb_72_
      clear hb_72_
      replace hL := hL.keep K_146 (fun q_ hq_ => by simp only [one] at hq_; subst hq_; have := hLs; omega)
      replace ho_11 := ho_11.keepO K_146 (fun q_ hq_ eq_ => pr_76 (by simp only [one] at eq_; rw [← eq_]; exact hq_))
      replace hR_12 := hR_12.keepO K_146 (fun q_ hq_ eq_ => pr_77 (by simp only [one] at eq_; rw [← eq_]; exact hq_))
      replace hb_20 := hb_20.keep K_146 (by simp only [one]; omega)
      replace hM_36 := hM_36.keepO K_146 (fun q_ hq_ eq_ => pr_78 (by simp only [one] at eq_; rw [← eq_]; exact hq_))
      replace hM_47 := hM_47.keepO K_146 (fun q_ hq_ eq_ => pr_79 (by simp only [one] at eq_; rw [← eq_]; exact hq_))
      replace hM_59 := hM_59.keepO K_146 (fun q_ hq_ eq_ => pr_80 (by simp only [one] at eq_; rw [← eq_]; exact hq_))
      replace ho_84 := ho_84.keepO K_146 (fun q_ hq_ eq_ => pr_93 (by simp only [one] at eq_; rw [← eq_]; exact hq_))
      replace ho_99 := ho_99.keepO K_146 (fun q_ hq_ eq_ => pr_109 (by simp only [one] at eq_; rw [← eq_]; exact hq_))
      replace hD_131 := hD_131.keepO K_146 (fun q_ hq_ eq_ => pr_140 (by simp only [one] at eq_; rw [← eq_]; exact hq_))
      replace K0 := K0.trans K_146 (fun x hlt hx => absurd hlt (by simp only [one] at hx; omega))
      replace hb_72 := hb_72'
      clear hb_72'
      refine RL.nil ?_
      refine Run.seq ?_
      refine Run.region ?_
      refine RL.val (x_moveP rfl) ?_
      refine RL.val (x_assignP rfl) ?_
      refine RL.val (x_assignI rfl) ?_
      refine RL.nil ?_
      refine Run.ret2 (v := .pointer (some ⟨b_69, 0, none⟩)) (x := .int .i64 (0)) Tryz.func49 rfl rfl rfl ?_
      exact ⟨_, rfl, b_69, b_19, m_33, m_44, m_56, rfl, hb_72, by omega, K0⟩
  · exact absurd (by rw [open_nil]) hcs_6.1

set_option maxRecDepth 100000 in
set_option maxHeartbeats 4000000 in
theorem kbegun_ (w : World) (hL : LaidOk w) :
    Calls Tryz.prog 18 #[] w (Ret (fun v w' => ∃ d b, v = .tuple #[.pointer (some ⟨d, 0, none⟩), .pointer (some ⟨b, 0, none⟩), .bool true] ∧ Ext w w')) := by
  have hLs := hL.size
  refine calls_run (n := 33) Tryz.func18 rfl rfl rfl ?_
  refine Run.seq ?_
  refine Run.region ?_
  refine RL.val (x_assignP rfl) ?_
  refine RL.val (x_assignP rfl) ?_
  refine RL.val (x_assignB rfl) ?_
  refine RL.nil ?_
  refine Run.seq ?_
  refine Run.region ?_
  refine RL.st rfl <| St1.call (vals := [.int .i64 (4194304)]) en48 rfl (newDk 4194304 _ (by decide)) ?_
  rintro _ w_3 ⟨d_1, F_2, rfl, hD_4, hg_5, K_6⟩
  have pG_7 : ∀ q_, F_2 q_ → 7 ≤ q_ := fun q_ h_ => Nat.le_trans hLs (Nat.le_trans (Nat.le_refl _) (hg_5 q_ h_))
  have pg_8 : ∀ q_, F_2 q_ → w.heap.size ≤ q_ := fun q_ h => Nat.le_trans (Nat.le_refl _) (hg_5 q_ h)
  clear hg_5
  replace hL := hL.ext K_6
  have K0 := (K_6 : Ext w _)
  refine RL.val (x_moveT rfl) ?_
  refine RL.val (x_extract rfl rfl) ?_
  refine RL.val (x_extract rfl rfl) ?_
  refine RL.val (x_assignP rfl) ?_
  refine RL.val (x_assignI rfl) ?_
  refine RL.nil ?_
  refine Run.seq ?_
  refine Run.region ?_
  refine RL.val (x_moveP rfl) ?_
  refine RL.st rfl <| St1.call (vals := [.pointer (some ⟨d_1, 0, none⟩)]) en49 rfl (kopen_ _ _ _ hD_4 hL pG_7) ?_
  rintro _ w_14 ⟨b_9, lg_10, m_11, m_12, m_13, rfl, hb_15, hl_16, K_17⟩
  have : w.heap.size ≤ b_9 := Nat.le_trans K0.size hl_16
  replace hL := hL.keep K_17 pG_7
  replace K0 := K0.new K_17 pg_8
  refine RL.val (x_moveT rfl) ?_
  refine RL.val (x_extract rfl rfl) ?_
  refine RL.val (x_extract rfl rfl) ?_
  refine RL.val (x_assignP rfl) ?_
  refine RL.val (x_assignI rfl) ?_
  refine RL.nil ?_
  refine Run.seq ?_
  refine Run.region ?_
  refine RL.val (x_moveP rfl) ?_
  refine RL.val (x_moveP rfl) ?_
  refine RL.val (x_moveI rfl) ?_
  refine RL.val (litT (x_eqI rfl rfl) (by decide)) ?_
  refine RL.val (x_moveB rfl) ?_
  refine RL.gst (wantedT1 rfl rfl rfl rfl) <| St1.val (x_moveI rfl) ?_
  refine RL.gst (wantedT1 rfl rfl rfl rfl) <| St1.val (litT (x_eqI rfl rfl) (by decide)) ?_
  refine RL.val (x_andT rfl rfl rfl) ?_
  refine RL.val (x_moveB rfl) ?_
  refine RL.gst (wantedT1 rfl rfl rfl rfl) <| St1.val (x_moveP rfl) ?_
  refine RL.gst (wantedT1 rfl rfl rfl rfl) <| St1.val (litT (x_ptrNotNil Tryz.underlying22 rfl rfl) rfl) ?_
  refine RL.val (x_andT rfl rfl rfl) ?_
  refine RL.val (x_moveB rfl) ?_
  refine RL.gst (wantedT1 rfl rfl rfl rfl) <| St1.val (x_moveP rfl) ?_
  refine RL.gst (wantedT1 rfl rfl rfl rfl) <| St1.call (vals := [.pointer (some ⟨b_9, 0, none⟩)]) en13 rfl (Starts_live _ _ _ _ _ 1 _ hb_15) ?_
  rintro _ w_18 ⟨rfl, K_19⟩
  replace hL := hL.keep K_19 (fun q_ hq_ => by simp only [one] at hq_; subst hq_; have := hLs; omega)
  replace K0 := K0.new K_19 (fun x hx => by simp only [one] at hx; omega)
  refine RL.gst (wantedT1 rfl rfl rfl rfl) <| St1.val (litT (x_eqI rfl rfl) (by decide)) ?_
  refine RL.val (x_andT rfl rfl rfl) ?_
  refine RL.val (x_assignP rfl) ?_
  refine RL.val (x_assignP rfl) ?_
  refine RL.val (x_assignB rfl) ?_
  refine RL.nil ?_
  refine Run.ret3 (v := .pointer (some ⟨d_1, 0, none⟩)) (x := .pointer (some ⟨b_9, 0, none⟩)) (y := .bool (true)) Tryz.func18 rfl rfl rfl rfl ?_
  exact ⟨_, rfl, d_1, b_9, rfl, K0⟩

set_option maxRecDepth 100000 in
set_option maxHeartbeats 4000000 in
theorem law_knobody (key : ByteArray) (n : Int) (w : World) (hL : LaidOk w) :
    Calls Tryz.prog 3 #[.string (key), .int .i64 (n)] w (Ret (fun v w' => v = .bool true ∧ Ext w w')) := by
  have hLs := hL.size
  refine calls_run (n := 121) Tryz.func3 rfl rfl rfl ?_
  refine Run.seq ?_
  refine Run.region ?_
  refine RL.val (x_assignB rfl) ?_
  refine RL.nil ?_
  refine Run.seq ?_
  refine Run.seq ?_
  refine Run.region ?_
  refine RL.val (x_build (cells := #[.int .i32 (0), .int .u32 (0), .pointer none, .int .i64 (0), .map none, .map none, .map none]) (by kernel_rfl)) ?_
  refine RL.st rfl <| St1.box (v := .agg #[.int .i32 (0), .int .u32 (0), .pointer none, .int .i64 (0), .map none, .map none, .map none]) rfl ?_
  intro b_1 w_2 hl_5 hb_4 K_3
  replace hb_4 : Blk w_2 b_1 [.int .i32 (0), .int .u32 (0), .pointer none, .int .i64 (0), .map none, .map none, .map none] 35 := hb_4
  have : w.heap.size ≤ b_1 := hl_5
  clear hl_5
  replace hL := hL.ext K_3
  have K0 := (K_3 : Ext w _)
  refine RL.st rfl <| St1.buildSlice ([(none : Option Addr), some (⟨b_1, 0, none⟩ : Addr)] : List (Option Addr)) Tryz.underlying36 ty22 rfl rfl (by first | decide | (simp [Enc.size])) ?_
  intro b_6 w_7 hl_10 ho_9 K_8
  have pr_11 : ¬ own (some ⟨b_6, 0, none⟩) b_1 := notNew (ge_new hl_10) hb_4.lt
  have pg_12 : ∀ q_, own (some ⟨b_6, 0, none⟩) q_ → w.heap.size ≤ q_ := fun q_ h => Nat.le_trans K0.size ((ge_new hl_10) q_ h)
  clear hl_10
  replace hL := hL.ext K_8
  replace hb_4 := hb_4.ext K_8
  replace K0 := K0.ext K_8
  refine RL.val (litI (c := 2) (x_lenSl Tryz.underlying36 rfl) rfl) ?_
  refine RL.val (x_moveI rfl) ?_
  refine RL.nil ?_
  refine Run.block ?_
  refine Run.unloop ?_
  refine Run.seq ?_
  refine Run.region ?_
  refine RL.val (litT (x_ltI rfl rfl) (by decide)) ?_
  refine RL.nil ?_
  refine Run.seq ?_
  refine Run.condT rfl ?_
  refine Run.skip ?_
  refine Run.seq ?_
  refine Run.block ?_
  refine Run.seq ?_
  refine Run.region ?_
  obtain ⟨b_13, o_14, x_17, hx_18, ha_15, hc_16⟩ := ho_9.sl.el (i := 0) (by simp)
  obtain rfl : (none : Option Addr) = x_17 := Option.some.inj hx_18
  refine RL.val (x_idxN Tryz.underlying36 ty22 rfl rfl ha_15 (by simp)) ?_
  refine RL.val (x_ldV (v := .pointer none) (y := (none : Option Addr)) ty22 rfl hc_16 rfl) ?_
  refine RL.val (x_assignP rfl) ?_
  refine RL.nil ?_
  refine Run.seq ?_
  refine Run.region ?_
  refine RL.val (x_moveP rfl) ?_
  refine RL.val (x_moveS rfl) ?_
  refine RL.st rfl <| St1.call (vals := [.pointer none, .string (key)]) en4 rfl (Get_nil key _) ?_
  rintro _ w_19 ⟨rfl, K_20⟩
  replace hL := hL.ext K_20
  replace hb_4 := hb_4.ext K_20
  replace ho_9 := ho_9.ext K_20
  replace K0 := K0.ext K_20
  refine RL.val (x_moveT rfl) ?_
  refine RL.val (x_extract rfl rfl) ?_
  refine RL.val (x_extract rfl rfl) ?_
  refine RL.st rfl <| St1.alloc ty43 ?_
  intro b_21 w_22 hl_25 hb_24 K_23
  replace hb_24 : Blk w_22 b_21 [.slice (none) (0) (0), .slice (none) (0) (0), .slice (none) (0) (0)] 43 := hb_24
  have ne_26 : b_1 < b_21 := Nat.lt_of_lt_of_le hb_4.lt hl_25
  have pr_27 : ¬ own (some ⟨b_6, 0, none⟩) b_21 := fun h => absurd (ho_9.own_lt _ h) (by omega)
  have : w.heap.size ≤ b_21 := Nat.le_trans K0.size hl_25
  clear hl_25
  replace hL := hL.ext K_23
  replace hb_4 := hb_4.ext K_23
  replace ho_9 := ho_9.ext K_23
  replace K0 := K0.ext K_23
  refine RL.st rfl <| St1.store (v := .agg #[.slice (none) (0) (0), .slice (none) (0) (0), .slice (none) (0) (0)]) ty43 rfl rfl rfl (by simp [Value.cells, Value.oneCell']) hb_24 (by simp) ?_
  intro w_28 hb_24_ K_29
  have hb_24' : Blk w_28 b_21 [.slice (none) (0) (0), .slice (none) (0) (0), .slice (none) (0) (0)] 43 := hb_24_
  clear hb_24_
  replace hL := hL.keep K_29 (fun q_ hq_ => by simp only [one] at hq_; subst hq_; have := hLs; omega)
  replace hb_4 := hb_4.keep K_29 (by simp only [one]; omega)
  replace ho_9 := ho_9.keepO K_29 (fun q_ hq_ eq_ => pr_27 (by simp only [one] at eq_; rw [← eq_]; exact hq_))
  replace K0 := K0.new K_29 (fun x hx => by simp only [one] at hx; omega)
  replace hb_24 := hb_24'
  clear hb_24'
  refine RL.val (x_assignI rfl) ?_
  refine RL.nil ?_
  refine Run.seq ?_
  refine Run.region ?_
  refine RL.val (x_moveP rfl) ?_
  refine RL.val (x_moveS rfl) ?_
  refine RL.val (x_build (cells := #[.slice (none) (0) (0), .slice (none) (0) (0), .slice (none) (0) (0)]) (by kernel_rfl)) ?_
  refine RL.st rfl <| St1.call (vals := [.pointer none, .string (key), .agg #[.slice (none) (0) (0), .slice (none) (0) (0), .slice (none) (0) (0)]]) en5 rfl (Put_nil key _) ?_
  rintro _ w_30 ⟨rfl, K_31⟩
  replace hL := hL.ext K_31
  replace hb_4 := hb_4.ext K_31
  replace ho_9 := ho_9.ext K_31
  replace hb_24 := hb_24.ext K_31
  replace K0 := K0.ext K_31
  refine RL.val (x_moveT rfl) ?_
  refine RL.val (x_extract rfl rfl) ?_
  refine RL.val (x_extract rfl rfl) ?_
  refine RL.st rfl <| St1.alloc ty43 ?_
  intro b_32 w_33 hl_36 hb_35 K_34
  replace hb_35 : Blk w_33 b_32 [.slice (none) (0) (0), .slice (none) (0) (0), .slice (none) (0) (0)] 43 := hb_35
  have ne_37 : b_1 < b_32 := Nat.lt_of_lt_of_le hb_4.lt hl_36
  have ne_38 : b_21 < b_32 := Nat.lt_of_lt_of_le hb_24.lt hl_36
  have pr_39 : ¬ own (some ⟨b_6, 0, none⟩) b_32 := fun h => absurd (ho_9.own_lt _ h) (by omega)
  have : w.heap.size ≤ b_32 := Nat.le_trans K0.size hl_36
  clear hl_36
  replace hL := hL.ext K_34
  replace hb_4 := hb_4.ext K_34
  replace ho_9 := ho_9.ext K_34
  replace hb_24 := hb_24.ext K_34
  replace K0 := K0.ext K_34
  refine RL.st rfl <| St1.store (v := .agg #[.slice (none) (0) (0), .slice (none) (0) (0), .slice (none) (0) (0)]) ty43 rfl rfl rfl (by simp [Value.cells, Value.oneCell']) hb_35 (by simp) ?_
  intro w_40 hb_35_ K_41
  have hb_35' : Blk w_40 b_32 [.slice (none) (0) (0), .slice (none) (0) (0), .slice (none) (0) (0)] 43 := hb_35_
  clear hb_35_
  replace hL := hL.keep K_41 (fun q_ hq_ => by simp only [one] at hq_; subst hq_; have := hLs; omega)
  replace hb_4 := hb_4.keep K_41 (by simp only [one]; omega)
  replace ho_9 := ho_9.keepO K_41 (fun q_ hq_ eq_ => pr_39 (by simp only [one] at eq_; rw [← eq_]; exact hq_))
  replace hb_24 := hb_24.keep K_41 (by simp only [one]; omega)
  replace K0 := K0.new K_41 (fun x hx => by simp only [one] at hx; omega)
  replace hb_35 := hb_35'
  clear hb_35'
  refine RL.val (x_assignI rfl) ?_
  refine RL.nil ?_
  refine Run.seq ?_
  refine Run.region ?_
  refine RL.val (x_moveP rfl) ?_
  refine RL.val (x_moveS rfl) ?_
  refine RL.val (x_build (cells := #[.slice (none) (0) (0), .slice (none) (0) (0), .slice (none) (0) (0)]) (by kernel_rfl)) ?_
  refine RL.st rfl <| St1.call (vals := [.pointer none, .string (key), .agg #[.slice (none) (0) (0), .slice (none) (0) (0), .slice (none) (0) (0)]]) en6 rfl (Clean_nil key _) ?_
  rintro _ w_42 ⟨rfl, K_43⟩
  replace hL := hL.ext K_43
  replace hb_4 := hb_4.ext K_43
  replace ho_9 := ho_9.ext K_43
  replace hb_24 := hb_24.ext K_43
  replace hb_35 := hb_35.ext K_43
  replace K0 := K0.ext K_43
  refine RL.val (x_moveT rfl) ?_
  refine RL.val (x_extract rfl rfl) ?_
  refine RL.val (x_extract rfl rfl) ?_
  refine RL.st rfl <| St1.alloc ty43 ?_
  intro b_44 w_45 hl_48 hb_47 K_46
  replace hb_47 : Blk w_45 b_44 [.slice (none) (0) (0), .slice (none) (0) (0), .slice (none) (0) (0)] 43 := hb_47
  have ne_49 : b_1 < b_44 := Nat.lt_of_lt_of_le hb_4.lt hl_48
  have ne_50 : b_21 < b_44 := Nat.lt_of_lt_of_le hb_24.lt hl_48
  have ne_51 : b_32 < b_44 := Nat.lt_of_lt_of_le hb_35.lt hl_48
  have pr_52 : ¬ own (some ⟨b_6, 0, none⟩) b_44 := fun h => absurd (ho_9.own_lt _ h) (by omega)
  have : w.heap.size ≤ b_44 := Nat.le_trans K0.size hl_48
  clear hl_48
  replace hL := hL.ext K_46
  replace hb_4 := hb_4.ext K_46
  replace ho_9 := ho_9.ext K_46
  replace hb_24 := hb_24.ext K_46
  replace hb_35 := hb_35.ext K_46
  replace K0 := K0.ext K_46
  refine RL.st rfl <| St1.store (v := .agg #[.slice (none) (0) (0), .slice (none) (0) (0), .slice (none) (0) (0)]) ty43 rfl rfl rfl (by simp [Value.cells, Value.oneCell']) hb_47 (by simp) ?_
  intro w_53 hb_47_ K_54
  have hb_47' : Blk w_53 b_44 [.slice (none) (0) (0), .slice (none) (0) (0), .slice (none) (0) (0)] 43 := hb_47_
  clear hb_47_
  replace hL := hL.keep K_54 (fun q_ hq_ => by simp only [one] at hq_; subst hq_; have := hLs; omega)
  replace hb_4 := hb_4.keep K_54 (by simp only [one]; omega)
  replace ho_9 := ho_9.keepO K_54 (fun q_ hq_ eq_ => pr_52 (by simp only [one] at eq_; rw [← eq_]; exact hq_))
  replace hb_24 := hb_24.keep K_54 (by simp only [one]; omega)
  replace hb_35 := hb_35.keep K_54 (by simp only [one]; omega)
  replace K0 := K0.new K_54 (fun x hx => by simp only [one] at hx; omega)
  replace hb_47 := hb_47'
  clear hb_47'
  refine RL.val (x_assignI rfl) ?_
  refine RL.nil ?_
  refine Run.seq ?_
  refine Run.seq ?_
  refine Run.region ?_
  refine RL.val (x_moveI rfl) ?_
  refine RL.val (litF (x_neI rfl rfl) (by decide)) ?_
  refine RL.val (x_moveB rfl) ?_
  refine RL.gst (wantedF1 rfl rfl rfl rfl) <| St1.val (x_moveI rfl) ?_
  refine RL.gst (wantedF1 rfl rfl rfl rfl) <| St1.val (litF (x_neI rfl rfl) (by decide)) ?_
  refine RL.val (x_orF rfl rfl rfl) ?_
  refine RL.val (x_moveB rfl) ?_
  refine RL.gst (wantedF1 rfl rfl rfl rfl) <| St1.val (x_moveI rfl) ?_
  refine RL.gst (wantedF1 rfl rfl rfl rfl) <| St1.val (litF (x_neI rfl rfl) (by decide)) ?_
  refine RL.val (x_orF rfl rfl rfl) ?_
  refine RL.val (x_moveB rfl) ?_
  refine RL.gst (wantedF1 rfl rfl rfl rfl) <| St1.val (x_moveP rfl) ?_
  refine RL.gst (wantedF1 rfl rfl rfl rfl) <| St1.val (x_moveS rfl) ?_
  refine RL.gst (wantedF1 rfl rfl rfl rfl) <| St1.call (vals := [.pointer none, .string (key)]) en7 rfl (Drop_nil key _) ?_
  rintro _ w_55 ⟨rfl, K_56⟩
  replace hL := hL.ext K_56
  replace hb_4 := hb_4.ext K_56
  replace ho_9 := ho_9.ext K_56
  replace hb_24 := hb_24.ext K_56
  replace hb_35 := hb_35.ext K_56
  replace hb_47 := hb_47.ext K_56
  replace K0 := K0.ext K_56
  refine RL.gst (wantedF1 rfl rfl rfl rfl) <| St1.val (litF (x_neI rfl rfl) (by decide)) ?_
  refine RL.val (x_orF rfl rfl rfl) ?_
  refine RL.val (x_moveB rfl) ?_
  refine RL.gst (wantedF1 rfl rfl rfl rfl) <| St1.val (x_moveP rfl) ?_
  refine RL.gst (wantedF1 rfl rfl rfl rfl) <| St1.val (x_moveI rfl) ?_
  refine RL.gst (wantedF1 rfl rfl rfl rfl) <| St1.val (x_moveS rfl) ?_
  refine RL.gst (wantedF1 rfl rfl rfl rfl) <| St1.val (x_build (cells := #[.int .i64 (n), .string (key)]) (by kernel_rfl)) ?_
  refine RL.gst (wantedF1 rfl rfl rfl rfl) <| St1.call (vals := [.pointer none, .agg #[.int .i64 (n), .string (key)]]) en8 rfl (Hint_nil key n _) ?_
  rintro _ w_57 ⟨rfl, K_58⟩
  replace hL := hL.ext K_58
  replace hb_4 := hb_4.ext K_58
  replace ho_9 := ho_9.ext K_58
  replace hb_24 := hb_24.ext K_58
  replace hb_35 := hb_35.ext K_58
  replace hb_47 := hb_47.ext K_58
  replace K0 := K0.ext K_58
  refine RL.gst (wantedF1 rfl rfl rfl rfl) <| St1.val (litF (x_neI rfl rfl) (by decide)) ?_
  refine RL.val (x_orF rfl rfl rfl) ?_
  refine RL.nil ?_
  refine Run.condF rfl ?_
  refine Run.skip ?_
  refine Run.seq ?_
  refine Run.seq ?_
  refine Run.region ?_
  refine RL.val (x_moveP rfl) ?_
  refine RL.val (x_moveI rfl) ?_
  refine RL.val (x_moveS rfl) ?_
  refine RL.val (x_build (cells := #[.int .i64 (n), .string (key)]) (by kernel_rfl)) ?_
  refine RL.st rfl <| St1.call (vals := [.pointer none, .agg #[.int .i64 (n), .string (key)]]) en9 rfl (Unhint_nil key n _) ?_
  rintro _ w_59 ⟨rfl, K_60⟩
  replace hL := hL.ext K_60
  replace hb_4 := hb_4.ext K_60
  replace ho_9 := ho_9.ext K_60
  replace hb_24 := hb_24.ext K_60
  replace hb_35 := hb_35.ext K_60
  replace hb_47 := hb_47.ext K_60
  replace K0 := K0.ext K_60
  refine RL.val (litF (x_neI rfl rfl) (by decide)) ?_
  refine RL.val (x_moveB rfl) ?_
  refine RL.gst (wantedF1 rfl rfl rfl rfl) <| St1.val (x_moveP rfl) ?_
  refine RL.gst (wantedF1 rfl rfl rfl rfl) <| St1.val (x_moveS rfl) ?_
  refine RL.gst (wantedF1 rfl rfl rfl rfl) <| St1.val (x_build (cells := #[.int .i64 (0), .int .i64 (0), .int .i64 (0)]) (by kernel_rfl)) ?_
  refine RL.gst (wantedF1 rfl rfl rfl rfl) <| St1.call (vals := [.pointer none, .string (key), .agg #[.int .i64 (0), .int .i64 (0), .int .i64 (0)]]) en10 rfl (Retire_nil key _) ?_
  rintro _ w_61 ⟨rfl, K_62⟩
  replace hL := hL.ext K_62
  replace hb_4 := hb_4.ext K_62
  replace ho_9 := ho_9.ext K_62
  replace hb_24 := hb_24.ext K_62
  replace hb_35 := hb_35.ext K_62
  replace hb_47 := hb_47.ext K_62
  replace K0 := K0.ext K_62
  refine RL.gst (wantedF1 rfl rfl rfl rfl) <| St1.val (litF (x_neI rfl rfl) (by decide)) ?_
  refine RL.val (x_orF rfl rfl rfl) ?_
  refine RL.val (x_moveB rfl) ?_
  refine RL.gst (wantedF1 rfl rfl rfl rfl) <| St1.val (x_moveP rfl) ?_
  refine RL.gst (wantedF1 rfl rfl rfl rfl) <| St1.call (vals := [.pointer none]) en11 rfl (Sync_nil  _) ?_
  rintro _ w_63 ⟨rfl, K_64⟩
  replace hL := hL.ext K_64
  replace hb_4 := hb_4.ext K_64
  replace ho_9 := ho_9.ext K_64
  replace hb_24 := hb_24.ext K_64
  replace hb_35 := hb_35.ext K_64
  replace hb_47 := hb_47.ext K_64
  replace K0 := K0.ext K_64
  refine RL.gst (wantedF1 rfl rfl rfl rfl) <| St1.val (litF (x_neI rfl rfl) (by decide)) ?_
  refine RL.val (x_orF rfl rfl rfl) ?_
  refine RL.val (x_moveB rfl) ?_
  refine RL.gst (wantedF1 rfl rfl rfl rfl) <| St1.val (x_moveP rfl) ?_
  refine RL.gst (wantedF1 rfl rfl rfl rfl) <| St1.call (vals := [.pointer none]) en12 rfl (Compact_nil  _) ?_
  rintro _ w_65 ⟨rfl, K_66⟩
  replace hL := hL.ext K_66
  replace hb_4 := hb_4.ext K_66
  replace ho_9 := ho_9.ext K_66
  replace hb_24 := hb_24.ext K_66
  replace hb_35 := hb_35.ext K_66
  replace hb_47 := hb_47.ext K_66
  replace K0 := K0.ext K_66
  refine RL.gst (wantedF1 rfl rfl rfl rfl) <| St1.val (litF (x_neI rfl rfl) (by decide)) ?_
  refine RL.val (x_orF rfl rfl rfl) ?_
  refine RL.nil ?_
  refine Run.condF rfl ?_
  refine Run.skip ?_
  refine Run.seq ?_
  refine Run.region ?_
  refine RL.val (x_moveP rfl) ?_
  refine RL.st rfl <| St1.call (vals := [.pointer none]) en13 rfl (Starts_nil  _) ?_
  rintro _ w_67 ⟨rfl, K_68⟩
  replace hL := hL.ext K_68
  replace hb_4 := hb_4.ext K_68
  replace ho_9 := ho_9.ext K_68
  replace hb_24 := hb_24.ext K_68
  replace hb_35 := hb_35.ext K_68
  replace hb_47 := hb_47.ext K_68
  replace K0 := K0.ext K_68
  refine RL.val (litF (x_neI rfl rfl) (by decide)) ?_
  refine RL.val (x_moveB rfl) ?_
  refine RL.gst (wantedF1 rfl rfl rfl rfl) <| St1.val (x_moveP rfl) ?_
  refine RL.gst (wantedF1 rfl rfl rfl rfl) <| St1.call (vals := [.pointer none]) en14 rfl (Bytes_nil  _) ?_
  rintro _ w_69 ⟨rfl, K_70⟩
  replace hL := hL.ext K_70
  replace hb_4 := hb_4.ext K_70
  replace ho_9 := ho_9.ext K_70
  replace hb_24 := hb_24.ext K_70
  replace hb_35 := hb_35.ext K_70
  replace hb_47 := hb_47.ext K_70
  replace K0 := K0.ext K_70
  refine RL.gst (wantedF1 rfl rfl rfl rfl) <| St1.val (litF (x_neI rfl rfl) (by decide)) ?_
  refine RL.val (x_orF rfl rfl rfl) ?_
  refine RL.val (x_moveB rfl) ?_
  refine RL.gst (wantedF1 rfl rfl rfl rfl) <| St1.val (x_moveP rfl) ?_
  refine RL.gst (wantedF1 rfl rfl rfl rfl) <| St1.call (vals := [.pointer none]) en15 rfl (Keys_nil  _) ?_
  rintro _ w_71 ⟨rfl, K_72⟩
  replace hL := hL.ext K_72
  replace hb_4 := hb_4.ext K_72
  replace ho_9 := ho_9.ext K_72
  replace hb_24 := hb_24.ext K_72
  replace hb_35 := hb_35.ext K_72
  replace hb_47 := hb_47.ext K_72
  replace K0 := K0.ext K_72
  refine RL.gst (wantedF1 rfl rfl rfl rfl) <| St1.val (litI (c := 0) (x_lenSl Tryz.underlying57 rfl) rfl) ?_
  refine RL.gst (wantedF1 rfl rfl rfl rfl) <| St1.val (x_moveP rfl) ?_
  refine RL.gst (wantedF1 rfl rfl rfl rfl) <| St1.call (vals := [.pointer none]) en16 rfl (Hints_nil  _) ?_
  rintro _ w_73 ⟨rfl, K_74⟩
  replace hL := hL.ext K_74
  replace hb_4 := hb_4.ext K_74
  replace ho_9 := ho_9.ext K_74
  replace hb_24 := hb_24.ext K_74
  replace hb_35 := hb_35.ext K_74
  replace hb_47 := hb_47.ext K_74
  replace K0 := K0.ext K_74
  refine RL.gst (wantedF1 rfl rfl rfl rfl) <| St1.val (litI (c := 0) (x_lenSl Tryz.underlying59 rfl) rfl) ?_
  refine RL.gst (wantedF1 rfl rfl rfl rfl) <| St1.val (litI (c := 0) (x_add rfl rfl (by decide) (by decide)) (by decide)) ?_
  refine RL.gst (wantedF1 rfl rfl rfl rfl) <| St1.val (x_moveP rfl) ?_
  refine RL.gst (wantedF1 rfl rfl rfl rfl) <| St1.val (x_moveS rfl) ?_
  refine RL.gst (wantedF1 rfl rfl rfl rfl) <| St1.call (vals := [.pointer none, .string (key)]) en17 rfl (Retired_nil key _) ?_
  rintro _ w_75 ⟨rfl, K_76⟩
  replace hL := hL.ext K_76
  replace hb_4 := hb_4.ext K_76
  replace ho_9 := ho_9.ext K_76
  replace hb_24 := hb_24.ext K_76
  replace hb_35 := hb_35.ext K_76
  replace hb_47 := hb_47.ext K_76
  replace K0 := K0.ext K_76
  refine RL.gst (wantedF1 rfl rfl rfl rfl) <| St1.val (litI (c := 0) (x_lenSl Tryz.underlying38 rfl) rfl) ?_
  refine RL.gst (wantedF1 rfl rfl rfl rfl) <| St1.val (litI (c := 0) (x_add rfl rfl (by decide) (by decide)) (by decide)) ?_
  refine RL.gst (wantedF1 rfl rfl rfl rfl) <| St1.val (litF (litF (x_gtI rfl rfl) (by decide)) (by decide)) ?_
  refine RL.val (x_orF rfl rfl rfl) ?_
  refine RL.nil ?_
  refine Run.condF rfl ?_
  refine Run.skip ?_
  refine Run.inBlock ?_
  refine Run.region ?_
  refine RL.val (litI (c := 1) (x_add rfl rfl (by decide) (by decide)) (by decide)) ?_
  refine RL.val (x_moveI rfl) ?_
  refine RL.nil ?_
  refine Run.inLoop ?_
  refine Run.seq ?_
  refine Run.region ?_
  refine RL.val (litT (x_ltI rfl rfl) (by decide)) ?_
  refine RL.nil ?_
  refine Run.seq ?_
  refine Run.condT rfl ?_
  refine Run.skip ?_
  refine Run.seq ?_
  refine Run.block ?_
  refine Run.seq ?_
  refine Run.region ?_
  obtain ⟨b_77, o_78, x_81, hx_82, ha_79, hc_80⟩ := ho_9.sl.el (i := 1) (by simp)
  obtain rfl : some (⟨b_1, 0, none⟩ : Addr) = x_81 := Option.some.inj hx_82
  refine RL.val (x_idxN Tryz.underlying36 ty22 rfl rfl ha_79 (by simp)) ?_
  refine RL.val (x_ldV (v := .pointer (some ⟨b_1, 0, none⟩)) (y := some (⟨b_1, 0, none⟩ : Addr)) ty22 rfl hc_80 rfl) ?_
  refine RL.val (x_assignP rfl) ?_
  refine RL.nil ?_
  refine Run.seq ?_
  refine Run.region ?_
  refine RL.val (x_moveP rfl) ?_
  refine RL.val (x_moveS rfl) ?_
  refine RL.st rfl <| St1.call (vals := [.pointer (some ⟨b_1, 0, none⟩), .string (key)]) en4 rfl (Get_zero _ key _ hb_4) ?_
  rintro _ w_83 ⟨rfl, hb_84, K_85⟩
  replace hL := hL.keep K_85 (fun q_ hq_ => by simp only [one] at hq_; subst hq_; have := hLs; omega)
  replace ho_9 := ho_9.keepO K_85 (fun q_ hq_ eq_ => pr_11 (by simp only [one] at eq_; rw [← eq_]; exact hq_))
  replace hb_24 := hb_24.keep K_85 (by simp only [one]; omega)
  replace hb_35 := hb_35.keep K_85 (by simp only [one]; omega)
  replace hb_47 := hb_47.keep K_85 (by simp only [one]; omega)
  replace K0 := K0.new K_85 (fun x hx => by simp only [one] at hx; omega)
  replace hb_4 := hb_84
  clear hb_84
  refine RL.val (x_moveT rfl) ?_
  refine RL.val (x_extract rfl rfl) ?_
  refine RL.val (x_extract rfl rfl) ?_
  refine RL.st rfl <| St1.alloc ty43 ?_
  intro b_86 w_87 hl_90 hb_89 K_88
  replace hb_89 : Blk w_87 b_86 [.slice (none) (0) (0), .slice (none) (0) (0), .slice (none) (0) (0)] 43 := hb_89
  have ne_91 : b_1 < b_86 := Nat.lt_of_lt_of_le hb_4.lt hl_90
  have ne_92 : b_21 < b_86 := Nat.lt_of_lt_of_le hb_24.lt hl_90
  have ne_93 : b_32 < b_86 := Nat.lt_of_lt_of_le hb_35.lt hl_90
  have ne_94 : b_44 < b_86 := Nat.lt_of_lt_of_le hb_47.lt hl_90
  have pr_95 : ¬ own (some ⟨b_6, 0, none⟩) b_86 := fun h => absurd (ho_9.own_lt _ h) (by omega)
  have : w.heap.size ≤ b_86 := Nat.le_trans K0.size hl_90
  clear hl_90
  replace hL := hL.ext K_88
  replace hb_4 := hb_4.ext K_88
  replace ho_9 := ho_9.ext K_88
  replace hb_24 := hb_24.ext K_88
  replace hb_35 := hb_35.ext K_88
  replace hb_47 := hb_47.ext K_88
  replace K0 := K0.ext K_88
  refine RL.st rfl <| St1.store (v := .agg #[.slice (none) (0) (0), .slice (none) (0) (0), .slice (none) (0) (0)]) ty43 rfl rfl rfl (by simp [Value.cells, Value.oneCell']) hb_89 (by simp) ?_
  intro w_96 hb_89_ K_97
  have hb_89' : Blk w_96 b_86 [.slice (none) (0) (0), .slice (none) (0) (0), .slice (none) (0) (0)] 43 := hb_89_
  clear hb_89_
  replace hL := hL.keep K_97 (fun q_ hq_ => by simp only [one] at hq_; subst hq_; have := hLs; omega)
  replace hb_4 := hb_4.keep K_97 (by simp only [one]; omega)
  replace ho_9 := ho_9.keepO K_97 (fun q_ hq_ eq_ => pr_95 (by simp only [one] at eq_; rw [← eq_]; exact hq_))
  replace hb_24 := hb_24.keep K_97 (by simp only [one]; omega)
  replace hb_35 := hb_35.keep K_97 (by simp only [one]; omega)
  replace hb_47 := hb_47.keep K_97 (by simp only [one]; omega)
  replace K0 := K0.new K_97 (fun x hx => by simp only [one] at hx; omega)
  replace hb_89 := hb_89'
  clear hb_89'
  refine RL.val (x_assignI rfl) ?_
  refine RL.nil ?_
  refine Run.seq ?_
  refine Run.region ?_
  refine RL.val (x_moveP rfl) ?_
  refine RL.val (x_moveS rfl) ?_
  refine RL.val (x_build (cells := #[.slice (none) (0) (0), .slice (none) (0) (0), .slice (none) (0) (0)]) (by kernel_rfl)) ?_
  refine RL.st rfl <| St1.call (vals := [.pointer (some ⟨b_1, 0, none⟩), .string (key), .agg #[.slice (none) (0) (0), .slice (none) (0) (0), .slice (none) (0) (0)]]) en5 rfl (Put_zero _ key _ hb_4) ?_
  rintro _ w_98 ⟨rfl, hb_99, K_100⟩
  replace hL := hL.keep K_100 (fun q_ hq_ => by simp only [one] at hq_; subst hq_; have := hLs; omega)
  replace ho_9 := ho_9.keepO K_100 (fun q_ hq_ eq_ => pr_11 (by simp only [one] at eq_; rw [← eq_]; exact hq_))
  replace hb_24 := hb_24.keep K_100 (by simp only [one]; omega)
  replace hb_35 := hb_35.keep K_100 (by simp only [one]; omega)
  replace hb_47 := hb_47.keep K_100 (by simp only [one]; omega)
  replace hb_89 := hb_89.keep K_100 (by simp only [one]; omega)
  replace K0 := K0.new K_100 (fun x hx => by simp only [one] at hx; omega)
  replace hb_4 := hb_99
  clear hb_99
  refine RL.val (x_moveT rfl) ?_
  refine RL.val (x_extract rfl rfl) ?_
  refine RL.val (x_extract rfl rfl) ?_
  refine RL.st rfl <| St1.alloc ty43 ?_
  intro b_101 w_102 hl_105 hb_104 K_103
  replace hb_104 : Blk w_102 b_101 [.slice (none) (0) (0), .slice (none) (0) (0), .slice (none) (0) (0)] 43 := hb_104
  have ne_106 : b_1 < b_101 := Nat.lt_of_lt_of_le hb_4.lt hl_105
  have ne_107 : b_21 < b_101 := Nat.lt_of_lt_of_le hb_24.lt hl_105
  have ne_108 : b_32 < b_101 := Nat.lt_of_lt_of_le hb_35.lt hl_105
  have ne_109 : b_44 < b_101 := Nat.lt_of_lt_of_le hb_47.lt hl_105
  have ne_110 : b_86 < b_101 := Nat.lt_of_lt_of_le hb_89.lt hl_105
  have pr_111 : ¬ own (some ⟨b_6, 0, none⟩) b_101 := fun h => absurd (ho_9.own_lt _ h) (by omega)
  have : w.heap.size ≤ b_101 := Nat.le_trans K0.size hl_105
  clear hl_105
  replace hL := hL.ext K_103
  replace hb_4 := hb_4.ext K_103
  replace ho_9 := ho_9.ext K_103
  replace hb_24 := hb_24.ext K_103
  replace hb_35 := hb_35.ext K_103
  replace hb_47 := hb_47.ext K_103
  replace hb_89 := hb_89.ext K_103
  replace K0 := K0.ext K_103
  refine RL.st rfl <| St1.store (v := .agg #[.slice (none) (0) (0), .slice (none) (0) (0), .slice (none) (0) (0)]) ty43 rfl rfl rfl (by simp [Value.cells, Value.oneCell']) hb_104 (by simp) ?_
  intro w_112 hb_104_ K_113
  have hb_104' : Blk w_112 b_101 [.slice (none) (0) (0), .slice (none) (0) (0), .slice (none) (0) (0)] 43 := hb_104_
  clear hb_104_
  replace hL := hL.keep K_113 (fun q_ hq_ => by simp only [one] at hq_; subst hq_; have := hLs; omega)
  replace hb_4 := hb_4.keep K_113 (by simp only [one]; omega)
  replace ho_9 := ho_9.keepO K_113 (fun q_ hq_ eq_ => pr_111 (by simp only [one] at eq_; rw [← eq_]; exact hq_))
  replace hb_24 := hb_24.keep K_113 (by simp only [one]; omega)
  replace hb_35 := hb_35.keep K_113 (by simp only [one]; omega)
  replace hb_47 := hb_47.keep K_113 (by simp only [one]; omega)
  replace hb_89 := hb_89.keep K_113 (by simp only [one]; omega)
  replace K0 := K0.new K_113 (fun x hx => by simp only [one] at hx; omega)
  replace hb_104 := hb_104'
  clear hb_104'
  refine RL.val (x_assignI rfl) ?_
  refine RL.nil ?_
  refine Run.seq ?_
  refine Run.region ?_
  refine RL.val (x_moveP rfl) ?_
  refine RL.val (x_moveS rfl) ?_
  refine RL.val (x_build (cells := #[.slice (none) (0) (0), .slice (none) (0) (0), .slice (none) (0) (0)]) (by kernel_rfl)) ?_
  refine RL.st rfl <| St1.call (vals := [.pointer (some ⟨b_1, 0, none⟩), .string (key), .agg #[.slice (none) (0) (0), .slice (none) (0) (0), .slice (none) (0) (0)]]) en6 rfl (Clean_zero _ key _ hb_4) ?_
  rintro _ w_114 ⟨rfl, hb_115, K_116⟩
  replace hL := hL.keep K_116 (fun q_ hq_ => by simp only [one] at hq_; subst hq_; have := hLs; omega)
  replace ho_9 := ho_9.keepO K_116 (fun q_ hq_ eq_ => pr_11 (by simp only [one] at eq_; rw [← eq_]; exact hq_))
  replace hb_24 := hb_24.keep K_116 (by simp only [one]; omega)
  replace hb_35 := hb_35.keep K_116 (by simp only [one]; omega)
  replace hb_47 := hb_47.keep K_116 (by simp only [one]; omega)
  replace hb_89 := hb_89.keep K_116 (by simp only [one]; omega)
  replace hb_104 := hb_104.keep K_116 (by simp only [one]; omega)
  replace K0 := K0.new K_116 (fun x hx => by simp only [one] at hx; omega)
  replace hb_4 := hb_115
  clear hb_115
  refine RL.val (x_moveT rfl) ?_
  refine RL.val (x_extract rfl rfl) ?_
  refine RL.val (x_extract rfl rfl) ?_
  refine RL.st rfl <| St1.alloc ty43 ?_
  intro b_117 w_118 hl_121 hb_120 K_119
  replace hb_120 : Blk w_118 b_117 [.slice (none) (0) (0), .slice (none) (0) (0), .slice (none) (0) (0)] 43 := hb_120
  have ne_122 : b_1 < b_117 := Nat.lt_of_lt_of_le hb_4.lt hl_121
  have ne_123 : b_21 < b_117 := Nat.lt_of_lt_of_le hb_24.lt hl_121
  have ne_124 : b_32 < b_117 := Nat.lt_of_lt_of_le hb_35.lt hl_121
  have ne_125 : b_44 < b_117 := Nat.lt_of_lt_of_le hb_47.lt hl_121
  have ne_126 : b_86 < b_117 := Nat.lt_of_lt_of_le hb_89.lt hl_121
  have ne_127 : b_101 < b_117 := Nat.lt_of_lt_of_le hb_104.lt hl_121
  have pr_128 : ¬ own (some ⟨b_6, 0, none⟩) b_117 := fun h => absurd (ho_9.own_lt _ h) (by omega)
  have : w.heap.size ≤ b_117 := Nat.le_trans K0.size hl_121
  clear hl_121
  replace hL := hL.ext K_119
  replace hb_4 := hb_4.ext K_119
  replace ho_9 := ho_9.ext K_119
  replace hb_24 := hb_24.ext K_119
  replace hb_35 := hb_35.ext K_119
  replace hb_47 := hb_47.ext K_119
  replace hb_89 := hb_89.ext K_119
  replace hb_104 := hb_104.ext K_119
  replace K0 := K0.ext K_119
  refine RL.st rfl <| St1.store (v := .agg #[.slice (none) (0) (0), .slice (none) (0) (0), .slice (none) (0) (0)]) ty43 rfl rfl rfl (by simp [Value.cells, Value.oneCell']) hb_120 (by simp) ?_
  intro w_129 hb_120_ K_130
  have hb_120' : Blk w_129 b_117 [.slice (none) (0) (0), .slice (none) (0) (0), .slice (none) (0) (0)] 43 := hb_120_
  clear hb_120_
  replace hL := hL.keep K_130 (fun q_ hq_ => by simp only [one] at hq_; subst hq_; have := hLs; omega)
  replace hb_4 := hb_4.keep K_130 (by simp only [one]; omega)
  replace ho_9 := ho_9.keepO K_130 (fun q_ hq_ eq_ => pr_128 (by simp only [one] at eq_; rw [← eq_]; exact hq_))
  replace hb_24 := hb_24.keep K_130 (by simp only [one]; omega)
  replace hb_35 := hb_35.keep K_130 (by simp only [one]; omega)
  replace hb_47 := hb_47.keep K_130 (by simp only [one]; omega)
  replace hb_89 := hb_89.keep K_130 (by simp only [one]; omega)
  replace hb_104 := hb_104.keep K_130 (by simp only [one]; omega)
  replace K0 := K0.new K_130 (fun x hx => by simp only [one] at hx; omega)
  replace hb_120 := hb_120'
  clear hb_120'
  refine RL.val (x_assignI rfl) ?_
  refine RL.nil ?_
  refine Run.seq ?_
  refine Run.seq ?_
  refine Run.region ?_
  refine RL.val (x_moveI rfl) ?_
  refine RL.val (litF (x_neI rfl rfl) (by decide)) ?_
  refine RL.val (x_moveB rfl) ?_
  refine RL.gst (wantedF1 rfl rfl rfl rfl) <| St1.val (x_moveI rfl) ?_
  refine RL.gst (wantedF1 rfl rfl rfl rfl) <| St1.val (litF (x_neI rfl rfl) (by decide)) ?_
  refine RL.val (x_orF rfl rfl rfl) ?_
  refine RL.val (x_moveB rfl) ?_
  refine RL.gst (wantedF1 rfl rfl rfl rfl) <| St1.val (x_moveI rfl) ?_
  refine RL.gst (wantedF1 rfl rfl rfl rfl) <| St1.val (litF (x_neI rfl rfl) (by decide)) ?_
  refine RL.val (x_orF rfl rfl rfl) ?_
  refine RL.val (x_moveB rfl) ?_
  refine RL.gst (wantedF1 rfl rfl rfl rfl) <| St1.val (x_moveP rfl) ?_
  refine RL.gst (wantedF1 rfl rfl rfl rfl) <| St1.val (x_moveS rfl) ?_
  refine RL.gst (wantedF1 rfl rfl rfl rfl) <| St1.call (vals := [.pointer (some ⟨b_1, 0, none⟩), .string (key)]) en7 rfl (Drop_zero _ key _ hb_4) ?_
  rintro _ w_131 ⟨rfl, hb_132, K_133⟩
  replace hL := hL.keep K_133 (fun q_ hq_ => by simp only [one] at hq_; subst hq_; have := hLs; omega)
  replace ho_9 := ho_9.keepO K_133 (fun q_ hq_ eq_ => pr_11 (by simp only [one] at eq_; rw [← eq_]; exact hq_))
  replace hb_24 := hb_24.keep K_133 (by simp only [one]; omega)
  replace hb_35 := hb_35.keep K_133 (by simp only [one]; omega)
  replace hb_47 := hb_47.keep K_133 (by simp only [one]; omega)
  replace hb_89 := hb_89.keep K_133 (by simp only [one]; omega)
  replace hb_104 := hb_104.keep K_133 (by simp only [one]; omega)
  replace hb_120 := hb_120.keep K_133 (by simp only [one]; omega)
  replace K0 := K0.new K_133 (fun x hx => by simp only [one] at hx; omega)
  replace hb_4 := hb_132
  clear hb_132
  refine RL.gst (wantedF1 rfl rfl rfl rfl) <| St1.val (litF (x_neI rfl rfl) (by decide)) ?_
  refine RL.val (x_orF rfl rfl rfl) ?_
  refine RL.val (x_moveB rfl) ?_
  refine RL.gst (wantedF1 rfl rfl rfl rfl) <| St1.val (x_moveP rfl) ?_
  refine RL.gst (wantedF1 rfl rfl rfl rfl) <| St1.val (x_moveI rfl) ?_
  refine RL.gst (wantedF1 rfl rfl rfl rfl) <| St1.val (x_moveS rfl) ?_
  refine RL.gst (wantedF1 rfl rfl rfl rfl) <| St1.val (x_build (cells := #[.int .i64 (n), .string (key)]) (by kernel_rfl)) ?_
  refine RL.gst (wantedF1 rfl rfl rfl rfl) <| St1.call (vals := [.pointer (some ⟨b_1, 0, none⟩), .agg #[.int .i64 (n), .string (key)]]) en8 rfl (Hint_zero _ key n _ hb_4) ?_
  rintro _ w_134 ⟨rfl, hb_135, K_136⟩
  replace hL := hL.keep K_136 (fun q_ hq_ => by simp only [one] at hq_; subst hq_; have := hLs; omega)
  replace ho_9 := ho_9.keepO K_136 (fun q_ hq_ eq_ => pr_11 (by simp only [one] at eq_; rw [← eq_]; exact hq_))
  replace hb_24 := hb_24.keep K_136 (by simp only [one]; omega)
  replace hb_35 := hb_35.keep K_136 (by simp only [one]; omega)
  replace hb_47 := hb_47.keep K_136 (by simp only [one]; omega)
  replace hb_89 := hb_89.keep K_136 (by simp only [one]; omega)
  replace hb_104 := hb_104.keep K_136 (by simp only [one]; omega)
  replace hb_120 := hb_120.keep K_136 (by simp only [one]; omega)
  replace K0 := K0.new K_136 (fun x hx => by simp only [one] at hx; omega)
  replace hb_4 := hb_135
  clear hb_135
  refine RL.gst (wantedF1 rfl rfl rfl rfl) <| St1.val (litF (x_neI rfl rfl) (by decide)) ?_
  refine RL.val (x_orF rfl rfl rfl) ?_
  refine RL.nil ?_
  refine Run.condF rfl ?_
  refine Run.skip ?_
  refine Run.seq ?_
  refine Run.seq ?_
  refine Run.region ?_
  refine RL.val (x_moveP rfl) ?_
  refine RL.val (x_moveI rfl) ?_
  refine RL.val (x_moveS rfl) ?_
  refine RL.val (x_build (cells := #[.int .i64 (n), .string (key)]) (by kernel_rfl)) ?_
  refine RL.st rfl <| St1.call (vals := [.pointer (some ⟨b_1, 0, none⟩), .agg #[.int .i64 (n), .string (key)]]) en9 rfl (Unhint_zero _ key n _ hb_4) ?_
  rintro _ w_137 ⟨rfl, hb_138, K_139⟩
  replace hL := hL.keep K_139 (fun q_ hq_ => by simp only [one] at hq_; subst hq_; have := hLs; omega)
  replace ho_9 := ho_9.keepO K_139 (fun q_ hq_ eq_ => pr_11 (by simp only [one] at eq_; rw [← eq_]; exact hq_))
  replace hb_24 := hb_24.keep K_139 (by simp only [one]; omega)
  replace hb_35 := hb_35.keep K_139 (by simp only [one]; omega)
  replace hb_47 := hb_47.keep K_139 (by simp only [one]; omega)
  replace hb_89 := hb_89.keep K_139 (by simp only [one]; omega)
  replace hb_104 := hb_104.keep K_139 (by simp only [one]; omega)
  replace hb_120 := hb_120.keep K_139 (by simp only [one]; omega)
  replace K0 := K0.new K_139 (fun x hx => by simp only [one] at hx; omega)
  replace hb_4 := hb_138
  clear hb_138
  refine RL.val (litF (x_neI rfl rfl) (by decide)) ?_
  refine RL.val (x_moveB rfl) ?_
  refine RL.gst (wantedF1 rfl rfl rfl rfl) <| St1.val (x_moveP rfl) ?_
  refine RL.gst (wantedF1 rfl rfl rfl rfl) <| St1.val (x_moveS rfl) ?_
  refine RL.gst (wantedF1 rfl rfl rfl rfl) <| St1.val (x_build (cells := #[.int .i64 (0), .int .i64 (0), .int .i64 (0)]) (by kernel_rfl)) ?_
  refine RL.gst (wantedF1 rfl rfl rfl rfl) <| St1.call (vals := [.pointer (some ⟨b_1, 0, none⟩), .string (key), .agg #[.int .i64 (0), .int .i64 (0), .int .i64 (0)]]) en10 rfl (Retire_zero _ key _ hb_4) ?_
  rintro _ w_140 ⟨rfl, hb_141, K_142⟩
  replace hL := hL.keep K_142 (fun q_ hq_ => by simp only [one] at hq_; subst hq_; have := hLs; omega)
  replace ho_9 := ho_9.keepO K_142 (fun q_ hq_ eq_ => pr_11 (by simp only [one] at eq_; rw [← eq_]; exact hq_))
  replace hb_24 := hb_24.keep K_142 (by simp only [one]; omega)
  replace hb_35 := hb_35.keep K_142 (by simp only [one]; omega)
  replace hb_47 := hb_47.keep K_142 (by simp only [one]; omega)
  replace hb_89 := hb_89.keep K_142 (by simp only [one]; omega)
  replace hb_104 := hb_104.keep K_142 (by simp only [one]; omega)
  replace hb_120 := hb_120.keep K_142 (by simp only [one]; omega)
  replace K0 := K0.new K_142 (fun x hx => by simp only [one] at hx; omega)
  replace hb_4 := hb_141
  clear hb_141
  refine RL.gst (wantedF1 rfl rfl rfl rfl) <| St1.val (litF (x_neI rfl rfl) (by decide)) ?_
  refine RL.val (x_orF rfl rfl rfl) ?_
  refine RL.val (x_moveB rfl) ?_
  refine RL.gst (wantedF1 rfl rfl rfl rfl) <| St1.val (x_moveP rfl) ?_
  refine RL.gst (wantedF1 rfl rfl rfl rfl) <| St1.call (vals := [.pointer (some ⟨b_1, 0, none⟩)]) en11 rfl (Sync_zero _  _ hb_4) ?_
  rintro _ w_143 ⟨rfl, hb_144, K_145⟩
  replace hL := hL.keep K_145 (fun q_ hq_ => by simp only [one] at hq_; subst hq_; have := hLs; omega)
  replace ho_9 := ho_9.keepO K_145 (fun q_ hq_ eq_ => pr_11 (by simp only [one] at eq_; rw [← eq_]; exact hq_))
  replace hb_24 := hb_24.keep K_145 (by simp only [one]; omega)
  replace hb_35 := hb_35.keep K_145 (by simp only [one]; omega)
  replace hb_47 := hb_47.keep K_145 (by simp only [one]; omega)
  replace hb_89 := hb_89.keep K_145 (by simp only [one]; omega)
  replace hb_104 := hb_104.keep K_145 (by simp only [one]; omega)
  replace hb_120 := hb_120.keep K_145 (by simp only [one]; omega)
  replace K0 := K0.new K_145 (fun x hx => by simp only [one] at hx; omega)
  replace hb_4 := hb_144
  clear hb_144
  refine RL.gst (wantedF1 rfl rfl rfl rfl) <| St1.val (litF (x_neI rfl rfl) (by decide)) ?_
  refine RL.val (x_orF rfl rfl rfl) ?_
  refine RL.val (x_moveB rfl) ?_
  refine RL.gst (wantedF1 rfl rfl rfl rfl) <| St1.val (x_moveP rfl) ?_
  refine RL.gst (wantedF1 rfl rfl rfl rfl) <| St1.call (vals := [.pointer (some ⟨b_1, 0, none⟩)]) en12 rfl (Compact_zero _  _ hb_4) ?_
  rintro _ w_146 ⟨rfl, hb_147, K_148⟩
  replace hL := hL.keep K_148 (fun q_ hq_ => by simp only [one] at hq_; subst hq_; have := hLs; omega)
  replace ho_9 := ho_9.keepO K_148 (fun q_ hq_ eq_ => pr_11 (by simp only [one] at eq_; rw [← eq_]; exact hq_))
  replace hb_24 := hb_24.keep K_148 (by simp only [one]; omega)
  replace hb_35 := hb_35.keep K_148 (by simp only [one]; omega)
  replace hb_47 := hb_47.keep K_148 (by simp only [one]; omega)
  replace hb_89 := hb_89.keep K_148 (by simp only [one]; omega)
  replace hb_104 := hb_104.keep K_148 (by simp only [one]; omega)
  replace hb_120 := hb_120.keep K_148 (by simp only [one]; omega)
  replace K0 := K0.new K_148 (fun x hx => by simp only [one] at hx; omega)
  replace hb_4 := hb_147
  clear hb_147
  refine RL.gst (wantedF1 rfl rfl rfl rfl) <| St1.val (litF (x_neI rfl rfl) (by decide)) ?_
  refine RL.val (x_orF rfl rfl rfl) ?_
  refine RL.nil ?_
  refine Run.condF rfl ?_
  refine Run.skip ?_
  refine Run.seq ?_
  refine Run.region ?_
  refine RL.val (x_moveP rfl) ?_
  refine RL.st rfl <| St1.call (vals := [.pointer (some ⟨b_1, 0, none⟩)]) en13 rfl (Starts_zero _  _ hb_4) ?_
  rintro _ w_149 ⟨rfl, hb_150, K_151⟩
  replace hL := hL.keep K_151 (fun q_ hq_ => by simp only [one] at hq_; subst hq_; have := hLs; omega)
  replace ho_9 := ho_9.keepO K_151 (fun q_ hq_ eq_ => pr_11 (by simp only [one] at eq_; rw [← eq_]; exact hq_))
  replace hb_24 := hb_24.keep K_151 (by simp only [one]; omega)
  replace hb_35 := hb_35.keep K_151 (by simp only [one]; omega)
  replace hb_47 := hb_47.keep K_151 (by simp only [one]; omega)
  replace hb_89 := hb_89.keep K_151 (by simp only [one]; omega)
  replace hb_104 := hb_104.keep K_151 (by simp only [one]; omega)
  replace hb_120 := hb_120.keep K_151 (by simp only [one]; omega)
  replace K0 := K0.new K_151 (fun x hx => by simp only [one] at hx; omega)
  replace hb_4 := hb_150
  clear hb_150
  refine RL.val (litF (x_neI rfl rfl) (by decide)) ?_
  refine RL.val (x_moveB rfl) ?_
  refine RL.gst (wantedF1 rfl rfl rfl rfl) <| St1.val (x_moveP rfl) ?_
  refine RL.gst (wantedF1 rfl rfl rfl rfl) <| St1.call (vals := [.pointer (some ⟨b_1, 0, none⟩)]) en14 rfl (Bytes_zero _  _ hb_4) ?_
  rintro _ w_152 ⟨rfl, hb_153, K_154⟩
  replace hL := hL.keep K_154 (fun q_ hq_ => by simp only [one] at hq_; subst hq_; have := hLs; omega)
  replace ho_9 := ho_9.keepO K_154 (fun q_ hq_ eq_ => pr_11 (by simp only [one] at eq_; rw [← eq_]; exact hq_))
  replace hb_24 := hb_24.keep K_154 (by simp only [one]; omega)
  replace hb_35 := hb_35.keep K_154 (by simp only [one]; omega)
  replace hb_47 := hb_47.keep K_154 (by simp only [one]; omega)
  replace hb_89 := hb_89.keep K_154 (by simp only [one]; omega)
  replace hb_104 := hb_104.keep K_154 (by simp only [one]; omega)
  replace hb_120 := hb_120.keep K_154 (by simp only [one]; omega)
  replace K0 := K0.new K_154 (fun x hx => by simp only [one] at hx; omega)
  replace hb_4 := hb_153
  clear hb_153
  refine RL.gst (wantedF1 rfl rfl rfl rfl) <| St1.val (litF (x_neI rfl rfl) (by decide)) ?_
  refine RL.val (x_orF rfl rfl rfl) ?_
  refine RL.val (x_moveB rfl) ?_
  refine RL.gst (wantedF1 rfl rfl rfl rfl) <| St1.val (x_moveP rfl) ?_
  refine RL.gst (wantedF1 rfl rfl rfl rfl) <| St1.call (vals := [.pointer (some ⟨b_1, 0, none⟩)]) en15 rfl (Keys_zero _  _ hb_4) ?_
  rintro _ w_155 ⟨rfl, hb_156, K_157⟩
  replace hL := hL.keep K_157 (fun q_ hq_ => by simp only [one] at hq_; subst hq_; have := hLs; omega)
  replace ho_9 := ho_9.keepO K_157 (fun q_ hq_ eq_ => pr_11 (by simp only [one] at eq_; rw [← eq_]; exact hq_))
  replace hb_24 := hb_24.keep K_157 (by simp only [one]; omega)
  replace hb_35 := hb_35.keep K_157 (by simp only [one]; omega)
  replace hb_47 := hb_47.keep K_157 (by simp only [one]; omega)
  replace hb_89 := hb_89.keep K_157 (by simp only [one]; omega)
  replace hb_104 := hb_104.keep K_157 (by simp only [one]; omega)
  replace hb_120 := hb_120.keep K_157 (by simp only [one]; omega)
  replace K0 := K0.new K_157 (fun x hx => by simp only [one] at hx; omega)
  replace hb_4 := hb_156
  clear hb_156
  refine RL.gst (wantedF1 rfl rfl rfl rfl) <| St1.val (litI (c := 0) (x_lenSl Tryz.underlying57 rfl) rfl) ?_
  refine RL.gst (wantedF1 rfl rfl rfl rfl) <| St1.val (x_moveP rfl) ?_
  refine RL.gst (wantedF1 rfl rfl rfl rfl) <| St1.call (vals := [.pointer (some ⟨b_1, 0, none⟩)]) en16 rfl (Hints_zero _  _ hb_4) ?_
  rintro _ w_158 ⟨rfl, hb_159, K_160⟩
  replace hL := hL.keep K_160 (fun q_ hq_ => by simp only [one] at hq_; subst hq_; have := hLs; omega)
  replace ho_9 := ho_9.keepO K_160 (fun q_ hq_ eq_ => pr_11 (by simp only [one] at eq_; rw [← eq_]; exact hq_))
  replace hb_24 := hb_24.keep K_160 (by simp only [one]; omega)
  replace hb_35 := hb_35.keep K_160 (by simp only [one]; omega)
  replace hb_47 := hb_47.keep K_160 (by simp only [one]; omega)
  replace hb_89 := hb_89.keep K_160 (by simp only [one]; omega)
  replace hb_104 := hb_104.keep K_160 (by simp only [one]; omega)
  replace hb_120 := hb_120.keep K_160 (by simp only [one]; omega)
  replace K0 := K0.new K_160 (fun x hx => by simp only [one] at hx; omega)
  replace hb_4 := hb_159
  clear hb_159
  refine RL.gst (wantedF1 rfl rfl rfl rfl) <| St1.val (litI (c := 0) (x_lenSl Tryz.underlying59 rfl) rfl) ?_
  refine RL.gst (wantedF1 rfl rfl rfl rfl) <| St1.val (litI (c := 0) (x_add rfl rfl (by decide) (by decide)) (by decide)) ?_
  refine RL.gst (wantedF1 rfl rfl rfl rfl) <| St1.val (x_moveP rfl) ?_
  refine RL.gst (wantedF1 rfl rfl rfl rfl) <| St1.val (x_moveS rfl) ?_
  refine RL.gst (wantedF1 rfl rfl rfl rfl) <| St1.call (vals := [.pointer (some ⟨b_1, 0, none⟩), .string (key)]) en17 rfl (Retired_zero _ key _ hb_4) ?_
  rintro _ w_161 ⟨rfl, hb_162, K_163⟩
  replace hL := hL.keep K_163 (fun q_ hq_ => by simp only [one] at hq_; subst hq_; have := hLs; omega)
  replace ho_9 := ho_9.keepO K_163 (fun q_ hq_ eq_ => pr_11 (by simp only [one] at eq_; rw [← eq_]; exact hq_))
  replace hb_24 := hb_24.keep K_163 (by simp only [one]; omega)
  replace hb_35 := hb_35.keep K_163 (by simp only [one]; omega)
  replace hb_47 := hb_47.keep K_163 (by simp only [one]; omega)
  replace hb_89 := hb_89.keep K_163 (by simp only [one]; omega)
  replace hb_104 := hb_104.keep K_163 (by simp only [one]; omega)
  replace hb_120 := hb_120.keep K_163 (by simp only [one]; omega)
  replace K0 := K0.new K_163 (fun x hx => by simp only [one] at hx; omega)
  replace hb_4 := hb_162
  clear hb_162
  refine RL.gst (wantedF1 rfl rfl rfl rfl) <| St1.val (litI (c := 0) (x_lenSl Tryz.underlying38 rfl) rfl) ?_
  refine RL.gst (wantedF1 rfl rfl rfl rfl) <| St1.val (litI (c := 0) (x_add rfl rfl (by decide) (by decide)) (by decide)) ?_
  refine RL.gst (wantedF1 rfl rfl rfl rfl) <| St1.val (litF (litF (x_gtI rfl rfl) (by decide)) (by decide)) ?_
  refine RL.val (x_orF rfl rfl rfl) ?_
  refine RL.nil ?_
  refine Run.condF rfl ?_
  refine Run.skip ?_
  refine Run.inBlock ?_
  refine Run.region ?_
  refine RL.val (litI (c := 2) (x_add rfl rfl (by decide) (by decide)) (by decide)) ?_
  refine RL.val (x_moveI rfl) ?_
  refine RL.nil ?_
  refine Run.inLoop ?_
  refine Run.seq ?_
  refine Run.region ?_
  refine RL.val (litF (x_ltI rfl rfl) (by decide)) ?_
  refine RL.nil ?_
  refine Run.seq ?_
  refine Run.condF rfl ?_
  refine Run.exit rfl ?_
  refine Run.seq ?_
  refine Run.region ?_
  refine RL.st rfl <| St1.call (vals := []) en18 rfl (kbegun_ _ hL) ?_
  rintro _ w_166 ⟨d_164, b_165, rfl, K_167⟩
  replace hL := hL.ext K_167
  replace hb_4 := hb_4.ext K_167
  replace ho_9 := ho_9.ext K_167
  replace hb_24 := hb_24.ext K_167
  replace hb_35 := hb_35.ext K_167
  replace hb_47 := hb_47.ext K_167
  replace hb_89 := hb_89.ext K_167
  replace hb_104 := hb_104.ext K_167
  replace hb_120 := hb_120.ext K_167
  replace K0 := K0.ext K_167
  refine RL.val (x_moveT rfl) ?_
  refine RL.val (x_extract rfl rfl) ?_
  refine RL.val (x_extract rfl rfl) ?_
  refine RL.val (x_extract rfl rfl) ?_
  refine RL.val (x_assignP rfl) ?_
  refine RL.val (x_assignP rfl) ?_
  refine RL.val (x_assignB rfl) ?_
  refine RL.nil ?_
  refine Run.seq ?_
  refine Run.region ?_
  refine RL.val (x_moveB rfl) ?_
  refine RL.val (x_assignB rfl) ?_
  refine RL.nil ?_
  refine Run.ret1 (v := .bool (true)) Tryz.func3 rfl rfl ?_
  exact ⟨_, rfl, rfl, K0⟩

end Go.Proofs.YtnphndfbgdkgbaaGreatDoor
