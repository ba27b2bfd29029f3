/-
  Layer 12's laws: awake, SwimGreater, SwimOrder.
-/
import Derived.Test.YtagfdmdajmkddaaRows
import Derived.Test.YtagfdmdajmkddaaLf
namespace Go.Proofs.Ytagfdmdajmkddaa
attribute [local irreducible] St1 RL RA RT RT1 Run

open Sa
def awT : Tab := (hear (newT 0) [⟨1, 0, 1⟩] 0).1
theorem aw_hear : (hear (newT 0) ([(⟨1, 0, 1⟩ : Peer)] : List Peer) 0).2.length = 1 := by rfl
theorem aw_out : (tick (hear (newT 0) ([(⟨1, 0, 1⟩ : Peer)] : List Peer) 0).1 0).out = [mkMsg 6 0 1 1 (-1) (-1)] := by rfl
theorem aw_st : statusL (tick (hear (newT 0) ([(⟨1, 0, 1⟩ : Peer)] : List Peer) 0).1 0).T.l 1 = 1 := by rfl
theorem aw_pl : (hear (newT 0) ([(⟨1, 0, 1⟩ : Peer)] : List Peer) 0).1.pings.length = 0 := by rfl

theorem greater_iff (a b : Peer) : greaterB a b = true ↔ a.node = b.node ∧ (b.inc < a.inc ∨ (a.inc = b.inc ∧ b.status < a.status)) := by simp [greaterB]
theorem en12 : Enters Try.prog 12 := enters_of Try.func12 rfl (by kernel_rfl)
theorem en13 : Enters Try.prog 13 := enters_of Try.func13 rfl (by kernel_rfl)
theorem en14 : Enters Try.prog 14 := enters_of Try.func14 rfl (by kernel_rfl)
theorem en15 : Enters Try.prog 15 := enters_of Try.func15 rfl (by kernel_rfl)
theorem en16 : Enters Try.prog 16 := enters_of Try.func16 rfl (by kernel_rfl)

set_option maxRecDepth 100000 in
set_option maxHeartbeats 4000000 in
theorem awake_ (w : World) :
    Calls Try.prog 13 #[] w (Ret (fun v w' => v = .bool true ∧ Ext w w')) := by
  have hpl := aw_pl
  refine calls_run (n := 43) Try.func13 rfl rfl rfl ?_
  refine Run.seq ?_
  refine Run.region ?_
  refine RL.val (x_assignB rfl) ?_
  refine RL.nil ?_
  refine Run.seq ?_
  refine Run.region ?_
  refine RL.st rfl <| St1.call (vals := [.int .i64 (0)]) en14 rfl (new_ 0 _) ?_
  rintro _ w_2 (⟨hbad_6, _, _⟩ | ⟨b_1, _, rfl, hT_3, hg_4, K_5⟩)
  · exact absurd hbad_6 (by omega)
  have pg_7 : ∀ q_, tabS b_1 none q_ → w.heap.size ≤ q_ := fun q_ h => Nat.le_trans (Nat.le_refl _) ((tabS_new hg_4) q_ h)
  clear hg_4
  have K0 := (K_5 : Ext w _)
  refine RL.val (x_moveT rfl) ?_
  refine RL.val (x_extract rfl rfl) ?_
  refine RL.val (x_extract rfl rfl) ?_
  refine RL.val (x_assignP rfl) ?_
  refine RL.val (x_assignI rfl) ?_
  refine RL.nil ?_
  refine Run.seq ?_
  refine Run.seq ?_
  refine Run.region ?_
  refine RL.val (x_moveI rfl) ?_
  refine RL.val (litF (x_neI rfl rfl) (by decide)) ?_
  refine RL.val (x_moveB rfl) ?_
  refine RL.gst (wantedF1 rfl rfl rfl rfl) <| St1.val (x_moveP rfl) ?_
  refine RL.gst (wantedF1 rfl rfl rfl rfl) <| St1.val (litF (x_ptrNil Try.underlying28 rfl rfl) rfl) ?_
  refine RL.val (x_orF rfl rfl rfl) ?_
  refine RL.val (x_moveB rfl) ?_
  refine RL.gst (wantedF1 rfl rfl rfl rfl) <| St1.val (x_moveP rfl) ?_
  refine RL.gst (wantedF1 rfl rfl rfl rfl) <| St1.val (x_build (cells := #[.int .i64 (1), .int .i64 (0), .int .i64 (1)]) (by kernel_rfl)) ?_
  refine RL.gst (wantedF1 rfl rfl rfl rfl) <| St1.buildSlice ([(⟨1, 0, 1⟩ : Peer)] : List Peer) Try.underlying32 ty23 rfl rfl (by first | decide | (simp [Enc.size])) ?_
  intro b_8 w_9 hl_12 ho_11 K_10
  have pr_13 : ∀ q_, own (some ⟨b_8, 0, none⟩) q_ → ¬ tabS b_1 none q_ := apartNew (ge_new hl_12) hT_3.own_lt
  have pg_14 : ∀ q_, own (some ⟨b_8, 0, none⟩) q_ → w.heap.size ≤ q_ := fun q_ h => Nat.le_trans K0.size ((ge_new hl_12) q_ h)
  clear hl_12
  replace hT_3 := hT_3.ext K_10
  replace K0 := K0.ext K_10
  refine RL.gst (wantedF1 rfl rfl rfl rfl) <| St1.call (vals := [.pointer (some ⟨b_1, 0, none⟩), .slice (some ⟨b_8, 0, none⟩) (([(⟨1, 0, 1⟩ : Peer)] : List Peer).length) (([(⟨1, 0, 1⟩ : Peer)] : List Peer).length), .int .i64 (0)]) en15 rfl (hear_ _ _ _ (newT 0) _ ([(⟨1, 0, 1⟩ : Peer)] : List Peer) _ 0 _ hT_3 ho_11.sl (fun x hx _ hb => (fun q_ h1 h2 => pr_13 q_ h2 h1) _ hb ((own_sub _) x hx)) (by first | omega | simp) (by omega)) ?_
  rintro _ w_17 ⟨a_15, c_16, rfl, ho_18, hg_19, hT_20, K_21⟩
  have pr_22 : ∀ q_, own a_15 q_ → ¬ tabS b_1 none q_ := apartNew hg_19 hT_3.own_lt
  have pr_23 : ∀ q_, own a_15 q_ → ¬ own (some ⟨b_8, 0, none⟩) q_ := apartNew hg_19 ho_11.own_lt
  have pg_24 : ∀ q_, own a_15 q_ → w.heap.size ≤ q_ := fun q_ h => Nat.le_trans K0.size (hg_19 q_ h)
  clear hg_19
  replace ho_11 := ho_11.keepO K_21 pr_13
  replace K0 := K0.new K_21 pg_7
  replace hT_3 := hT_20
  clear hT_20
  refine RL.gst (wantedF1 rfl rfl rfl rfl) <| St1.val (x_lenSl Try.underlying32 rfl) ?_
  refine RL.gst (wantedF1 rfl rfl rfl rfl) <| St1.val (litF (x_neI rfl rfl) (by rw [aw_hear]; rfl)) ?_
  refine RL.val (x_orF rfl rfl rfl) ?_
  refine RL.nil ?_
  refine Run.condF rfl ?_
  refine Run.skip ?_
  refine Run.seq ?_
  refine Run.region ?_
  refine RL.val (x_moveP rfl) ?_
  refine RL.st rfl <| St1.call (vals := [.pointer (some ⟨b_1, 0, none⟩), .int .i64 (0)]) en16 rfl (tick_ _ _ _ ((hear (newT 0) ([(⟨1, 0, 1⟩ : Peer)] : List Peer) 0).1) 0 _ hT_3 (by omega) (by omega)) ?_
  rintro _ w_27 ⟨al_25, cl_26, a_31, c_32, a_33, c_34, rfl, hT_28, ho_35, ho_36, hg_37, hg_38, pr_39, pr_40, pr_41, hm_29, K_30⟩
  have pr_42 : ∀ q_, own a_31 q_ → ¬ tabS b_1 none q_ := apartNew hg_37 hT_3.own_lt
  have pr_43 : ∀ q_, own a_31 q_ → ¬ own (some ⟨b_8, 0, none⟩) q_ := apartNew hg_37 ho_11.own_lt
  have pr_44 : ∀ q_, own a_31 q_ → ¬ own a_15 q_ := apartNew hg_37 ho_18.own_lt
  have pg_45 : ∀ q_, own a_31 q_ → w.heap.size ≤ q_ := fun q_ h => Nat.le_trans K0.size (hg_37 q_ h)
  have pr_46 : ∀ q_, own a_33 q_ → ¬ tabS b_1 none q_ := apartNew hg_38 hT_3.own_lt
  have pr_47 : ∀ q_, own a_33 q_ → ¬ own (some ⟨b_8, 0, none⟩) q_ := apartNew hg_38 ho_11.own_lt
  have pr_48 : ∀ q_, own a_33 q_ → ¬ own a_15 q_ := apartNew hg_38 ho_18.own_lt
  have pg_49 : ∀ q_, own a_33 q_ → w.heap.size ≤ q_ := fun q_ h => Nat.le_trans K0.size (hg_38 q_ h)
  have pr_50 : ∀ q_, tabS b_1 al_25 q_ → ¬ own (some ⟨b_8, 0, none⟩) q_ := hm_29.apart (fun q_ h1 h2 => pr_13 q_ h2 h1) ho_11.own_lt
  have pr_51 : ∀ q_, tabS b_1 al_25 q_ → ¬ own a_15 q_ := hm_29.apart (fun q_ h1 h2 => pr_22 q_ h2 h1) ho_18.own_lt
  have pg_52 : ∀ q_, tabS b_1 al_25 q_ → w.heap.size ≤ q_ := hm_29.ge pg_7 K0.size
  replace ho_11 := ho_11.keepO K_30 pr_13
  replace ho_18 := ho_18.keepO K_30 pr_22
  replace K0 := K0.new K_30 pg_7
  clear hm_29
  clear hg_37 hg_38
  refine RL.val (x_moveT rfl) ?_
  refine RL.val (x_extract rfl rfl) ?_
  refine RL.val (x_extract rfl rfl) ?_
  refine RL.val (x_assignSl rfl) ?_
  refine RL.val (x_assignSl rfl) ?_
  refine RL.nil ?_
  refine Run.seq ?_
  refine Run.region ?_
  refine RL.val (x_moveP rfl) ?_
  refine RL.st rfl <| St1.call (vals := [.pointer (some ⟨b_1, 0, none⟩), .int .i64 (1)]) en17 rfl (status_ _ _ _ ((tick ((hear (newT 0) ([(⟨1, 0, 1⟩ : Peer)] : List Peer) 0).1) 0).T) 1 _ hT_28.blk hT_28.ok.len) ?_
  rintro _ w_53 ⟨rfl, K_54⟩
  replace ho_11 := ho_11.ext K_54
  replace ho_18 := ho_18.ext K_54
  replace hT_28 := hT_28.ext K_54
  replace ho_35 := ho_35.ext K_54
  replace ho_36 := ho_36.ext K_54
  replace K0 := K0.ext K_54
  refine RL.val (litT (x_eqI rfl rfl) (by rw [aw_st]; rfl)) ?_
  refine RL.val (x_moveB rfl) ?_
  refine RL.gst (wantedT1 rfl rfl rfl rfl) <| St1.val (x_moveSl rfl) ?_
  refine RL.gst (wantedT1 rfl rfl rfl rfl) <| St1.val (x_lenSl Try.underlying34 rfl) ?_
  refine RL.gst (wantedT1 rfl rfl rfl rfl) <| St1.val (litT (x_eqI rfl rfl) (by rw [aw_out]; rfl)) ?_
  refine RL.val (x_andT rfl rfl rfl) ?_
  refine RL.val (x_moveB rfl) ?_
  refine RL.gst (wantedT1 rfl rfl rfl rfl) <| St1.val (x_moveSl rfl) ?_
  obtain ⟨b_55, o_56, x, hx, ha_57, hc_58⟩ := ho_35.sl.el (i := 0) (by rw [aw_out]; decide)
  refine RL.gst (wantedT1 rfl rfl rfl rfl) <| St1.val (x_idxN Try.underlying34 ty61 rfl rfl ha_57 (by rw [aw_out]; decide)) ?_
  refine RL.gst (wantedT1 rfl rfl rfl rfl) <| St1.val (x_fld (o' := o_56 + 0 * 17 + 2) Try.underlying61 rfl ty3 rfl rfl rfl) ?_
  refine RL.gst (wantedT1 rfl rfl rfl rfl) <| St1.val (x_ld ty3 rfl rfl (hc_58.field (i := 2) rfl)) ?_
  refine RL.gst (wantedT1 rfl rfl rfl rfl) <| St1.val (litT (x_eqI rfl rfl) (by have h := hx; rw [aw_out] at h; cases h; rfl)) ?_
  refine RL.val (x_andT rfl rfl rfl) ?_
  refine RL.val (x_assignB rfl) ?_
  refine RL.nil ?_
  refine Run.ret1 (v := .bool (true)) Try.func13 rfl rfl ?_
  exact ⟨_, rfl, rfl, K0⟩

end Go.Proofs.Ytagfdmdajmkddaa
