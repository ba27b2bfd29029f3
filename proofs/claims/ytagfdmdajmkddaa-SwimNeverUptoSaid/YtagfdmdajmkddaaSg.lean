/-
  Layer 12's laws: awake, SwimGreater, SwimOrder.
-/
import Derived.Test.YtagfdmdajmkddaaRows
import Derived.Test.YtagfdmdajmkddaaSf
namespace Go.Proofs.Ytagfdmdajmkddaa
attribute [local irreducible] St1 RL RA RT RT1 Run

open Sa
def awT : Tab := (hear (newT 0) [⟨1, 0, 1⟩] 0).1
theorem aw_hear : (hear (newT 0) ([(⟨1, 0, 1⟩ : Peer)] : List Peer) 0).2.length = 1 := by rfl
theorem aw_out : (tick (hear (newT 0) ([(⟨1, 0, 1⟩ : Peer)] : List Peer) 0).1 0).out = [mkMsg 6 0 1 1 (-1) (-1)] := by rfl
theorem aw_st : statusL (tick (hear (newT 0) ([(⟨1, 0, 1⟩ : Peer)] : List Peer) 0).1 0).T.l 1 = 1 := by rfl
theorem aw_pl : (hear (newT 0) ([(⟨1, 0, 1⟩ : Peer)] : List Peer) 0).1.pings.length = 0 := by rfl

theorem greater_iff (a b : Peer) : greaterB a b = true ↔ a.node = b.node ∧ (b.inc < a.inc ∨ (a.inc = b.inc ∧ b.status < a.status)) := by simp [greaterB]
theorem greater_not (a b : Peer) : greaterB a b = false ↔ ¬ (a.node = b.node ∧ (b.inc < a.inc ∨ (a.inc = b.inc ∧ b.status < a.status))) := by rw [← greater_iff]; simp
theorem order_one (x y z : Peer) : (greaterB x x || (greaterB x y && greaterB y x)) = false ∧ ((greaterB x y && greaterB y z) && !greaterB x z) = false := by
  constructor
  · cases h1 : greaterB x x with
    | true => rw [greater_iff] at h1; omega
    | false =>
      cases h2 : greaterB x y with
      | false => rfl
      | true =>
        cases h3 : greaterB y x with
        | false => rfl
        | true => rw [greater_iff] at h2 h3; omega
  · cases h2 : greaterB x y with
    | false => rfl
    | true =>
      cases h3 : greaterB y z with
      | false => rfl
      | true =>
        cases h4 : greaterB x z with
        | true => rfl
        | false => rw [greater_iff] at h2 h3; rw [greater_not] at h4; omega
theorem order_all (x y z : Peer) (h : ((greaterB x x || (greaterB x y && greaterB y x)) || ((greaterB x y && greaterB y z) && !greaterB x z)) = true) : False := by
  rw [(order_one x y z).1, (order_one x y z).2] at h
  cases h
theorem order_same {x y : Peer} (h : ¬ x.node = y.node ∨ x = y) : (!greaterB x y && !greaterB y x) = true := by
  have h1 : greaterB x y = false := by
    rw [greater_not]
    rcases h with h | h
    · exact fun e => h e.1
    · subst h; omega
  have h2 : greaterB y x = false := by
    rw [greater_not]
    rcases h with h | h
    · exact fun e => h e.1.symm
    · subst h; omega
  rw [h1, h2]; rfl
theorem order_diff {x y : Peer} (h : x.node = y.node ∧ ¬ x = y) : (!(greaterB x y == greaterB y x)) = true := by
  obtain ⟨h1, h2⟩ := h
  have h3 : ¬ (x.inc = y.inc ∧ x.status = y.status) := fun e => h2 (Peer.ext' h1 e.1 e.2)
  cases c1 : greaterB x y with
  | true =>
    cases c2 : greaterB y x with
    | false => rfl
    | true => rw [greater_iff] at c1 c2; omega
  | false =>
    cases c2 : greaterB y x with
    | true => rfl
    | false => rw [greater_not] at c1 c2; omega

theorem en12 : Enters Try.prog 12 := enters_of Try.func12 rfl (by kernel_rfl)
theorem en13 : Enters Try.prog 13 := enters_of Try.func13 rfl (by kernel_rfl)
theorem en14 : Enters Try.prog 14 := enters_of Try.func14 rfl (by kernel_rfl)
theorem en15 : Enters Try.prog 15 := enters_of Try.func15 rfl (by kernel_rfl)
theorem en16 : Enters Try.prog 16 := enters_of Try.func16 rfl (by kernel_rfl)

set_option maxRecDepth 100000 in
set_option maxHeartbeats 4000000 in
theorem awake_ (w : World) :
    Calls Try.prog 13 #[] w (Ret (fun v w' => v = .bool true ∧ Ext w w')) := by
  have hpl := aw_pl
  refine calls_run (n := 43) Try.func13 rfl rfl rfl ?_
  refine Run.seq ?_
  refine Run.region ?_
  refine RL.val (x_assignB rfl) ?_
  refine RL.nil ?_
  refine Run.seq ?_
  refine Run.region ?_
  refine RL.st rfl <| St1.call (vals := [.int .i64 (0)]) en14 rfl (new_ 0 _) ?_
  rintro _ w_2 (⟨hbad_6, _, _⟩ | ⟨b_1, _, rfl, hT_3, hg_4, K_5⟩)
  · exact absurd hbad_6 (by omega)
  have pg_7 : ∀ q_, tabS b_1 none q_ → w.heap.size ≤ q_ := fun q_ h => Nat.le_trans (Nat.le_refl _) ((tabS_new hg_4) q_ h)
  clear hg_4
  have K0 := (K_5 : Ext w _)
  refine RL.val (x_moveT rfl) ?_
  refine RL.val (x_extract rfl rfl) ?_
  refine RL.val (x_extract rfl rfl) ?_
  refine RL.val (x_assignP rfl) ?_
  refine RL.val (x_assignI rfl) ?_
  refine RL.nil ?_
  refine Run.seq ?_
  refine Run.seq ?_
  refine Run.region ?_
  refine RL.val (x_moveI rfl) ?_
  refine RL.val (litF (x_neI rfl rfl) (by decide)) ?_
  refine RL.val (x_moveB rfl) ?_
  refine RL.gst (wantedF1 rfl rfl rfl rfl) <| St1.val (x_moveP rfl) ?_
  refine RL.gst (wantedF1 rfl rfl rfl rfl) <| St1.val (litF (x_ptrNil Try.underlying28 rfl rfl) rfl) ?_
  refine RL.val (x_orF rfl rfl rfl) ?_
  refine RL.val (x_moveB rfl) ?_
  refine RL.gst (wantedF1 rfl rfl rfl rfl) <| St1.val (x_moveP rfl) ?_
  refine RL.gst (wantedF1 rfl rfl rfl rfl) <| St1.val (x_build (cells := #[.int .i64 (1), .int .i64 (0), .int .i64 (1)]) (by kernel_rfl)) ?_
  refine RL.gst (wantedF1 rfl rfl rfl rfl) <| St1.buildSlice ([(⟨1, 0, 1⟩ : Peer)] : List Peer) Try.underlying32 ty23 rfl rfl (by first | decide | (simp [Enc.size])) ?_
  intro b_8 w_9 hl_12 ho_11 K_10
  have pr_13 : ∀ q_, own (some ⟨b_8, 0, none⟩) q_ → ¬ tabS b_1 none q_ := apartNew (ge_new hl_12) hT_3.own_lt
  have pg_14 : ∀ q_, own (some ⟨b_8, 0, none⟩) q_ → w.heap.size ≤ q_ := fun q_ h => Nat.le_trans K0.size ((ge_new hl_12) q_ h)
  clear hl_12
  replace hT_3 := hT_3.ext K_10
  replace K0 := K0.ext K_10
  refine RL.gst (wantedF1 rfl rfl rfl rfl) <| St1.call (vals := [.pointer (some ⟨b_1, 0, none⟩), .slice (some ⟨b_8, 0, none⟩) (([(⟨1, 0, 1⟩ : Peer)] : List Peer).length) (([(⟨1, 0, 1⟩ : Peer)] : List Peer).length), .int .i64 (0)]) en15 rfl (hear_ _ _ _ (newT 0) _ ([(⟨1, 0, 1⟩ : Peer)] : List Peer) _ 0 _ hT_3 ho_11.sl (fun x hx _ hb => (fun q_ h1 h2 => pr_13 q_ h2 h1) _ hb ((own_sub _) x hx)) (by first | omega | simp) (by omega)) ?_
  rintro _ w_17 ⟨a_15, c_16, rfl, ho_18, hg_19, hT_20, K_21⟩
  have pr_22 : ∀ q_, own a_15 q_ → ¬ tabS b_1 none q_ := apartNew hg_19 hT_3.own_lt
  have pr_23 : ∀ q_, own a_15 q_ → ¬ own (some ⟨b_8, 0, none⟩) q_ := apartNew hg_19 ho_11.own_lt
  have pg_24 : ∀ q_, own a_15 q_ → w.heap.size ≤ q_ := fun q_ h => Nat.le_trans K0.size (hg_19 q_ h)
  clear hg_19
  replace ho_11 := ho_11.keepO K_21 pr_13
  replace K0 := K0.new K_21 pg_7
  replace hT_3 := hT_20
  clear hT_20
  refine RL.gst (wantedF1 rfl rfl rfl rfl) <| St1.val (x_lenSl Try.underlying32 rfl) ?_
  refine RL.gst (wantedF1 rfl rfl rfl rfl) <| St1.val (litF (x_neI rfl rfl) (by rw [aw_hear]; rfl)) ?_
  refine RL.val (x_orF rfl rfl rfl) ?_
  refine RL.nil ?_
  refine Run.condF rfl ?_
  refine Run.skip ?_
  refine Run.seq ?_
  refine Run.region ?_
  refine RL.val (x_moveP rfl) ?_
  refine RL.st rfl <| St1.call (vals := [.pointer (some ⟨b_1, 0, none⟩), .int .i64 (0)]) en16 rfl (tick_ _ _ _ ((hear (newT 0) ([(⟨1, 0, 1⟩ : Peer)] : List Peer) 0).1) 0 _ hT_3 (by omega) (by omega)) ?_
  rintro _ w_27 ⟨al_25, cl_26, a_31, c_32, a_33, c_34, rfl, hT_28, ho_35, ho_36, hg_37, hg_38, pr_39, pr_40, pr_41, hm_29, K_30⟩
  have pr_42 : ∀ q_, own a_31 q_ → ¬ tabS b_1 none q_ := apartNew hg_37 hT_3.own_lt
  have pr_43 : ∀ q_, own a_31 q_ → ¬ own (some ⟨b_8, 0, none⟩) q_ := apartNew hg_37 ho_11.own_lt
  have pr_44 : ∀ q_, own a_31 q_ → ¬ own a_15 q_ := apartNew hg_37 ho_18.own_lt
  have pg_45 : ∀ q_, own a_31 q_ → w.heap.size ≤ q_ := fun q_ h => Nat.le_trans K0.size (hg_37 q_ h)
  have pr_46 : ∀ q_, own a_33 q_ → ¬ tabS b_1 none q_ := apartNew hg_38 hT_3.own_lt
  have pr_47 : ∀ q_, own a_33 q_ → ¬ own (some ⟨b_8, 0, none⟩) q_ := apartNew hg_38 ho_11.own_lt
  have pr_48 : ∀ q_, own a_33 q_ → ¬ own a_15 q_ := apartNew hg_38 ho_18.own_lt
  have pg_49 : ∀ q_, own a_33 q_ → w.heap.size ≤ q_ := fun q_ h => Nat.le_trans K0.size (hg_38 q_ h)
  have pr_50 : ∀ q_, tabS b_1 al_25 q_ → ¬ own (some ⟨b_8, 0, none⟩) q_ := hm_29.apart (fun q_ h1 h2 => pr_13 q_ h2 h1) ho_11.own_lt
  have pr_51 : ∀ q_, tabS b_1 al_25 q_ → ¬ own a_15 q_ := hm_29.apart (fun q_ h1 h2 => pr_22 q_ h2 h1) ho_18.own_lt
  have pg_52 : ∀ q_, tabS b_1 al_25 q_ → w.heap.size ≤ q_ := hm_29.ge pg_7 K0.size
  replace ho_11 := ho_11.keepO K_30 pr_13
  replace ho_18 := ho_18.keepO K_30 pr_22
  replace K0 := K0.new K_30 pg_7
  clear hm_29
  clear hg_37 hg_38
  refine RL.val (x_moveT rfl) ?_
  refine RL.val (x_extract rfl rfl) ?_
  refine RL.val (x_extract rfl rfl) ?_
  refine RL.val (x_assignSl rfl) ?_
  refine RL.val (x_assignSl rfl) ?_
  refine RL.nil ?_
  refine Run.seq ?_
  refine Run.region ?_
  refine RL.val (x_moveP rfl) ?_
  refine RL.st rfl <| St1.call (vals := [.pointer (some ⟨b_1, 0, none⟩), .int .i64 (1)]) en17 rfl (status_ _ _ _ ((tick ((hear (newT 0) ([(⟨1, 0, 1⟩ : Peer)] : List Peer) 0).1) 0).T) 1 _ hT_28.blk hT_28.ok.len) ?_
  rintro _ w_53 ⟨rfl, K_54⟩
  replace ho_11 := ho_11.ext K_54
  replace ho_18 := ho_18.ext K_54
  replace hT_28 := hT_28.ext K_54
  replace ho_35 := ho_35.ext K_54
  replace ho_36 := ho_36.ext K_54
  replace K0 := K0.ext K_54
  refine RL.val (litT (x_eqI rfl rfl) (by rw [aw_st]; rfl)) ?_
  refine RL.val (x_moveB rfl) ?_
  refine RL.gst (wantedT1 rfl rfl rfl rfl) <| St1.val (x_moveSl rfl) ?_
  refine RL.gst (wantedT1 rfl rfl rfl rfl) <| St1.val (x_lenSl Try.underlying34 rfl) ?_
  refine RL.gst (wantedT1 rfl rfl rfl rfl) <| St1.val (litT (x_eqI rfl rfl) (by rw [aw_out]; rfl)) ?_
  refine RL.val (x_andT rfl rfl rfl) ?_
  refine RL.val (x_moveB rfl) ?_
  refine RL.gst (wantedT1 rfl rfl rfl rfl) <| St1.val (x_moveSl rfl) ?_
  obtain ⟨b_55, o_56, x, hx, ha_57, hc_58⟩ := ho_35.sl.el (i := 0) (by rw [aw_out]; decide)
  refine RL.gst (wantedT1 rfl rfl rfl rfl) <| St1.val (x_idxN Try.underlying34 ty61 rfl rfl ha_57 (by rw [aw_out]; decide)) ?_
  refine RL.gst (wantedT1 rfl rfl rfl rfl) <| St1.val (x_fld (o' := o_56 + 0 * 17 + 2) Try.underlying61 rfl ty3 rfl rfl rfl) ?_
  refine RL.gst (wantedT1 rfl rfl rfl rfl) <| St1.val (x_ld ty3 rfl rfl (hc_58.field (i := 2) rfl)) ?_
  refine RL.gst (wantedT1 rfl rfl rfl rfl) <| St1.val (litT (x_eqI rfl rfl) (by have h := hx; rw [aw_out] at h; cases h; rfl)) ?_
  refine RL.val (x_andT rfl rfl rfl) ?_
  refine RL.val (x_assignB rfl) ?_
  refine RL.nil ?_
  refine Run.ret1 (v := .bool (true)) Try.func13 rfl rfl ?_
  exact ⟨_, rfl, rfl, K0⟩

set_option maxRecDepth 100000 in
set_option maxHeartbeats 4000000 in
theorem law_greater (x y : Peer) (w : World) :
    Calls Try.prog 3 #[.agg #[.int .i64 ((x).node), .int .i64 ((x).inc), .int .i64 ((x).status)], .agg #[.int .i64 ((y).node), .int .i64 ((y).inc), .int .i64 ((y).status)]] w (Ret (fun v w' => v = .bool true ∧ Ext w w')) := by
  refine calls_run (n := 15) Try.func3 rfl rfl rfl ?_
  refine Run.seq ?_
  refine Run.region ?_
  refine RL.st rfl <| St1.box (v := .agg #[.int .i64 ((x).node), .int .i64 ((x).inc), .int .i64 ((x).status)]) rfl ?_
  intro b_1 w_2 hl_5 hb_4 K_3
  replace hb_4 : Blk w_2 b_1 [.int .i64 ((x).node), .int .i64 ((x).inc), .int .i64 ((x).status)] 23 := hb_4
  have : w.heap.size ≤ b_1 := hl_5
  clear hl_5
  have K0 := (K_3 : Ext w _)
  refine RL.st rfl <| St1.box (v := .agg #[.int .i64 ((y).node), .int .i64 ((y).inc), .int .i64 ((y).status)]) rfl ?_
  intro b_6 w_7 hl_10 hb_9 K_8
  replace hb_9 : Blk w_7 b_6 [.int .i64 ((y).node), .int .i64 ((y).inc), .int .i64 ((y).status)] 23 := hb_9
  have ne_11 : b_1 < b_6 := Nat.lt_of_lt_of_le hb_4.lt hl_10
  have : w.heap.size ≤ b_6 := Nat.le_trans K0.size hl_10
  clear hl_10
  replace hb_4 := hb_4.ext K_8
  replace K0 := K0.ext K_8
  refine RL.val (x_assignB rfl) ?_
  refine RL.nil ?_
  refine Run.seq ?_
  refine Run.drawT [] (m := 11) (by kernel_rfl) rfl ?_
  intro w_12 K_13
  replace hb_4 := hb_4.ext K_13
  replace hb_9 := hb_9.ext K_13
  replace K0 := K0.ext K_13
  refine ⟨fun w' => Blk w' b_1 [.int .i64 ((x).node), .int .i64 ((x).inc), .int .i64 ((x).status)] 23 ∧ Blk w' b_6 [.int .i64 ((y).node), .int .i64 ((y).inc), .int .i64 ((y).status)] 23 ∧ True, ?_⟩
  refine RT.take (v := .agg #[.int .i64 ((x).node), .int .i64 ((x).inc), .int .i64 ((x).status)]) 0 rfl (by kernel_rfl) ⟨hb_4, hb_9, trivial⟩ (by rintro _ ⟨hb_4, hb_9, -⟩; exact (x_lds (cs := #[.int .i64 ((x).node), .int .i64 ((x).inc), .int .i64 ((x).status)]) ty23 rfl rfl (hb_4.cl.drop 0 3))) ?_
  refine RT.take (v := .agg #[.int .i64 ((y).node), .int .i64 ((y).inc), .int .i64 ((y).status)]) 1 rfl (by kernel_rfl) ⟨hb_4, hb_9, trivial⟩ (by rintro _ ⟨hb_4, hb_9, -⟩; exact (x_lds (cs := #[.int .i64 ((y).node), .int .i64 ((y).inc), .int .i64 ((y).status)]) ty23 rfl rfl (hb_9.cl.drop 0 3))) ?_
  refine RT.take (v := .agg #[.int .i64 ((x).node), .int .i64 ((x).inc), .int .i64 ((x).status)]) 3 rfl (by kernel_rfl) ⟨hb_4, hb_9, trivial⟩ (by rintro _ ⟨hb_4, hb_9, -⟩; exact (x_lds (cs := #[.int .i64 ((x).node), .int .i64 ((x).inc), .int .i64 ((x).status)]) ty23 rfl rfl (hb_4.cl.drop 0 3))) ?_
  refine RT.take (v := .agg #[.int .i64 ((y).node), .int .i64 ((y).inc), .int .i64 ((y).status)]) 4 rfl (by kernel_rfl) ⟨hb_4, hb_9, trivial⟩ (by rintro _ ⟨hb_4, hb_9, -⟩; exact (x_lds (cs := #[.int .i64 ((y).node), .int .i64 ((y).inc), .int .i64 ((y).status)]) ty23 rfl rfl (hb_9.cl.drop 0 3))) ?_
  refine RT.st 2 rfl (by kernel_rfl) rfl <| St1.call (vals := [.agg #[.int .i64 ((x).node), .int .i64 ((x).inc), .int .i64 ((x).status)], .agg #[.int .i64 ((y).node), .int .i64 ((y).inc), .int .i64 ((y).status)]]) en11 rfl (greater_ x y _) ?_
  rintro _ w_14 ⟨rfl, K_15⟩
  replace hb_4 := hb_4.ext K_15
  replace hb_9 := hb_9.ext K_15
  replace K0 := K0.ext K_15
  refine ⟨.inr ⟨hb_4, hb_9, trivial⟩, ?_⟩
  refine RT.st 5 rfl (by kernel_rfl) rfl <| St1.call (vals := [.agg #[.int .i64 ((x).node), .int .i64 ((x).inc), .int .i64 ((x).status)], .agg #[.int .i64 ((y).node), .int .i64 ((y).inc), .int .i64 ((y).status)]]) en12 rfl (greaterR_ x y _) ?_
  rintro _ w_16 ⟨rfl, K_17⟩
  replace hb_4 := hb_4.ext K_17
  replace hb_9 := hb_9.ext K_17
  replace K0 := K0.ext K_17
  refine ⟨.inr ⟨hb_4, hb_9, trivial⟩, ?_⟩
  refine RT.takeP (v := .bool (true)) 6 rfl (by kernel_rfl) (.inr ⟨hb_4, hb_9, trivial⟩) (fun _ => (litT (x_eqB Try.underlying4 rfl rfl) (by simp))) ?_
  refine RT.takeP (v := .bool (true)) 7 rfl (by kernel_rfl) (.inr ⟨hb_4, hb_9, trivial⟩) (fun _ => (x_moveB rfl)) ?_
  refine RT.gst 8 rfl (by kernel_rfl) (wantedT1 rfl rfl rfl rfl) <| St1.call (vals := []) en13 rfl (awake_ _) ?_
  rintro _ w_18 ⟨rfl, K_19⟩
  replace hb_4 := hb_4.ext K_19
  replace hb_9 := hb_9.ext K_19
  replace K0 := K0.ext K_19
  refine ⟨.inr ⟨hb_4, hb_9, trivial⟩, ?_⟩
  refine RT.takeP (v := .bool (true)) 9 rfl (by kernel_rfl) (.inr ⟨hb_4, hb_9, trivial⟩) (fun _ => (x_andT rfl rfl rfl)) ?_
  refine RT.takeP (v := .bool (true)) 10 rfl (by kernel_rfl) (.inr ⟨hb_4, hb_9, trivial⟩) (fun _ => (x_assignB rfl)) ?_
  refine RT.done (by kernel_rfl) ?_
  refine Run.ret1 (v := .bool (true)) Try.func3 rfl rfl ?_
  exact ⟨_, rfl, rfl, K0⟩

set_option maxRecDepth 100000 in
set_option maxHeartbeats 4000000 in
theorem law_order (x y z : Peer) (w : World) :
    Calls Try.prog 4 #[.agg #[.int .i64 ((x).node), .int .i64 ((x).inc), .int .i64 ((x).status)], .agg #[.int .i64 ((y).node), .int .i64 ((y).inc), .int .i64 ((y).status)], .agg #[.int .i64 ((z).node), .int .i64 ((z).inc), .int .i64 ((z).status)]] w (Ret (fun v w' => v = .bool true ∧ Ext w w')) := by
  refine calls_run (n := 65) Try.func4 rfl rfl rfl ?_
  refine Run.seq ?_
  refine Run.region ?_
  refine RL.st rfl <| St1.box (v := .agg #[.int .i64 ((x).node), .int .i64 ((x).inc), .int .i64 ((x).status)]) rfl ?_
  intro b_1 w_2 hl_5 hb_4 K_3
  replace hb_4 : Blk w_2 b_1 [.int .i64 ((x).node), .int .i64 ((x).inc), .int .i64 ((x).status)] 23 := hb_4
  have : w.heap.size ≤ b_1 := hl_5
  clear hl_5
  have K0 := (K_3 : Ext w _)
  refine RL.st rfl <| St1.box (v := .agg #[.int .i64 ((y).node), .int .i64 ((y).inc), .int .i64 ((y).status)]) rfl ?_
  intro b_6 w_7 hl_10 hb_9 K_8
  replace hb_9 : Blk w_7 b_6 [.int .i64 ((y).node), .int .i64 ((y).inc), .int .i64 ((y).status)] 23 := hb_9
  have ne_11 : b_1 < b_6 := Nat.lt_of_lt_of_le hb_4.lt hl_10
  have : w.heap.size ≤ b_6 := Nat.le_trans K0.size hl_10
  clear hl_10
  replace hb_4 := hb_4.ext K_8
  replace K0 := K0.ext K_8
  refine RL.st rfl <| St1.box (v := .agg #[.int .i64 ((z).node), .int .i64 ((z).inc), .int .i64 ((z).status)]) rfl ?_
  intro b_12 w_13 hl_16 hb_15 K_14
  replace hb_15 : Blk w_13 b_12 [.int .i64 ((z).node), .int .i64 ((z).inc), .int .i64 ((z).status)] 23 := hb_15
  have ne_17 : b_1 < b_12 := Nat.lt_of_lt_of_le hb_4.lt hl_16
  have ne_18 : b_6 < b_12 := Nat.lt_of_lt_of_le hb_9.lt hl_16
  have : w.heap.size ≤ b_12 := Nat.le_trans K0.size hl_16
  clear hl_16
  replace hb_4 := hb_4.ext K_14
  replace hb_9 := hb_9.ext K_14
  replace K0 := K0.ext K_14
  refine RL.val (x_assignB rfl) ?_
  refine RL.nil ?_
  refine Run.seq ?_
  refine Run.seq ?_
  refine Run.region ?_
  refine RL.st rfl <| St1.call (vals := []) en13 rfl (awake_ _) ?_
  rintro _ w_19 ⟨rfl, K_20⟩
  replace hb_4 := hb_4.ext K_20
  replace hb_9 := hb_9.ext K_20
  replace hb_15 := hb_15.ext K_20
  replace K0 := K0.ext K_20
  refine RL.val (x_not rfl) ?_
  refine RL.nil ?_
  refine Run.condF rfl ?_
  refine Run.skip ?_
  refine Run.seq ?_
  refine Run.seq ?_
  refine Run.region ?_
  refine RL.val (x_lds (cs := #[.int .i64 ((x).node), .int .i64 ((x).inc), .int .i64 ((x).status)]) ty23 rfl rfl (hb_4.cl.drop 0 3)) ?_
  refine RL.val (x_lds (cs := #[.int .i64 ((x).node), .int .i64 ((x).inc), .int .i64 ((x).status)]) ty23 rfl rfl (hb_4.cl.drop 0 3)) ?_
  refine RL.st rfl <| St1.call (vals := [.agg #[.int .i64 ((x).node), .int .i64 ((x).inc), .int .i64 ((x).status)], .agg #[.int .i64 ((x).node), .int .i64 ((x).inc), .int .i64 ((x).status)]]) en11 rfl (greater_ x x _) ?_
  rintro _ w_21 ⟨rfl, K_22⟩
  replace hb_4 := hb_4.ext K_22
  replace hb_9 := hb_9.ext K_22
  replace hb_15 := hb_15.ext K_22
  replace K0 := K0.ext K_22
  refine RL.val (x_moveB rfl) ?_
  refine RL.gval (wantedF rfl rfl rfl rfl) (fun hg => (x_lds (cs := #[.int .i64 ((x).node), .int .i64 ((x).inc), .int .i64 ((x).status)]) ty23 rfl rfl (hb_4.cl.drop 0 3))) ?_
  refine RL.gval (wantedF rfl rfl rfl rfl) (fun hg => (x_lds (cs := #[.int .i64 ((y).node), .int .i64 ((y).inc), .int .i64 ((y).status)]) ty23 rfl rfl (hb_9.cl.drop 0 3))) ?_
  refine RL.gcall (vals := [.agg #[.int .i64 ((x).node), .int .i64 ((x).inc), .int .i64 ((x).status)], .agg #[.int .i64 ((y).node), .int .i64 ((y).inc), .int .i64 ((y).status)]]) (wantedF rfl rfl rfl rfl) en11 (fun hg => (mcons (gvr hg) (mcons (gvr hg) mnil))) (fun hg => (greater_ x y _)) ?_
  intro w_23 K_24
  replace hb_4 := hb_4.ext K_24
  replace hb_9 := hb_9.ext K_24
  replace hb_15 := hb_15.ext K_24
  replace K0 := K0.ext K_24
  refine RL.gval (wantedF rfl rfl rfl rfl) (fun hg => (x_moveB (gvr hg))) ?_
  refine RL.gval (wantedGT rfl rfl rfl rfl) (fun hg => (x_lds (cs := #[.int .i64 ((y).node), .int .i64 ((y).inc), .int .i64 ((y).status)]) ty23 rfl rfl (hb_9.cl.drop 0 3))) ?_
  refine RL.gval (wantedGT rfl rfl rfl rfl) (fun hg => (x_lds (cs := #[.int .i64 ((x).node), .int .i64 ((x).inc), .int .i64 ((x).status)]) ty23 rfl rfl (hb_4.cl.drop 0 3))) ?_
  refine RL.gcall (vals := [.agg #[.int .i64 ((y).node), .int .i64 ((y).inc), .int .i64 ((y).status)], .agg #[.int .i64 ((x).node), .int .i64 ((x).inc), .int .i64 ((x).status)]]) (wantedGT rfl rfl rfl rfl) en11 (fun hg => (mcons (gvr hg) (mcons (gvr hg) mnil))) (fun hg => (greater_ y x _)) ?_
  intro w_25 K_26
  replace hb_4 := hb_4.ext K_26
  replace hb_9 := hb_9.ext K_26
  replace hb_15 := hb_15.ext K_26
  replace K0 := K0.ext K_26
  refine RL.gval (wantedF rfl rfl rfl rfl) (fun hg => (x_andG hg rfl rfl rfl)) ?_
  refine RL.val (x_or rfl rfl rfl) ?_
  refine RL.val (x_moveB rfl) ?_
  refine RL.gval (wantedF rfl rfl rfl rfl) (fun hg => (x_lds (cs := #[.int .i64 ((x).node), .int .i64 ((x).inc), .int .i64 ((x).status)]) ty23 rfl rfl (hb_4.cl.drop 0 3))) ?_
  refine RL.gval (wantedF rfl rfl rfl rfl) (fun hg => (x_lds (cs := #[.int .i64 ((y).node), .int .i64 ((y).inc), .int .i64 ((y).status)]) ty23 rfl rfl (hb_9.cl.drop 0 3))) ?_
  refine RL.gcall (vals := [.agg #[.int .i64 ((x).node), .int .i64 ((x).inc), .int .i64 ((x).status)], .agg #[.int .i64 ((y).node), .int .i64 ((y).inc), .int .i64 ((y).status)]]) (wantedF rfl rfl rfl rfl) en11 (fun hg => (mcons (gvr hg) (mcons (gvr hg) mnil))) (fun hg => (greater_ x y _)) ?_
  intro w_27 K_28
  replace hb_4 := hb_4.ext K_28
  replace hb_9 := hb_9.ext K_28
  replace hb_15 := hb_15.ext K_28
  replace K0 := K0.ext K_28
  refine RL.gval (wantedF rfl rfl rfl rfl) (fun hg => (x_moveB (gvr hg))) ?_
  refine RL.gval (wantedGT rfl rfl rfl rfl) (fun hg => (x_lds (cs := #[.int .i64 ((y).node), .int .i64 ((y).inc), .int .i64 ((y).status)]) ty23 rfl rfl (hb_9.cl.drop 0 3))) ?_
  refine RL.gval (wantedGT rfl rfl rfl rfl) (fun hg => (x_lds (cs := #[.int .i64 ((z).node), .int .i64 ((z).inc), .int .i64 ((z).status)]) ty23 rfl rfl (hb_15.cl.drop 0 3))) ?_
  refine RL.gcall (vals := [.agg #[.int .i64 ((y).node), .int .i64 ((y).inc), .int .i64 ((y).status)], .agg #[.int .i64 ((z).node), .int .i64 ((z).inc), .int .i64 ((z).status)]]) (wantedGT rfl rfl rfl rfl) en11 (fun hg => (mcons (gvr hg) (mcons (gvr hg) mnil))) (fun hg => (greater_ y z _)) ?_
  intro w_29 K_30
  replace hb_4 := hb_4.ext K_30
  replace hb_9 := hb_9.ext K_30
  replace hb_15 := hb_15.ext K_30
  replace K0 := K0.ext K_30
  refine RL.gval (wantedF rfl rfl rfl rfl) (fun hg => (x_andG hg rfl rfl rfl)) ?_
  refine RL.gval (wantedF rfl rfl rfl rfl) (fun hg => (x_moveB (gvr hg))) ?_
  refine RL.gval (wantedGT rfl rfl rfl rfl) (fun hg => (x_lds (cs := #[.int .i64 ((x).node), .int .i64 ((x).inc), .int .i64 ((x).status)]) ty23 rfl rfl (hb_4.cl.drop 0 3))) ?_
  refine RL.gval (wantedGT rfl rfl rfl rfl) (fun hg => (x_lds (cs := #[.int .i64 ((z).node), .int .i64 ((z).inc), .int .i64 ((z).status)]) ty23 rfl rfl (hb_15.cl.drop 0 3))) ?_
  refine RL.gcall (vals := [.agg #[.int .i64 ((x).node), .int .i64 ((x).inc), .int .i64 ((x).status)], .agg #[.int .i64 ((z).node), .int .i64 ((z).inc), .int .i64 ((z).status)]]) (wantedGT rfl rfl rfl rfl) en11 (fun hg => (mcons (gvr hg) (mcons (gvr hg) mnil))) (fun hg => (greater_ x z _)) ?_
  intro w_31 K_32
  replace hb_4 := hb_4.ext K_32
  replace hb_9 := hb_9.ext K_32
  replace hb_15 := hb_15.ext K_32
  replace K0 := K0.ext K_32
  refine RL.gval (wantedGT rfl rfl rfl rfl) (fun hg => (x_not (gvr hg))) ?_
  refine RL.gval (wantedF rfl rfl rfl rfl) (fun hg => (x_andG hg rfl rfl rfl)) ?_
  refine RL.val (x_or rfl rfl rfl) ?_
  refine RL.nil ?_
  refine Run.cond rfl (fun hc37 => ?_) (fun hc37 => ?_)
  · try simp only [br] at hc37
    exact (order_all x y z (by simp only [br]; exact hc37)).elim
  · try simp only [br] at hc37
    refine Run.skip ?_
    refine Run.seq ?_
    refine Run.seq ?_
    refine Run.region ?_
    refine RL.val (x_fld (o' := 0) Try.underlying23 rfl ty3 rfl rfl rfl) ?_
    refine RL.val (x_ld (v := .int .i64 ((x).node)) ty3 rfl rfl (hb_4.cl.field (i := 0) rfl)) ?_
    refine RL.val (x_fld (o' := 0) Try.underlying23 rfl ty3 rfl rfl rfl) ?_
    refine RL.val (x_ld (v := .int .i64 ((y).node)) ty3 rfl rfl (hb_9.cl.field (i := 0) rfl)) ?_
    refine RL.val (x_neI rfl rfl) ?_
    refine RL.val (x_moveB rfl) ?_
    refine RL.gval (wantedF rfl rfl rfl rfl) (fun hg => (x_lds (cs := #[.int .i64 ((x).node), .int .i64 ((x).inc), .int .i64 ((x).status)]) ty23 rfl rfl (hb_4.cl.drop 0 3))) ?_
    refine RL.gval (wantedF rfl rfl rfl rfl) (fun hg => (x_lds (cs := #[.int .i64 ((y).node), .int .i64 ((y).inc), .int .i64 ((y).status)]) ty23 rfl rfl (hb_9.cl.drop 0 3))) ?_
    refine RL.gval (wantedF rfl rfl rfl rfl) (fun hg => (x_eqA (by kernel_rfl) (gvr hg) (gvr hg) (eq_Peer x y))) ?_
    refine RL.val (x_or rfl rfl rfl) ?_
    refine RL.nil ?_
    refine Run.cond rfl (fun hc47 => ?_) (fun hc47 => ?_)
    · try simp only [br] at hc47
      refine Run.seq ?_
      refine Run.region ?_
      refine RL.val (x_lds (cs := #[.int .i64 ((x).node), .int .i64 ((x).inc), .int .i64 ((x).status)]) ty23 rfl rfl (hb_4.cl.drop 0 3)) ?_
      refine RL.val (x_lds (cs := #[.int .i64 ((y).node), .int .i64 ((y).inc), .int .i64 ((y).status)]) ty23 rfl rfl (hb_9.cl.drop 0 3)) ?_
      refine RL.st rfl <| St1.call (vals := [.agg #[.int .i64 ((x).node), .int .i64 ((x).inc), .int .i64 ((x).status)], .agg #[.int .i64 ((y).node), .int .i64 ((y).inc), .int .i64 ((y).status)]]) en11 rfl (greater_ x y _) ?_
      rintro _ w_33 ⟨rfl, K_34⟩
      replace hb_4 := hb_4.ext K_34
      replace hb_9 := hb_9.ext K_34
      replace hb_15 := hb_15.ext K_34
      replace K0 := K0.ext K_34
      refine RL.val (x_not rfl) ?_
      refine RL.val (x_moveB rfl) ?_
      refine RL.gval (wantedT rfl rfl rfl rfl) (fun hg => (x_lds (cs := #[.int .i64 ((y).node), .int .i64 ((y).inc), .int .i64 ((y).status)]) ty23 rfl rfl (hb_9.cl.drop 0 3))) ?_
      refine RL.gval (wantedT rfl rfl rfl rfl) (fun hg => (x_lds (cs := #[.int .i64 ((x).node), .int .i64 ((x).inc), .int .i64 ((x).status)]) ty23 rfl rfl (hb_4.cl.drop 0 3))) ?_
      refine RL.gcall (vals := [.agg #[.int .i64 ((y).node), .int .i64 ((y).inc), .int .i64 ((y).status)], .agg #[.int .i64 ((x).node), .int .i64 ((x).inc), .int .i64 ((x).status)]]) (wantedT rfl rfl rfl rfl) en11 (fun hg => (mcons (gvr hg) (mcons (gvr hg) mnil))) (fun hg => (greater_ y x _)) ?_
      intro w_35 K_36
      replace hb_4 := hb_4.ext K_36
      replace hb_9 := hb_9.ext K_36
      replace hb_15 := hb_15.ext K_36
      replace K0 := K0.ext K_36
      refine RL.gval (wantedT rfl rfl rfl rfl) (fun hg => (x_not (gvr hg))) ?_
      refine RL.val (x_and rfl rfl rfl) ?_
      refine RL.val (x_assignB rfl) ?_
      refine RL.nil ?_
      refine Run.ret1 (v := .bool ((!(greaterB x y)) && (!(greaterB y x)))) Try.func4 rfl rfl ?_
      exact ⟨_, rfl, congrArg Value.bool (order_same hc47), K0⟩
    · try simp only [br] at hc47
      refine Run.skip ?_
      refine Run.seq ?_
      refine Run.drawT [] (m := 8) (by kernel_rfl) rfl ?_
      intro w_37 K_38
      replace hb_4 := hb_4.ext K_38
      replace hb_9 := hb_9.ext K_38
      replace hb_15 := hb_15.ext K_38
      replace K0 := K0.ext K_38
      refine ⟨fun w' => Blk w' b_1 [.int .i64 ((x).node), .int .i64 ((x).inc), .int .i64 ((x).status)] 23 ∧ Blk w' b_6 [.int .i64 ((y).node), .int .i64 ((y).inc), .int .i64 ((y).status)] 23 ∧ True, ?_⟩
      refine RT.take (v := .agg #[.int .i64 ((x).node), .int .i64 ((x).inc), .int .i64 ((x).status)]) 0 rfl (by kernel_rfl) ⟨hb_4, hb_9, trivial⟩ (by rintro _ ⟨hb_4, hb_9, -⟩; exact (x_lds (cs := #[.int .i64 ((x).node), .int .i64 ((x).inc), .int .i64 ((x).status)]) ty23 rfl rfl (hb_4.cl.drop 0 3))) ?_
      refine RT.take (v := .agg #[.int .i64 ((y).node), .int .i64 ((y).inc), .int .i64 ((y).status)]) 1 rfl (by kernel_rfl) ⟨hb_4, hb_9, trivial⟩ (by rintro _ ⟨hb_4, hb_9, -⟩; exact (x_lds (cs := #[.int .i64 ((y).node), .int .i64 ((y).inc), .int .i64 ((y).status)]) ty23 rfl rfl (hb_9.cl.drop 0 3))) ?_
      refine RT.take (v := .agg #[.int .i64 ((y).node), .int .i64 ((y).inc), .int .i64 ((y).status)]) 3 rfl (by kernel_rfl) ⟨hb_4, hb_9, trivial⟩ (by rintro _ ⟨hb_4, hb_9, -⟩; exact (x_lds (cs := #[.int .i64 ((y).node), .int .i64 ((y).inc), .int .i64 ((y).status)]) ty23 rfl rfl (hb_9.cl.drop 0 3))) ?_
      refine RT.take (v := .agg #[.int .i64 ((x).node), .int .i64 ((x).inc), .int .i64 ((x).status)]) 4 rfl (by kernel_rfl) ⟨hb_4, hb_9, trivial⟩ (by rintro _ ⟨hb_4, hb_9, -⟩; exact (x_lds (cs := #[.int .i64 ((x).node), .int .i64 ((x).inc), .int .i64 ((x).status)]) ty23 rfl rfl (hb_4.cl.drop 0 3))) ?_
      refine RT.st 2 rfl (by kernel_rfl) rfl <| St1.call (vals := [.agg #[.int .i64 ((x).node), .int .i64 ((x).inc), .int .i64 ((x).status)], .agg #[.int .i64 ((y).node), .int .i64 ((y).inc), .int .i64 ((y).status)]]) en11 rfl (greater_ x y _) ?_
      rintro _ w_39 ⟨rfl, K_40⟩
      replace hb_4 := hb_4.ext K_40
      replace hb_9 := hb_9.ext K_40
      replace hb_15 := hb_15.ext K_40
      replace K0 := K0.ext K_40
      refine ⟨.inr ⟨hb_4, hb_9, trivial⟩, ?_⟩
      refine RT.st 5 rfl (by kernel_rfl) rfl <| St1.call (vals := [.agg #[.int .i64 ((y).node), .int .i64 ((y).inc), .int .i64 ((y).status)], .agg #[.int .i64 ((x).node), .int .i64 ((x).inc), .int .i64 ((x).status)]]) en11 rfl (greater_ y x _) ?_
      rintro _ w_41 ⟨rfl, K_42⟩
      replace hb_4 := hb_4.ext K_42
      replace hb_9 := hb_9.ext K_42
      replace hb_15 := hb_15.ext K_42
      replace K0 := K0.ext K_42
      refine ⟨.inr ⟨hb_4, hb_9, trivial⟩, ?_⟩
      refine RT.takeP (v := .bool (!((greaterB x y) == (greaterB y x)))) 6 rfl (by kernel_rfl) (.inr ⟨hb_4, hb_9, trivial⟩) (fun _ => (x_neB Try.underlying4 rfl rfl)) ?_
      refine RT.takeP (v := .bool (!((greaterB x y) == (greaterB y x)))) 7 rfl (by kernel_rfl) (.inr ⟨hb_4, hb_9, trivial⟩) (fun _ => (x_assignB rfl)) ?_
      refine RT.done (by kernel_rfl) ?_
      refine Run.ret1 (v := .bool (!((greaterB x y) == (greaterB y x)))) Try.func4 rfl rfl ?_
      exact ⟨_, rfl, congrArg Value.bool (order_diff hc47), K0⟩

end Go.Proofs.Ytagfdmdajmkddaa
