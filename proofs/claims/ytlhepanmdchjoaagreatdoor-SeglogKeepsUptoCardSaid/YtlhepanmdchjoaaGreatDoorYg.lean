/-
  Layer 7: SeglogFull.
-/
import Derived.Test.YtlhepanmdchjoaaGreatDoorRows
import Derived.Test.YtlhepanmdchjoaaGreatDoorYf
namespace Go.Proofs.YtlhepanmdchjoaaGreatDoor
attribute [local irreducible] St1 RL RA RT RT1 Run
attribute [local irreducible] crcN crcL crcS crcB numL leL unfR nameS segsL sortZ segI segO hasP restP
attribute [local irreducible] readAll mayP frameB
/-! ### a disk with one segment -/
def oneL (B : List UInt8) (s : Nat) : List PF := [⟨nameS 1, B, s⟩]
def fullL (T : List (List UInt8)) : List PF := if T = [] then [] else oneL (T.flatMap frameB) 0
theorem segN_one : segN (nameS 1) = 1 := segN_name (n := 1) (by decide) (by decide)
theorem segsL_nil : segsL [] = [] := by
  unfold segsL segI
  have : namesS [] = [] := by simp [namesS, sortN]
  rw [this]; exact sortZ_nil
theorem sortN_one (s : ByteArray) : sortN [s] = [s] := by
  have h := sortN_mem (l := [s])
  have h2 := h.length_eq
  match hl : sortN [s], h2 with
  | [x], _ => rw [hl] at h; have := h.mem_iff.1 (List.mem_singleton.2 rfl); simp at this; rw [this]
theorem segsL_one (B : List UInt8) (s : Nat) : segsL (oneL B s) = [1] := by
  have h1 : namesS (oneL B s) = [nameS 1] := by rw [namesS, oneL]; exact sortN_one _
  have h2 : segI [nameS 1] = [1] := by
    unfold segI
    rw [List.filterMap_cons_some (b := 1), List.filterMap_nil]
    unfold segO
    rw [segN_one]; rfl
  unfold segsL
  rw [h1, h2]
  unfold sortZ
  simp
theorem name1_may : mayN (nameS 1) = true := name_may (by decide) (by decide)
theorem has_one (B : List UInt8) (s : Nat) : hasL (oneL B s) (nameS 1) = true := hasL_iff.2 ⟨_, List.mem_singleton.2 rfl, rfl⟩
theorem look_one (B : List UInt8) (s : Nat) : lookL (oneL B s) (nameS 1) = some ⟨nameS 1, B, s⟩ := by simp [lookL, oneL]
theorem readB_one (B : List UInt8) (s : Nat) : readB (oneL B s) (nameS 1) = B := by rw [readB, look_one]; rfl
theorem sizeB_one (B : List UInt8) (s : Nat) : sizeB (oneL B s) (nameS 1) = B.length := by rw [sizeB, look_one]; rfl
theorem used_one (B : List UInt8) (s : Nat) : usedL (oneL B s) = B.length := by simp [usedL, oneL]
theorem last_nil : lastP [] = 0 := by rw [lastP, segsL_nil]; rfl
theorem last_one (B : List UInt8) (s : Nat) : lastP (oneL B s) = 1 := by rw [lastP, segsL_one]; rfl
theorem rem_fresh_one (B : List UInt8) (s : Nat) : remL (oneL B s) freshN = oneL B s := rem_no (by
  rw [Bool.eq_false_iff]; intro h
  obtain ⟨f, hf, e⟩ := hasL_iff.1 h
  simp only [oneL, List.mem_singleton] at hf
  subst hf
  exact fresh_not 1 e)
theorem readAll_nil (room : Int) : readAll room [] = (0, [], []) := by unfold readAll; rw [segsL_nil]; rfl
theorem open_nil (room : Int) : openP room [] = (0, [], []) := by
  have e : remL [] freshN = [] := rfl
  rw [openP, e, readAll_nil, if_pos rfl, segsL_nil, syncsL_nil]
theorem readAll_one (room : Int) (T : List (List UInt8)) (s : Nat) (h : ∀ p ∈ T, p ≠ [] ∧ p.length ≤ 65536) : readAll room (oneL (T.flatMap frameB) s) = (0, T, oneL (T.flatMap frameB) s) := by
  have hf := frames_all T fun p hp => (h p hp).2
  unfold readAll
  rw [segsL_one, readP, readB_one, if_pos (by rw [hf]), hf, readP, steps_all T [] fun p hp => (h p hp).1]
  rfl
theorem open_one (room : Int) (T : List (List UInt8)) (s : Nat) (h : ∀ p ∈ T, p ≠ [] ∧ p.length ≤ 65536) : openP room (oneL (T.flatMap frameB) s) = (0, T, oneL (T.flatMap frameB) (T.flatMap frameB).length) := by
  rw [openP, rem_fresh_one, readAll_one room T s h, if_pos rfl, segsL_one]
  simp [syncsL, oneL]
theorem open_full (room : Int) (T : List (List UInt8)) (h : ∀ p ∈ T, p ≠ [] ∧ p.length ≤ 65536) : (openP room (fullL T)).1 = 0 ∧ (openP room (fullL T)).2.1 = T := by
  rw [fullL]
  split
  · rename_i h0; subst h0; rw [open_nil]; exact ⟨rfl, rfl⟩
  · rw [open_one room T 0 h]; exact ⟨rfl, rfl⟩
theorem used_full (T : List (List UInt8)) : usedL (fullL T) = (T.flatMap frameB).length := by
  rw [fullL]
  split
  · rename_i h0; subst h0; rfl
  · exact used_one _ _
theorem mayP_zero {b : List UInt8} (h0 : 0 < b.length) (h1 : b.length ≤ 65536) : mayP b = 0 := by unfold mayP; rw [if_neg (ne_of_len h0), if_neg (by omega)]
theorem append_full {room : Int} {T : List (List UInt8)} {b : List UInt8} (h0 : 0 < b.length) (h1 : b.length ≤ 65536) (hu : (usedL (fullL T) : Int) ≤ room) (hr : room < 4096) :
    appendP room (fullL T) b = if ((frameB b).length : Int) ≤ room - (usedL (fullL T) : Int) then (0, fullL (T ++ [b])) else (7, fullL T) := by
  have hm := mayP_zero h0 h1
  have hsz : ¬ (0 < lastP (fullL T) ∧ 4096 ≤ sizeB (fullL T) (nameS (lastP (fullL T)))) := by
    by_cases c : T = []
    · subst c; rw [show fullL [] = [] from if_pos rfl, last_nil]; omega
    · rw [show fullL T = oneL (T.flatMap frameB) 0 from if_neg c] at hu ⊢
      rw [last_one, sizeB_one]
      rw [used_one] at hu
      omega
  have hmx : max (lastP (fullL T)) 1 = 1 := by
    by_cases c : T = []
    · subst c; rw [show fullL [] = [] from if_pos rfl, last_nil]; rfl
    · rw [show fullL T = oneL (T.flatMap frameB) 0 from if_neg c, last_one]; rfl
  rw [appendP, if_neg (by rw [hm]; decide), if_neg hsz, hmx, if_neg (by decide)]
  have hlen : (fullL T).length ≤ 1 := by rw [fullL]; split <;> simp [oneL]
  have hE : appE room (fullL T) (nameS 1) (frameB b) = if ((frameB b).length : Int) ≤ room - (usedL (fullL T) : Int) then 0 else 7 := by
    rw [appE, if_pos name1_may]
    by_cases c : ((frameB b).length : Int) ≤ room - (usedL (fullL T) : Int)
    · rw [if_neg (by omega), if_pos c]
    · rw [if_pos (by omega), if_neg c]
  rw [appL, hE]
  by_cases c : ((frameB b).length : Int) ≤ room - (usedL (fullL T) : Int)
  · rw [if_pos c, if_pos c, if_pos rfl]
    congr 1
    by_cases ct : T = []
    · subst ct
      rw [show fullL [] = [] from if_pos rfl]
      simp [hasL, fullL, oneL]
    · rw [show fullL T = oneL (T.flatMap frameB) 0 from if_neg ct, has_one, if_pos rfl, show fullL (T ++ [b]) = oneL ((T ++ [b]).flatMap frameB) 0 from if_neg (by simp)]
      simp [updL, oneL, List.flatMap_append]
  · rw [if_neg c, if_neg c, if_neg (by decide)]
theorem room_mod (z : Int) : ∃ m : Nat, m < 3000 ∧ IntKind.i64.wrap ((IntKind.u64.wrap z).tmod 3000) = (m : Int) := by
  have h1 : IntKind.u64.wrap z = z % 18446744073709551616 := by simp [IntKind.wrap, IntKind.bits, IntKind.signed]
  rw [h1, Int.tmod_eq_emod_of_nonneg (by omega)]
  refine ⟨((z % 18446744073709551616) % 3000).toNat, by omega, ?_⟩
  rw [wrap64 _ (by omega) (by omega)]
  omega
theorem newDk (room : Int) (w : World) (h : 0 ≤ room ∧ room ≤ 16777216) : Calls Tryz.prog 8 #[.int .i64 room] w (Ret fun v w' => ∃ d F, v = .tuple #[.pointer (some ⟨d, 0, none⟩), .int .i64 0] ∧ DiskAt w' d F room [] ∧ (∀ q, F q → w.heap.size ≤ q) ∧ Ext w w') :=
  ret_mono (newD room w) fun v w' hh => hh.elim (fun h1 => absurd h h1.1) (fun h1 => h1.2)

theorem en8 : Enters Tryz.prog 8 := enters_of Tryz.func8 rfl (by kernel_rfl)
theorem en9 : Enters Tryz.prog 9 := enters_of Tryz.func9 rfl (by kernel_rfl)
theorem en10 : Enters Tryz.prog 10 := enters_of Tryz.func10 rfl (by kernel_rfl)
theorem en11 : Enters Tryz.prog 11 := enters_of Tryz.func11 rfl (by kernel_rfl)
theorem en13 : Enters Tryz.prog 13 := enters_of Tryz.func13 rfl (by kernel_rfl)
theorem en14 : Enters Tryz.prog 14 := enters_of Tryz.func14 rfl (by kernel_rfl)

set_option maxRecDepth 100000 in
set_option maxHeartbeats 4000000 in
theorem law_full (a : Option Addr) (rs : List RB) (c : Nat) (z : Int) (w : World) (hs : SlOf w a (rs.map RB.h)) (hl : rs.length ≤ 4294967295) (hQ : RecsQ w rs) (hL : LaidOk w) :
    Calls Tryz.prog 3 #[.slice (a) ((rs.map RB.h).length) (c), .int .i64 (z)] w (Ret (fun v w' => v = .bool true ∧ Ext w w')) := by
  have hLs := hL.size
  obtain ⟨m, hm, em⟩ := room_mod z
  refine calls_run (n := 93) Tryz.func3 rfl rfl rfl ?_
  refine Run.seq ?_
  refine Run.region ?_
  refine RL.val (x_assignB rfl) ?_
  refine RL.nil ?_
  refine Run.seq ?_
  refine Run.region ?_
  refine RL.val (x_moveI rfl) ?_
  refine RL.val (x_convI rfl ⟨_, Tryz.underlying3⟩ Tryz.underlying23) ?_
  refine RL.val (x_rem rfl rfl (by decide)) ?_
  refine RL.val (litI (c := ((m : Nat) : Int)) (x_convI rfl ⟨_, Tryz.underlying23⟩ Tryz.underlying3) em) ?_
  refine RL.val (x_assignI rfl) ?_
  refine RL.nil ?_
  refine Run.seq ?_
  refine Run.region ?_
  refine RL.val (x_moveI rfl) ?_
  refine RL.st rfl <| St1.call (vals := [.int .i64 (((m : Nat) : Int))]) en8 rfl (newDk ((m : Nat) : Int) _ (by omega)) ?_
  rintro _ w_3 ⟨d_1, F_2, rfl, hD_4, hg_5, K_6⟩
  have pG_7 : ∀ q_, F_2 q_ → 5 ≤ q_ := fun q_ h_ => Nat.le_trans hLs (Nat.le_trans (Nat.le_refl _) (hg_5 q_ h_))
  have pg_8 : ∀ q_, F_2 q_ → w.heap.size ≤ q_ := fun q_ h => Nat.le_trans (Nat.le_refl _) (hg_5 q_ h)
  clear hg_5
  replace hL := hL.ext K_6
  have K0 := (K_6 : Ext w _)
  refine RL.val (x_moveT rfl) ?_
  refine RL.val (x_extract rfl rfl) ?_
  refine RL.val (x_extract rfl rfl) ?_
  refine RL.val (x_assignP rfl) ?_
  refine RL.val (x_assignI rfl) ?_
  refine RL.nil ?_
  refine Run.seq ?_
  refine Run.region ?_
  refine RL.val (x_moveP rfl) ?_
  refine RL.st rfl <| St1.call (vals := [.pointer (some ⟨d_1, 0, none⟩)]) en9 rfl (open7_ _ _ _ _ _ hD_4 hL pG_7) ?_
  rintro vv w_10 ⟨F_9, hD_11, hm_12, K_13, hcs_14⟩
  rcases hcs_14 with hcs_14 | hcs_14
  · obtain ⟨he_15, a_16, c_17, rs_18, b_27, rfl, hb_28, hbF_29, hbl_30, ho_19, hR_20, hms_21, hg_22, hg_23, hap_24, hf_25, hf_26⟩ := hcs_14
    have pr_31 : ∀ q_, own a_16 q_ → ¬ F_2 q_ := apartNew hg_22 hD_4.own_lt
    have pg_32 : ∀ q_, own a_16 q_ → w.heap.size ≤ q_ := fun q_ h => Nat.le_trans K0.size (hg_22 q_ h)
    have pr_33 : ∀ q_, recsS (rs_18) q_ → ¬ F_2 q_ := apartNew hg_23 hD_4.own_lt
    have pg_34 : ∀ q_, recsS (rs_18) q_ → w.heap.size ≤ q_ := fun q_ h => Nat.le_trans K0.size (hg_23 q_ h)
    have : w.heap.size ≤ b_27 := Nat.le_trans K0.size hbl_30
    have pg_35 : ∀ q_, F_9 q_ → w.heap.size ≤ q_ := hm_12.ge pg_8 K0.size
    have pG_36 : ∀ q_, F_9 q_ → 5 ≤ q_ := fun q_ h_ => (hm_12 q_ h_).elim (pG_7 q_) (fun h2_ => Nat.le_trans hLs (Nat.le_trans K0.size h2_))
    replace hL := hL.keep K_13 pG_7
    replace K0 := K0.new K_13 pg_8
    clear hm_12
    rw [show (openP ((m : Nat) : Int) ([] : List PF)).2.2 = fullL ([] : List (List UInt8)) from by rw [open_nil]; rfl] at hD_11
    refine RL.val (x_moveT rfl) ?_
    refine RL.val (x_extract rfl rfl) ?_
    refine RL.val (x_extract rfl rfl) ?_
    refine RL.val (x_extract rfl rfl) ?_
    refine RL.val (x_assignP rfl) ?_
    refine RL.val (x_assignSl rfl) ?_
    refine RL.val (x_assignI rfl) ?_
    refine RL.nil ?_
    refine Run.seq ?_
    refine Run.seq ?_
    refine Run.region ?_
    refine RL.val (x_moveI rfl) ?_
    refine RL.val (litF (x_neI rfl rfl) (by decide)) ?_
    refine RL.val (x_moveB rfl) ?_
    refine RL.gst (wantedF1 rfl rfl rfl rfl) <| St1.val (x_moveI rfl) ?_
    refine RL.gst (wantedF1 rfl rfl rfl rfl) <| St1.val (litF (x_neI rfl rfl) (by decide)) ?_
    refine RL.val (x_orF rfl rfl rfl) ?_
    refine RL.nil ?_
    refine Run.condF rfl ?_
    refine Run.skip ?_
    refine Run.seq ?_
    refine Run.region ?_
    refine RL.val (x_assignSl rfl) ?_
    refine RL.nil ?_
    refine Run.seq ?_
    refine Run.seq ?_
    refine Run.region ?_
    refine RL.val (x_moveSl rfl) ?_
    refine RL.st rfl <| St1.call (vals := [.slice (a) ((rs.map RB.h).length) (c)]) en10 rfl (usual_ _ _ _ _ (hs.ext K0) (by omega)) ?_
    rintro _ w_41 ⟨a_39, c_40, rfl, ho_42, hg_43, K_44⟩
    have pr_45 : ∀ q_, own a_39 q_ → ¬ F_9 q_ := apartNew hg_43 hD_11.own_lt
    have pr_46 : ∀ q_, own a_39 q_ → ¬ own a_16 q_ := apartNew hg_43 ho_19.own_lt
    have pr_47 : ∀ q_, own a_39 q_ → ¬ recsS (rs_18) q_ := apartNew hg_43 hR_20.own_lt
    have pr_48 : ¬ own a_39 b_27 := notNew hg_43 hb_28.lt
    have pg_49 : ∀ q_, own a_39 q_ → w.heap.size ≤ q_ := fun q_ h => Nat.le_trans K0.size (hg_43 q_ h)
    clear hg_43
    replace hL := hL.ext K_44
    replace hD_11 := hD_11.ext K_44
    replace ho_19 := ho_19.ext K_44
    replace hR_20 := hR_20.ext K_44
    replace hb_28 := hb_28.ext K_44
    replace K0 := K0.ext K_44
    refine RL.val (x_lenSl Tryz.underlying22 rfl) ?_
    refine RL.val (x_moveI rfl) ?_
    refine RL.nil ?_
    obtain ⟨husk, husl, husm⟩ := usual_ok rs
    have hrlu : ((usualR rs).map RB.h).length = (usualR rs).length := List.length_map ..
    have hTs2 : ∀ {ts : List RB}, (∀ r ∈ ts, r ∈ usualR rs) → ∀ p ∈ ts.map RB.b, p ≠ [] ∧ p.length ≤ 65536 := fun hT p hp => by
      obtain ⟨r, hr, rfl⟩ := List.mem_map.1 hp
      have := husk r (hT r hr)
      exact ⟨ne_of_len (by omega), by omega⟩
    refine Run.block ?_
    refine Run.loop (ι := Nat) (fun i ρ' w' => ∃ ts : List RB, ∃ ao : Option Addr, ∃ co : Nat, ∃ Fk : Nat → Prop, Holds ρ' [(1, .int .i64 (((m : Nat) : Int))), (5, .pointer (some ⟨d_1, 0, none⟩)), (7, .pointer (some ⟨b_27, 0, none⟩)), (10, .slice (ao) ((ts.map RB.h).length) (co)), (41, .slice (a_39) (((usualR rs).map RB.h).length) (c_40)), (42, .int .i64 (((((usualR rs).map RB.h).length : Nat) : Int))), (43, .int .i64 (((i : Nat) : Int)))] ∧ Ext w w' ∧ (LaidOk w') ∧ (Blk w' b_27 [.pointer (some ⟨d_1, 0, none⟩)] 42) ∧ (OwnSl w' 32 (a_16) (c_17) (rs_18.map RB.h)) ∧ (RecsO w' (rs_18)) ∧ (OwnSl w' 32 (a_39) (c_40) ((usualR rs).map RB.h)) ∧ (DiskAt w' d_1 Fk ((m : Nat) : Int) (fullL (ts.map RB.b))) ∧ (OwnSl w' 32 ao co (ts.map RB.h)) ∧ (¬ Fk b_27) ∧ (∀ q_, Fk q_ → ¬ own a_16 q_) ∧ (∀ q_, Fk q_ → ¬ recsS (rs_18) q_) ∧ (∀ q_, Fk q_ → ¬ own a_39 q_) ∧ (∀ q_, Fk q_ → ¬ own ao q_) ∧ (∀ q_, Fk q_ → w.heap.size ≤ q_) ∧ (¬ own ao b_27) ∧ (∀ q_, own ao q_ → ¬ own a_16 q_) ∧ (∀ q_, own ao q_ → ¬ recsS (rs_18) q_) ∧ (∀ q_, own ao q_ → ¬ own a_39 q_) ∧ (∀ q_, own ao q_ → w.heap.size ≤ q_) ∧ (∀ q_, Fk q_ → 5 ≤ q_) ∧ (i ≤ (usualR rs).length) ∧ (ts.length ≤ i) ∧ (∀ r ∈ ts, r ∈ usualR rs)) (fun i => (usualR rs).length - i) 0 ?_ ?_
    · have ho_66 := OwnSl.nil (α := SH) w_41 32
      refine ⟨[], _, _, _, ⟨rfl, rfl, rfl, rfl, rfl, rfl, rfl, trivial⟩, K0, hL, hb_28, ho_19, hR_20, ho_42, hD_11, ho_66, hbF_29, (fun q_ h1 h2 => hf_25 q_ h2 h1), (fun q_ h1 h2 => hf_26 q_ h2 h1), (fun q_ h1 h2 => pr_45 q_ h2 h1), (fun q_ h1 h2 => (fun q_ h1 _ => own_none q_ h1) q_ h2 h1), pg_35, (own_none b_27), (fun q_ h1 _ => own_none q_ h1), (fun q_ h1 _ => own_none q_ h1), (fun q_ h1 _ => own_none q_ h1), (fun q_ h1 => absurd h1 (own_none q_)), pG_36, ?_, ?_, ?_⟩
      · omega
      · exact Nat.le_refl _
      · intro r h; exact absurd h (by simp)
    clear hD_11 ho_19 hR_20 hb_28 ho_42
    clear K0
    rintro i ρ_67 w_50 ⟨ts, ao, co, Fk, hH_51, K0, hL, hb_28, ho_19, hR_20, ho_42, hO_52, ho_53, pr_54, pr_55, pr_56, pr_57, pr_58, pr_59, pr_60, pr_61, pr_62, pr_63, pr_64, pr_65, hi, htl, hTm⟩ ih1
    obtain ⟨ρ₀, rfl⟩ := hH_51.ex
    clear hH_51
    refine Run.seq ?_
    refine Run.region ?_
    refine RL.val (x_ltI rfl rfl) ?_
    refine RL.nil ?_
    refine Run.seq ?_
    refine Run.cond rfl (fun hc44 => ?_) (fun hc44 => ?_)
    · try simp only [br] at hc44
      refine Run.skip ?_
      refine Run.seq ?_
      refine Run.block ?_
      refine Run.seq ?_
      refine Run.region ?_
      obtain ⟨b_68, o_69, hh_, hh, ha_70, hc_71⟩ := ho_42.sl.el (i := i) (by first | omega | (simp only [List.length_set]; omega))
      refine RL.val (x_idxN Tryz.underlying22 ty32 rfl rfl ha_70 (by first | omega | (simp only [List.length_set]; omega))) ?_
      refine RL.val (x_ldV (v := .slice (hh_.a) (hh_.len) (hh_.cap)) (y := hh_) ty32 rfl hc_71 rfl) ?_
      refine RL.val (x_assignSl rfl) ?_
      refine RL.nil ?_
      obtain ⟨r, hr, hre, hrm⟩ := recsQ_at hh
      subst hre
      have hrl_ : r.h.len = r.b.length := rfl
      have hrk := husk r hrm
      have hrs := hQ r (husm r hrm)
      have hfb := frameB_len r.b (by omega)
      have hDu := hO_52.ok.used
      refine Run.seq ?_
      refine Run.region ?_
      refine RL.val (x_moveSl rfl) ?_
      refine RL.st rfl <| St1.call (vals := [.slice (r.a) (r.b.length) (r.c)]) en11 rfl (rframe_ _ _ _ _ (hrs.ext K0) (by first | omega | (simp; done))) ?_
      rintro _ w_76 ⟨a_74, c_75, rfl, ho_77, hg_78, K_79⟩
      have pr_80 : ¬ own a_74 b_27 := notNew hg_78 hb_28.lt
      have pr_81 : ∀ q_, own a_74 q_ → ¬ own a_16 q_ := apartNew hg_78 ho_19.own_lt
      have pr_82 : ∀ q_, own a_74 q_ → ¬ recsS (rs_18) q_ := apartNew hg_78 hR_20.own_lt
      have pr_83 : ∀ q_, own a_74 q_ → ¬ own a_39 q_ := apartNew hg_78 ho_42.own_lt
      have pr_84 : ∀ q_, own a_74 q_ → ¬ Fk q_ := apartNew hg_78 hO_52.own_lt
      have pr_85 : ∀ q_, own a_74 q_ → ¬ own ao q_ := apartNew hg_78 ho_53.own_lt
      have pg_86 : ∀ q_, own a_74 q_ → w.heap.size ≤ q_ := fun q_ h => Nat.le_trans K0.size (hg_78 q_ h)
      clear hg_78
      replace hL := hL.ext K_79
      replace hb_28 := hb_28.ext K_79
      replace ho_19 := ho_19.ext K_79
      replace hR_20 := hR_20.ext K_79
      replace ho_42 := ho_42.ext K_79
      replace hO_52 := hO_52.ext K_79
      replace ho_53 := ho_53.ext K_79
      replace K0 := K0.ext K_79
      refine RL.val (x_moveT rfl) ?_
      refine RL.val (x_extract rfl rfl) ?_
      refine RL.val (x_extract rfl rfl) ?_
      refine RL.val (x_assignSl rfl) ?_
      refine RL.val (x_assignI rfl) ?_
      refine RL.nil ?_
      refine Run.seq ?_
      by_cases hft : ((frameB r.b).length : Int) ≤ ((m : Nat) : Int) - ((usedL (fullL (ts.map RB.b)) : Nat) : Int)
      · refine Run.region ?_
        refine RL.val (x_moveSl rfl) ?_
        refine RL.val (x_lenSl Tryz.underlying32 rfl) ?_
        refine RL.val (x_moveI rfl) ?_
        refine RL.val (x_moveP rfl) ?_
        refine RL.st rfl <| St1.call (vals := [.pointer (some ⟨d_1, 0, none⟩)]) en12 rfl (usedD hO_52) ?_
        rintro _ w_87 ⟨rfl, K_88⟩
        replace hL := hL.ext K_88
        replace hb_28 := hb_28.ext K_88
        replace ho_19 := ho_19.ext K_88
        replace hR_20 := hR_20.ext K_88
        replace ho_42 := ho_42.ext K_88
        replace hO_52 := hO_52.ext K_88
        replace ho_53 := ho_53.ext K_88
        replace ho_77 := ho_77.ext K_88
        replace K0 := K0.ext K_88
        refine RL.val (x_sub rfl rfl (by omega) (by omega)) ?_
        refine RL.val (litT (x_leI rfl rfl) (by rw [decide_eq_true_eq]; exact hft)) ?_
        refine RL.val (x_assignB rfl) ?_
        refine RL.nil ?_
        refine Run.seq ?_
        refine Run.region ?_
        refine RL.val (x_moveP rfl) ?_
        refine RL.val (x_moveSl rfl) ?_
        have hAp := (append_full (room := ((m : Nat) : Int)) (T := ts.map RB.b) (b := r.b) (by omega) (by omega) hDu (by omega)).trans (if_pos hft)
        refine RL.st rfl <| St1.call (vals := [.pointer (some ⟨b_27, 0, none⟩), .slice (r.a) (r.b.length) (r.c)]) en13 rfl (dcast (lappend_ _ _ _ _ _ _ r.b _ _ hb_28 hO_52 pr_54 hL pr_65 (hrs.ext K0) (fun x_ hx_ h_ => absurd (pr_59 _ h_) (by have := slOf_lt hrs (ne_of_len (by omega)) x_ hx_; omega))) (show _ = (0 : Int) from congrArg Prod.fst hAp) (show _ = fullL (ts.map RB.b ++ [r.b]) from congrArg Prod.snd hAp)) ?_
        rintro _ w_90 ⟨F_89, rfl, hD_91, hm_92, K_93⟩
        have pr_94 : ¬ F_89 b_27 := hm_92.not pr_54 hb_28.lt
        have pr_95 : ∀ q_, F_89 q_ → ¬ own a_16 q_ := hm_92.apart pr_55 ho_19.own_lt
        have pr_96 : ∀ q_, F_89 q_ → ¬ recsS (rs_18) q_ := hm_92.apart pr_56 hR_20.own_lt
        have pr_97 : ∀ q_, F_89 q_ → ¬ own a_39 q_ := hm_92.apart pr_57 ho_42.own_lt
        have pr_98 : ∀ q_, F_89 q_ → ¬ own ao q_ := hm_92.apart pr_58 ho_53.own_lt
        have pr_99 : ∀ q_, F_89 q_ → ¬ own a_74 q_ := hm_92.apart (fun q_ h1 h2 => pr_84 q_ h2 h1) ho_77.own_lt
        have pg_100 : ∀ q_, F_89 q_ → w.heap.size ≤ q_ := hm_92.ge pr_59 K0.size
        have pG_101 : ∀ q_, F_89 q_ → 5 ≤ q_ := fun q_ h_ => (hm_92 q_ h_).elim (pr_65 q_) (fun h2_ => Nat.le_trans hLs (Nat.le_trans K0.size h2_))
        replace hL := hL.keep K_93 pr_65
        replace hb_28 := hb_28.keep K_93 pr_54
        replace ho_19 := ho_19.keepO K_93 (fun q_ h1 h2 => pr_55 q_ h2 h1)
        replace hR_20 := hR_20.keepO K_93 (fun q_ h1 h2 => pr_56 q_ h2 h1)
        replace ho_42 := ho_42.keepO K_93 (fun q_ h1 h2 => pr_57 q_ h2 h1)
        replace ho_53 := ho_53.keepO K_93 (fun q_ h1 h2 => pr_58 q_ h2 h1)
        replace ho_77 := ho_77.keepO K_93 pr_84
        replace K0 := K0.new K_93 pr_59
        clear hm_92
        refine RL.val (x_assignI rfl) ?_
        refine RL.nil ?_
        refine Run.seq ?_
        refine Run.seq ?_
        refine Run.region ?_
        refine RL.val (x_moveB rfl) ?_
        refine RL.val (x_moveI rfl) ?_
        refine RL.val (litT (x_eqI rfl rfl) (by decide)) ?_
        refine RL.val (litF (x_neB Tryz.underlying4 rfl rfl) rfl) ?_
        refine RL.val (x_moveB rfl) ?_
        refine RL.gst (wantedF1 rfl rfl rfl rfl) <| St1.val (x_moveB rfl) ?_
        refine RL.gst (wantedF1 rfl rfl rfl rfl) <| St1.val (x_not (b := true) rfl) ?_
        refine RL.gst (wantedF1 rfl rfl rfl rfl) <| St1.val (x_moveB rfl) ?_
        refine RL.guardF (wantedT0 rfl rfl rfl rfl) ?_
        refine RL.guardF (wantedT0 rfl rfl rfl rfl) ?_
        refine RL.gst (wantedF1 rfl rfl rfl rfl) <| St1.val (x_and (b := false) (e := false) rfl rfl rfl) ?_
        refine RL.val (x_orF rfl rfl rfl) ?_
        refine RL.nil ?_
        refine Run.condF rfl ?_
        refine Run.skip ?_
        refine Run.seq ?_
        refine Run.region ?_
        refine RL.val (x_moveB rfl) ?_
        refine RL.nil ?_
        refine Run.condT rfl ?_
        refine Run.region ?_
        refine RL.val (x_moveSl rfl) ?_
        refine RL.val (x_moveSl rfl) ?_
        refine RL.st rfl <| St1.buildSlice ([⟨r.a, r.b.length, r.c⟩] : List SH) Tryz.underlying22 ty32 rfl rfl (by first | decide | (simp [Enc.size])) ?_
        intro b_102 w_103 hl_106 ho_105 K_104
        have pr_107 : ¬ own (some ⟨b_102, 0, none⟩) b_27 := notNew (ge_new hl_106) hb_28.lt
        have pr_108 : ∀ q_, own (some ⟨b_102, 0, none⟩) q_ → ¬ own a_16 q_ := apartNew (ge_new hl_106) ho_19.own_lt
        have pr_109 : ∀ q_, own (some ⟨b_102, 0, none⟩) q_ → ¬ recsS (rs_18) q_ := apartNew (ge_new hl_106) hR_20.own_lt
        have pr_110 : ∀ q_, own (some ⟨b_102, 0, none⟩) q_ → ¬ own a_39 q_ := apartNew (ge_new hl_106) ho_42.own_lt
        have pr_111 : ∀ q_, own (some ⟨b_102, 0, none⟩) q_ → ¬ own ao q_ := apartNew (ge_new hl_106) ho_53.own_lt
        have pr_112 : ∀ q_, own (some ⟨b_102, 0, none⟩) q_ → ¬ own a_74 q_ := apartNew (ge_new hl_106) ho_77.own_lt
        have pr_113 : ∀ q_, own (some ⟨b_102, 0, none⟩) q_ → ¬ F_89 q_ := apartNew (ge_new hl_106) hD_91.own_lt
        have pg_114 : ∀ q_, own (some ⟨b_102, 0, none⟩) q_ → w.heap.size ≤ q_ := fun q_ h => Nat.le_trans K0.size ((ge_new hl_106) q_ h)
        clear hl_106
        replace hL := hL.ext K_104
        replace hb_28 := hb_28.ext K_104
        replace ho_19 := ho_19.ext K_104
        replace hR_20 := hR_20.ext K_104
        replace ho_42 := ho_42.ext K_104
        replace ho_53 := ho_53.ext K_104
        replace ho_77 := ho_77.ext K_104
        replace hD_91 := hD_91.ext K_104
        replace K0 := K0.ext K_104
        refine RL.st rfl <| St1.append (xs := ts.map RB.h) (ys := ([⟨r.a, r.b.length, r.c⟩] : List SH)) Tryz.underlying22 ty32 rfl rfl rfl ho_53 ho_105.sl (by rw [List.length_map]; simp only [List.length_cons, List.length_nil]; omega) (by decide) ?_
        intro a_115 c_116 w_117 ho_118 K_119 hm_120 hrm_121
        have pr_122 : ¬ own a_115 b_27 := hm_120.not pr_60 hb_28.lt
        have pr_123 : ∀ q_, own a_115 q_ → ¬ own a_16 q_ := hm_120.apart pr_61 ho_19.own_lt
        have pr_124 : ∀ q_, own a_115 q_ → ¬ recsS (rs_18) q_ := hm_120.apart pr_62 hR_20.own_lt
        have pr_125 : ∀ q_, own a_115 q_ → ¬ own a_39 q_ := hm_120.apart pr_63 ho_42.own_lt
        have pr_126 : ∀ q_, own a_115 q_ → ¬ own a_74 q_ := hm_120.apart (fun q_ h1 h2 => pr_85 q_ h2 h1) ho_77.own_lt
        have pr_127 : ∀ q_, own a_115 q_ → ¬ F_89 q_ := hm_120.apart (fun q_ h1 h2 => pr_98 q_ h2 h1) hD_91.own_lt
        have pr_128 : ∀ q_, own a_115 q_ → ¬ own (some ⟨b_102, 0, none⟩) q_ := hm_120.apart (fun q_ h1 h2 => pr_111 q_ h2 h1) ho_105.own_lt
        have pg_129 : ∀ q_, own a_115 q_ → w.heap.size ≤ q_ := hm_120.ge pr_64 K0.size
        replace hL := hL.keep K_119 (fun q_ hq_ => Nat.le_trans hLs (pr_64 q_ hq_))
        replace hb_28 := hb_28.keep K_119 pr_60
        replace ho_19 := ho_19.keepO K_119 (fun q_ h1 h2 => pr_61 q_ h2 h1)
        replace hR_20 := hR_20.keepO K_119 (fun q_ h1 h2 => pr_62 q_ h2 h1)
        replace ho_42 := ho_42.keepO K_119 (fun q_ h1 h2 => pr_63 q_ h2 h1)
        replace ho_77 := ho_77.keepO K_119 pr_85
        replace hD_91 := hD_91.keepO K_119 pr_98
        replace ho_105 := ho_105.keepO K_119 pr_111
        replace K0 := K0.new K_119 pr_64
        clear hm_120
        clear hrm_121
        refine RL.val (x_assignSl rfl) ?_
        refine RL.nil ?_
        have eTT : (ts.map RB.h) ++ ([⟨r.a, r.b.length, r.c⟩] : List SH) = (ts ++ [r]).map RB.h := by rw [List.map_append]; rfl
        rw [eTT] at ho_118 ⊢
        rw [show fullL (ts.map RB.b ++ [r.b]) = fullL ((ts ++ [r]).map RB.b) from by rw [List.map_append]; rfl] at hD_91
        refine Run.inBlock ?_
        refine Run.region ?_
        refine RL.val (litI (c := ((i + 1 : Nat) : Int)) (x_add rfl rfl (by omega) (by omega)) rfl) ?_
        refine RL.val (x_moveI rfl) ?_
        refine RL.nil ?_
        refine ih1 (i + 1) _ _ ?_ (by omega)
        refine ⟨ts ++ [r], _, _, _, ⟨rfl, rfl, rfl, rfl, rfl, rfl, rfl, trivial⟩, K0, hL, hb_28, ho_19, hR_20, ho_42, hD_91, ho_118, pr_94, pr_95, pr_96, pr_97, (fun q_ h1 h2 => pr_127 q_ h2 h1), pg_100, pr_122, pr_123, pr_124, pr_125, pg_129, pG_101, ?_, ?_, ?_⟩
        · omega
        · simp only [List.length_append, List.length_cons, List.length_nil]; omega
        · intro q hq; rcases List.mem_append.1 hq with hq | hq
          · exact hTm q hq
          · simp only [List.mem_singleton] at hq; subst hq; exact hrm
      · refine Run.region ?_
        refine RL.val (x_moveSl rfl) ?_
        refine RL.val (x_lenSl Tryz.underlying32 rfl) ?_
        refine RL.val (x_moveI rfl) ?_
        refine RL.val (x_moveP rfl) ?_
        refine RL.st rfl <| St1.call (vals := [.pointer (some ⟨d_1, 0, none⟩)]) en12 rfl (usedD hO_52) ?_
        rintro _ w_130 ⟨rfl, K_131⟩
        replace hL := hL.ext K_131
        replace hb_28 := hb_28.ext K_131
        replace ho_19 := ho_19.ext K_131
        replace hR_20 := hR_20.ext K_131
        replace ho_42 := ho_42.ext K_131
        replace hO_52 := hO_52.ext K_131
        replace ho_53 := ho_53.ext K_131
        replace ho_77 := ho_77.ext K_131
        replace K0 := K0.ext K_131
        refine RL.val (x_sub rfl rfl (by omega) (by omega)) ?_
        refine RL.val (litF (x_leI rfl rfl) (by rw [decide_eq_false_iff_not]; exact hft)) ?_
        refine RL.val (x_assignB rfl) ?_
        refine RL.nil ?_
        refine Run.seq ?_
        refine Run.region ?_
        refine RL.val (x_moveP rfl) ?_
        refine RL.val (x_moveSl rfl) ?_
        have hAp := (append_full (room := ((m : Nat) : Int)) (T := ts.map RB.b) (b := r.b) (by omega) (by omega) hDu (by omega)).trans (if_neg hft)
        refine RL.st rfl <| St1.call (vals := [.pointer (some ⟨b_27, 0, none⟩), .slice (r.a) (r.b.length) (r.c)]) en13 rfl (dcast (lappend_ _ _ _ _ _ _ r.b _ _ hb_28 hO_52 pr_54 hL pr_65 (hrs.ext K0) (fun x_ hx_ h_ => absurd (pr_59 _ h_) (by have := slOf_lt hrs (ne_of_len (by omega)) x_ hx_; omega))) (show _ = (7 : Int) from congrArg Prod.fst hAp) (show _ = fullL (ts.map RB.b) from congrArg Prod.snd hAp)) ?_
        rintro _ w_133 ⟨F_132, rfl, hD_134, hm_135, K_136⟩
        have pr_137 : ¬ F_132 b_27 := hm_135.not pr_54 hb_28.lt
        have pr_138 : ∀ q_, F_132 q_ → ¬ own a_16 q_ := hm_135.apart pr_55 ho_19.own_lt
        have pr_139 : ∀ q_, F_132 q_ → ¬ recsS (rs_18) q_ := hm_135.apart pr_56 hR_20.own_lt
        have pr_140 : ∀ q_, F_132 q_ → ¬ own a_39 q_ := hm_135.apart pr_57 ho_42.own_lt
        have pr_141 : ∀ q_, F_132 q_ → ¬ own ao q_ := hm_135.apart pr_58 ho_53.own_lt
        have pr_142 : ∀ q_, F_132 q_ → ¬ own a_74 q_ := hm_135.apart (fun q_ h1 h2 => pr_84 q_ h2 h1) ho_77.own_lt
        have pg_143 : ∀ q_, F_132 q_ → w.heap.size ≤ q_ := hm_135.ge pr_59 K0.size
        have pG_144 : ∀ q_, F_132 q_ → 5 ≤ q_ := fun q_ h_ => (hm_135 q_ h_).elim (pr_65 q_) (fun h2_ => Nat.le_trans hLs (Nat.le_trans K0.size h2_))
        replace hL := hL.keep K_136 pr_65
        replace hb_28 := hb_28.keep K_136 pr_54
        replace ho_19 := ho_19.keepO K_136 (fun q_ h1 h2 => pr_55 q_ h2 h1)
        replace hR_20 := hR_20.keepO K_136 (fun q_ h1 h2 => pr_56 q_ h2 h1)
        replace ho_42 := ho_42.keepO K_136 (fun q_ h1 h2 => pr_57 q_ h2 h1)
        replace ho_53 := ho_53.keepO K_136 (fun q_ h1 h2 => pr_58 q_ h2 h1)
        replace ho_77 := ho_77.keepO K_136 pr_84
        replace K0 := K0.new K_136 pr_59
        clear hm_135
        refine RL.val (x_assignI rfl) ?_
        refine RL.nil ?_
        refine Run.seq ?_
        refine Run.seq ?_
        refine Run.region ?_
        refine RL.val (x_moveB rfl) ?_
        refine RL.val (x_moveI rfl) ?_
        refine RL.val (litF (x_eqI rfl rfl) (by decide)) ?_
        refine RL.val (litF (x_neB Tryz.underlying4 rfl rfl) rfl) ?_
        refine RL.val (x_moveB rfl) ?_
        refine RL.gst (wantedF1 rfl rfl rfl rfl) <| St1.val (x_moveB rfl) ?_
        refine RL.gst (wantedF1 rfl rfl rfl rfl) <| St1.val (x_not (b := false) rfl) ?_
        refine RL.gst (wantedF1 rfl rfl rfl rfl) <| St1.val (x_moveB rfl) ?_
        refine RL.gst (wantedT1 rfl rfl rfl rfl) <| St1.val (x_moveI rfl) ?_
        refine RL.gst (wantedT1 rfl rfl rfl rfl) <| St1.val (litF (x_neI rfl rfl) (by decide)) ?_
        refine RL.gst (wantedF1 rfl rfl rfl rfl) <| St1.val (x_andT rfl rfl rfl) ?_
        refine RL.val (x_orF rfl rfl rfl) ?_
        refine RL.nil ?_
        refine Run.condF rfl ?_
        refine Run.skip ?_
        refine Run.seq ?_
        refine Run.region ?_
        refine RL.val (x_moveB rfl) ?_
        refine RL.nil ?_
        refine Run.condF rfl ?_
        refine Run.skip ?_
        refine Run.inBlock ?_
        refine Run.region ?_
        refine RL.val (litI (c := ((i + 1 : Nat) : Int)) (x_add rfl rfl (by omega) (by omega)) rfl) ?_
        refine RL.val (x_moveI rfl) ?_
        refine RL.nil ?_
        refine ih1 (i + 1) _ _ ?_ (by omega)
        refine ⟨_, _, _, _, ⟨rfl, rfl, rfl, rfl, rfl, rfl, rfl, trivial⟩, K0, hL, hb_28, ho_19, hR_20, ho_42, hD_134, ho_53, pr_137, pr_138, pr_139, pr_140, pr_141, pg_143, pr_60, pr_61, pr_62, pr_63, pr_64, pG_144, ?_, ?_, ?_⟩
        · omega
        · omega
        · exact hTm
    · try simp only [br] at hc44
      refine Run.exit rfl ?_
      refine Run.seq ?_
      refine Run.region ?_
      refine RL.val (x_moveP rfl) ?_
      refine RL.st rfl <| St1.call (vals := [.pointer (some ⟨d_1, 0, none⟩)]) en9 rfl (open7_ _ _ _ _ _ hO_52 hL pr_65) ?_
      rintro vv w_146 ⟨F_145, hD_147, hm_148, K_149, hcs_150⟩
      rcases hcs_150 with hcs_150 | hcs_150
      · obtain ⟨he_151, a_152, c_153, rs_154, b_163, rfl, hb_164, hbF_165, hbl_166, ho_155, hR_156, hms_157, hg_158, hg_159, hap_160, hf_161, hf_162⟩ := hcs_150
        have pr_167 : ¬ own a_152 b_27 := notNew hg_158 hb_28.lt
        have pr_168 : ∀ q_, own a_152 q_ → ¬ own a_16 q_ := apartNew hg_158 ho_19.own_lt
        have pr_169 : ∀ q_, own a_152 q_ → ¬ recsS (rs_18) q_ := apartNew hg_158 hR_20.own_lt
        have pr_170 : ∀ q_, own a_152 q_ → ¬ own a_39 q_ := apartNew hg_158 ho_42.own_lt
        have pr_171 : ∀ q_, own a_152 q_ → ¬ Fk q_ := apartNew hg_158 hO_52.own_lt
        have pr_172 : ∀ q_, own a_152 q_ → ¬ own ao q_ := apartNew hg_158 ho_53.own_lt
        have pg_173 : ∀ q_, own a_152 q_ → w.heap.size ≤ q_ := fun q_ h => Nat.le_trans K0.size (hg_158 q_ h)
        have pr_174 : ¬ recsS (rs_154) b_27 := notNew hg_159 hb_28.lt
        have pr_175 : ∀ q_, recsS (rs_154) q_ → ¬ own a_16 q_ := apartNew hg_159 ho_19.own_lt
        have pr_176 : ∀ q_, recsS (rs_154) q_ → ¬ recsS (rs_18) q_ := apartNew hg_159 hR_20.own_lt
        have pr_177 : ∀ q_, recsS (rs_154) q_ → ¬ own a_39 q_ := apartNew hg_159 ho_42.own_lt
        have pr_178 : ∀ q_, recsS (rs_154) q_ → ¬ Fk q_ := apartNew hg_159 hO_52.own_lt
        have pr_179 : ∀ q_, recsS (rs_154) q_ → ¬ own ao q_ := apartNew hg_159 ho_53.own_lt
        have pg_180 : ∀ q_, recsS (rs_154) q_ → w.heap.size ≤ q_ := fun q_ h => Nat.le_trans K0.size (hg_159 q_ h)
        have ne_181 : b_27 < b_163 := Nat.lt_of_lt_of_le hb_28.lt hbl_166
        have pr_182 : ¬ own a_16 b_163 := fun h_ => absurd (ho_19.own_lt _ h_) (by omega)
        have pr_183 : ¬ recsS (rs_18) b_163 := fun h_ => absurd (hR_20.own_lt _ h_) (by omega)
        have pr_184 : ¬ own a_39 b_163 := fun h_ => absurd (ho_42.own_lt _ h_) (by omega)
        have pr_185 : ¬ own ao b_163 := fun h_ => absurd (ho_53.own_lt _ h_) (by omega)
        have : w.heap.size ≤ b_163 := Nat.le_trans K0.size hbl_166
        have pr_186 : ¬ F_145 b_27 := hm_148.not pr_54 hb_28.lt
        have pr_187 : ∀ q_, F_145 q_ → ¬ own a_16 q_ := hm_148.apart pr_55 ho_19.own_lt
        have pr_188 : ∀ q_, F_145 q_ → ¬ recsS (rs_18) q_ := hm_148.apart pr_56 hR_20.own_lt
        have pr_189 : ∀ q_, F_145 q_ → ¬ own a_39 q_ := hm_148.apart pr_57 ho_42.own_lt
        have pr_190 : ∀ q_, F_145 q_ → ¬ own ao q_ := hm_148.apart pr_58 ho_53.own_lt
        have pg_191 : ∀ q_, F_145 q_ → w.heap.size ≤ q_ := hm_148.ge pr_59 K0.size
        have pG_192 : ∀ q_, F_145 q_ → 5 ≤ q_ := fun q_ h_ => (hm_148 q_ h_).elim (pr_65 q_) (fun h2_ => Nat.le_trans hLs (Nat.le_trans K0.size h2_))
        replace hL := hL.keep K_149 pr_65
        replace hb_28 := hb_28.keep K_149 pr_54
        replace ho_19 := ho_19.keepO K_149 (fun q_ h1 h2 => pr_55 q_ h2 h1)
        replace hR_20 := hR_20.keepO K_149 (fun q_ h1 h2 => pr_56 q_ h2 h1)
        replace ho_42 := ho_42.keepO K_149 (fun q_ h1 h2 => pr_57 q_ h2 h1)
        replace ho_53 := ho_53.keepO K_149 (fun q_ h1 h2 => pr_58 q_ h2 h1)
        replace K0 := K0.new K_149 pr_59
        clear hm_148
        refine RL.val (x_moveT rfl) ?_
        refine RL.val (x_extract rfl rfl) ?_
        refine RL.val (x_extract rfl rfl) ?_
        refine RL.val (x_extract rfl rfl) ?_
        refine RL.val (x_assignP rfl) ?_
        refine RL.val (x_assignSl rfl) ?_
        refine RL.val (x_assignI rfl) ?_
        refine RL.nil ?_
        have htl9 : (ts.map RB.h).length = ts.length := List.length_map ..
        have hrl9 : rs_154.length = ts.length := by have h9 := congrArg List.length (hms_157.trans (open_full _ _ (hTs2 hTm)).2); rw [List.length_map, List.length_map] at h9; exact h9
        refine Run.seq ?_
        refine Run.region ?_
        refine RL.val (x_moveI rfl) ?_
        refine RL.val (litT (x_eqI rfl rfl) (by decide)) ?_
        refine RL.val (x_moveB rfl) ?_
        refine RL.gst (wantedT1 rfl rfl rfl rfl) <| St1.val (x_moveSl rfl) ?_
        refine RL.gst (wantedT1 rfl rfl rfl rfl) <| St1.val (x_moveSl rfl) ?_
        refine RL.gst (wantedT1 rfl rfl rfl rfl) <| St1.call (vals := [.slice (a_152) ((rs_154.map RB.h).length) (c_153), .slice (ao) ((ts.map RB.h).length) (co)]) en14 rfl (equalR_ _ rs_154 _ _ ts _ _ ho_155.sl ho_53.sl (RecsO.q hR_156) (fun r hr => (hQ r (husm r (hTm r hr))).ext K0) (by first | omega | (simp; omega)) (by first | omega | (simp; omega))) ?_
        rintro _ w_195 ⟨rfl, K_196⟩
        replace hL := hL.ext K_196
        replace hb_28 := hb_28.ext K_196
        replace ho_19 := ho_19.ext K_196
        replace hR_20 := hR_20.ext K_196
        replace ho_42 := ho_42.ext K_196
        replace ho_53 := ho_53.ext K_196
        replace hD_147 := hD_147.ext K_196
        replace ho_155 := ho_155.ext K_196
        replace hR_156 := hR_156.ext K_196
        replace hb_164 := hb_164.ext K_196
        replace K0 := K0.ext K_196
        refine RL.val (x_andT rfl rfl rfl) ?_
        refine RL.val (x_assignB rfl) ?_
        refine RL.nil ?_
        refine Run.ret1 (v := .bool (decide ((rs_154).map RB.b = (ts).map RB.b))) Tryz.func3 rfl rfl ?_
        exact ⟨_, rfl, by rw [decide_eq_true (hms_157.trans (open_full _ _ (hTs2 hTm)).2)], K0⟩
      · exact absurd (open_full _ _ (hTs2 hTm)).1 hcs_150.1
  · exact absurd (by rw [open_nil]) hcs_14.1

end Go.Proofs.YtlhepanmdchjoaaGreatDoor
