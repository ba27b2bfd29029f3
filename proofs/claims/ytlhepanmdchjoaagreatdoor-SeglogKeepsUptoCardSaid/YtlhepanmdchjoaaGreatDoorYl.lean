/-
  Layer 7: SeglogKeeps.
-/
import Derived.Test.YtlhepanmdchjoaaGreatDoorRows
import Derived.Test.YtlhepanmdchjoaaGreatDoorYk
namespace Go.Proofs.YtlhepanmdchjoaaGreatDoor
attribute [local irreducible] St1 RL RA RT RT1 Run
attribute [local irreducible] crcN crcL crcS crcB numL leL unfR nameS segsL sortZ segI segO hasP restP
attribute [local irreducible] readAll mayP frameB
attribute [local irreducible] openP appendP replaceP syncP

theorem lents_get {rs : List LeftS} {j : Nat} {a : ByteArray} {v : Value} (h : (lents rs)[j]? = some (a, v)) : ∃ x, rs[j]? = some x ∧ a = x.name ∧ v = .slice x.a x.bytes.length x.cap := by
  rw [lents, List.getElem?_map, Option.map_eq_some_iff] at h
  obtain ⟨x, hx, e⟩ := h
  simp only [lent, Prod.mk.injEq] at e
  exact ⟨x, hx, e.1.symm, e.2.symm⟩
theorem lents_erase (rs : List LeftS) (j : Nat) : (lents rs).eraseIdx j = lents (rs.eraseIdx j) := (map_eraseI _ _ _).symm
theorem lerase_lt {rs : List LeftS} {j : Nat} {x : LeftS} (h : rs[j]? = some x) : (rs.eraseIdx j).length < rs.length := by
  have := (List.getElem?_eq_some_iff.1 h).1
  rw [List.length_eraseIdx, if_pos this]; omega
theorem look_names {room : Int} {pl : List PF} (h : PLOk room pl) {s : ByteArray} (hs : s ∈ namesS pl) : lookE pl s = 0 := by
  rw [namesS, sortN_mem.mem_iff] at hs
  obtain ⟨f, hf, rfl⟩ := List.mem_map.1 hs
  exact look_has (h.may f hf) (hasL_iff.2 ⟨f, hf, rfl⟩)
theorem names_nodup {room : Int} {pl : List PF} (h : PLOk room pl) : (namesS pl).Nodup := sortN_mem.nodup_iff.2 h.nodup
theorem take_no {l : List ByteArray} {i : Nat} {s : ByteArray} (hn : l.Nodup) (hs : l[i]? = some s) : ∀ x ∈ l.take i, x ≠ s := by
  intro x hx e
  subst e
  obtain ⟨hi, e⟩ := List.getElem?_eq_some_iff.1 hs
  obtain ⟨j, hj, e2⟩ := List.getElem_of_mem hx
  rw [List.getElem_take] at e2
  rw [List.length_take] at hj
  have := (List.getElem_inj (h₀ := by omega) (h₁ := hi) hn).1 (e2.trans e.symm)
  omega
theorem equalR_yes (a : Option Addr) (rs : List RB) (c : Nat) (a2 : Option Addr) (ts : List RB) (c2 : Nat) (w : World) (hs : SlOf w a (rs.map RB.h)) (hs2 : SlOf w a2 (ts.map RB.h)) (hq : RecsQ w rs) (hq2 : RecsQ w ts) (hl : rs.length ≤ 4294967295) (hl2 : ts.length ≤ 4294967295) (he : rs.map RB.b = ts.map RB.b) :
    Calls Tryz.prog 14 #[.slice a (rs.map RB.h).length c, .slice a2 (ts.map RB.h).length c2] w (Ret fun v w' => v = .bool true ∧ Ext w w') :=
  ret_mono (equalR_ a rs c a2 ts c2 w hs hs2 hq hq2 hl hl2) fun v w' h => ⟨by rw [h.1, decide_eq_true he], h.2⟩

theorem en16 : Enters Tryz.prog 16 := enters_of Tryz.func16 rfl (by kernel_rfl)
theorem en23 : Enters Tryz.prog 23 := enters_of Tryz.func23 rfl (by kernel_rfl)

set_option maxRecDepth 100000 in
set_option maxHeartbeats 4000000 in
theorem law_keeps (a : Option Addr) (rs : List RB) (c : Nat) (a2 : Option Addr) (ts : List RB) (c2 : Nat) (keep : Int) (w : World) (hs : SlOf w a (rs.map RB.h)) (hs2 : SlOf w a2 (ts.map RB.h)) (hl : rs.length ≤ 4294967295) (hl2 : ts.length ≤ 4294967295) (hQ : RecsQ w rs) (hQ2 : RecsQ w ts) (hL : LaidOk w) :
    Calls Tryz.prog 5 #[.slice (a) ((rs.map RB.h).length) (c), .slice (a2) ((ts.map RB.h).length) (c2), .int .i64 (keep)] w (Ret (fun v w' => v = .bool true ∧ Ext w w')) := by
  have hLs := hL.size
  obtain ⟨husk, husl, husm⟩ := usual_ok rs
  obtain ⟨husk2, husl2, husm2⟩ := usual_ok ts
  have hrlu : ((usualR rs).map RB.h).length = (usualR rs).length := List.length_map ..
  have hrlu2 : ((usualR ts).map RB.h).length = (usualR ts).length := List.length_map ..
  refine calls_run (n := 167) Tryz.func5 rfl rfl rfl ?_
  refine Run.seq ?_
  refine Run.region ?_
  refine RL.val (x_assignB rfl) ?_
  refine RL.nil ?_
  refine Run.seq ?_
  refine Run.region ?_
  refine RL.st rfl <| St1.call (vals := []) en20 rfl (begun7_ _ hL) ?_
  rintro _ w_4 ⟨d_1, b_2, F_3, rfl, hD_5, hb_6, hbd_7, hg_8, hl_9, K_10⟩
  have pG_11 : ∀ q_, F_3 q_ → 5 ≤ q_ := fun q_ h_ => Nat.le_trans hLs (Nat.le_trans (Nat.le_refl _) (hg_8 q_ h_))
  have pg_12 : ∀ q_, F_3 q_ → w.heap.size ≤ q_ := fun q_ h => Nat.le_trans (Nat.le_refl _) (hg_8 q_ h)
  have : w.heap.size ≤ b_2 := Nat.le_trans (Nat.le_refl _) hl_9
  replace hL := hL.ext K_10
  have K0 := (K_10 : Ext w _)
  refine RL.val (x_moveT rfl) ?_
  refine RL.val (x_extract rfl rfl) ?_
  refine RL.val (x_extract rfl rfl) ?_
  refine RL.val (x_extract rfl rfl) ?_
  refine RL.val (x_assignP rfl) ?_
  refine RL.val (x_assignP rfl) ?_
  refine RL.val (x_assignB rfl) ?_
  refine RL.nil ?_
  refine Run.seq ?_
  refine Run.seq ?_
  refine Run.region ?_
  refine RL.val (x_moveB rfl) ?_
  refine RL.val (x_not (b := true) rfl) ?_
  refine RL.nil ?_
  refine Run.condF rfl ?_
  refine Run.skip ?_
  refine Run.seq ?_
  refine Run.region ?_
  refine RL.val (x_moveSl rfl) ?_
  refine RL.st rfl <| St1.call (vals := [.slice (a) ((rs.map RB.h).length) (c)]) en10 rfl (usual_ _ _ _ _ (hs.ext K0) (by omega)) ?_
  rintro _ w_15 ⟨a_13, c_14, rfl, ho_16, hg_17, K_18⟩
  have pr_19 : ∀ q_, own a_13 q_ → ¬ F_3 q_ := apartNew hg_17 hD_5.own_lt
  have pr_20 : ¬ own a_13 b_2 := notNew hg_17 hb_6.lt
  have pg_21 : ∀ q_, own a_13 q_ → w.heap.size ≤ q_ := fun q_ h => Nat.le_trans K0.size (hg_17 q_ h)
  clear hg_17
  replace hL := hL.ext K_18
  replace hD_5 := hD_5.ext K_18
  replace hb_6 := hb_6.ext K_18
  replace K0 := K0.ext K_18
  refine RL.val (x_moveSl rfl) ?_
  refine RL.st rfl <| St1.call (vals := [.slice (a2) ((ts.map RB.h).length) (c2)]) en10 rfl (usual_ _ _ _ _ (hs2.ext K0) (by omega)) ?_
  rintro _ w_24 ⟨a_22, c_23, rfl, ho_25, hg_26, K_27⟩
  have pr_28 : ∀ q_, own a_22 q_ → ¬ F_3 q_ := apartNew hg_26 hD_5.own_lt
  have pr_29 : ¬ own a_22 b_2 := notNew hg_26 hb_6.lt
  have pr_30 : ∀ q_, own a_22 q_ → ¬ own a_13 q_ := apartNew hg_26 ho_16.own_lt
  have pg_31 : ∀ q_, own a_22 q_ → w.heap.size ≤ q_ := fun q_ h => Nat.le_trans K0.size (hg_26 q_ h)
  clear hg_26
  replace hL := hL.ext K_27
  replace hD_5 := hD_5.ext K_27
  replace hb_6 := hb_6.ext K_27
  replace ho_16 := ho_16.ext K_27
  replace K0 := K0.ext K_27
  refine RL.val (x_assignSl rfl) ?_
  refine RL.val (x_assignSl rfl) ?_
  refine RL.nil ?_
  refine Run.seq ?_
  refine Run.seq ?_
  refine Run.region ?_
  refine RL.val (x_moveSl rfl) ?_
  refine RL.val (x_lenSl Tryz.underlying22 rfl) ?_
  refine RL.val (x_moveI rfl) ?_
  refine RL.nil ?_
  refine Run.block ?_
  refine Run.loop (ι := Nat) (fun i ρ' w' => ∃ plk : List PF, ∃ Fk : Nat → Prop, Holds ρ' [(0, .slice (a_13) (((usualR rs).map RB.h).length) (c_14)), (1, .slice (a_22) (((usualR ts).map RB.h).length) (c_23)), (2, .int .i64 (keep)), (7, .pointer (some ⟨d_1, 0, none⟩)), (8, .pointer (some ⟨b_2, 0, none⟩)), (37, .slice (a_13) (((usualR rs).map RB.h).length) (c_14)), (38, .int .i64 (((((usualR rs).map RB.h).length : Nat) : Int))), (39, .int .i64 (((i : Nat) : Int)))] ∧ Ext w w' ∧ (LaidOk w') ∧ (Blk w' b_2 [.pointer (some ⟨d_1, 0, none⟩)] 42) ∧ (OwnSl w' 32 (a_13) (c_14) ((usualR rs).map RB.h)) ∧ (OwnSl w' 32 (a_22) (c_23) ((usualR ts).map RB.h)) ∧ (DiskAt w' d_1 Fk 4194304 plk) ∧ (¬ Fk b_2) ∧ (∀ q_, Fk q_ → ¬ own a_13 q_) ∧ (∀ q_, Fk q_ → ¬ own a_22 q_) ∧ (∀ q_, Fk q_ → w.heap.size ≤ q_) ∧ (∀ q_, Fk q_ → 5 ≤ q_) ∧ (i ≤ (usualR rs).length) ∧ (LogAt 0 (((usualR rs).map RB.b).take i) plk)) (fun i => (usualR rs).length - i) 0 ?_ ?_
  · refine ⟨([] : List PF), _, ⟨rfl, rfl, rfl, rfl, rfl, rfl, rfl, rfl, trivial⟩, K0, hL, hb_6, ho_16, ho_25, hD_5, hbd_7, (fun q_ h1 h2 => pr_19 q_ h2 h1), (fun q_ h1 h2 => pr_28 q_ h2 h1), pg_12, pG_11, ?_, ?_⟩
    · omega
    · exact logAt_nil
  clear hD_5 hb_6 ho_16 ho_25
  clear K0
  rintro i ρ_40 w_32 ⟨plk, Fk, hH_33, K0, hL, hb_6, ho_16, ho_25, hO_34, pr_35, pr_36, pr_37, pr_38, pr_39, hi, hLg⟩ ih1
  obtain ⟨ρ₀, rfl⟩ := hH_33.ex
  clear hH_33
  refine Run.seq ?_
  refine Run.region ?_
  refine RL.val (x_ltI rfl rfl) ?_
  refine RL.nil ?_
  refine Run.seq ?_
  refine Run.cond rfl (fun hc40 => ?_) (fun hc40 => ?_)
  · try simp only [br] at hc40
    refine Run.skip ?_
    refine Run.seq ?_
    refine Run.block ?_
    refine Run.seq ?_
    refine Run.region ?_
    obtain ⟨b_41, o_42, hh_, hh, ha_43, hc_44⟩ := ho_16.sl.el (i := i) (by first | omega | (simp only [List.length_set]; omega))
    refine RL.val (x_idxN Tryz.underlying22 ty32 rfl rfl ha_43 (by first | omega | (simp only [List.length_set]; omega))) ?_
    refine RL.val (x_ldV (v := .slice (hh_.a) (hh_.len) (hh_.cap)) (y := hh_) ty32 rfl hc_44 rfl) ?_
    refine RL.val (x_assignSl rfl) ?_
    refine RL.nil ?_
    obtain ⟨r, hr, hre, hrm⟩ := recsQ_at hh
    subst hre
    have hrl_ : r.h.len = r.b.length := rfl
    have hrk := husk r hrm
    have hrs := hQ r (husm r hrm)
    have hAp := hLg.append (b := r.b) hrk.1 hrk.2 (by rw [List.length_take, List.length_map]; omega) (take_bs (P := fun p => p.length ≤ 5000) (fun q hq => (husk q hq).2) i)
    refine Run.seq ?_
    refine Run.region ?_
    refine RL.val (x_moveP rfl) ?_
    refine RL.val (x_moveSl rfl) ?_
    refine RL.st rfl <| St1.call (vals := [.pointer (some ⟨b_2, 0, none⟩), .slice (r.a) (r.b.length) (r.c)]) en13 rfl (dcast (lappend_ _ _ _ _ _ _ r.b _ _ hb_6 hO_34 pr_35 hL pr_39 (hrs.ext K0) (fun x_ hx_ h_ => absurd (pr_38 _ h_) (by have := slOf_lt hrs (ne_of_len hrk.1) x_ hx_; omega))) hAp.1 rfl) ?_
    rintro _ w_48 ⟨F_47, rfl, hD_49, hm_50, K_51⟩
    have pr_52 : ¬ F_47 b_2 := hm_50.not pr_35 hb_6.lt
    have pr_53 : ∀ q_, F_47 q_ → ¬ own a_13 q_ := hm_50.apart pr_36 ho_16.own_lt
    have pr_54 : ∀ q_, F_47 q_ → ¬ own a_22 q_ := hm_50.apart pr_37 ho_25.own_lt
    have pg_55 : ∀ q_, F_47 q_ → w.heap.size ≤ q_ := hm_50.ge pr_38 K0.size
    have pG_56 : ∀ q_, F_47 q_ → 5 ≤ q_ := fun q_ h_ => (hm_50 q_ h_).elim (pr_39 q_) (fun h2_ => Nat.le_trans hLs (Nat.le_trans K0.size h2_))
    replace hL := hL.keep K_51 pr_39
    replace hb_6 := hb_6.keep K_51 pr_35
    replace ho_16 := ho_16.keepO K_51 (fun q_ h1 h2 => pr_36 q_ h2 h1)
    replace ho_25 := ho_25.keepO K_51 (fun q_ h1 h2 => pr_37 q_ h2 h1)
    replace K0 := K0.new K_51 pr_38
    clear hm_50
    refine RL.val (litF (x_neI rfl rfl) (by decide)) ?_
    refine RL.nil ?_
    refine Run.condF rfl ?_
    refine Run.skip ?_
    refine Run.inBlock ?_
    refine Run.region ?_
    refine RL.val (litI (c := ((i + 1 : Nat) : Int)) (x_add rfl rfl (by omega) (by omega)) rfl) ?_
    refine RL.val (x_moveI rfl) ?_
    refine RL.nil ?_
    refine ih1 (i + 1) _ _ ?_ (by omega)
    refine ⟨_, _, ⟨rfl, rfl, rfl, rfl, rfl, rfl, rfl, rfl, trivial⟩, K0, hL, hb_6, ho_16, ho_25, hD_49, pr_52, pr_53, pr_54, pg_55, pG_56, ?_, ?_⟩
    · omega
    · rw [map_take hr]; exact hAp.2
  · try simp only [br] at hc40
    refine Run.exit rfl ?_
    refine Run.seq ?_
    refine Run.seq ?_
    have hLgs : LogAt (usualR rs).length ((usualR rs).map RB.b) (syncP plk) := by
      have h9 := hLg.sync (by rw [List.length_take, List.length_map]; omega)
      have e9 : ((usualR rs).map RB.b).take i = (usualR rs).map RB.b := List.take_of_length_le (by rw [List.length_map]; omega)
      rw [e9, List.length_map] at h9
      exact h9
    refine Run.region ?_
    refine RL.val (x_moveP rfl) ?_
    refine RL.st rfl <| St1.call (vals := [.pointer (some ⟨b_2, 0, none⟩)]) en16 rfl (lsync_ _ _ _ _ _  _ hb_6 hO_34 pr_35 hL pr_39 ) ?_
    rintro _ w_58 ⟨F_57, rfl, hD_59, hm_60, K_61⟩
    have pr_62 : ¬ F_57 b_2 := hm_60.not pr_35 hb_6.lt
    have pr_63 : ∀ q_, F_57 q_ → ¬ own a_13 q_ := hm_60.apart pr_36 ho_16.own_lt
    have pr_64 : ∀ q_, F_57 q_ → ¬ own a_22 q_ := hm_60.apart pr_37 ho_25.own_lt
    have pg_65 : ∀ q_, F_57 q_ → w.heap.size ≤ q_ := hm_60.ge pr_38 K0.size
    have pG_66 : ∀ q_, F_57 q_ → 5 ≤ q_ := fun q_ h_ => (hm_60 q_ h_).elim (pr_39 q_) (fun h2_ => Nat.le_trans hLs (Nat.le_trans K0.size h2_))
    replace hL := hL.keep K_61 pr_39
    replace hb_6 := hb_6.keep K_61 pr_35
    replace ho_16 := ho_16.keepO K_61 (fun q_ h1 h2 => pr_36 q_ h2 h1)
    replace ho_25 := ho_25.keepO K_61 (fun q_ h1 h2 => pr_37 q_ h2 h1)
    replace K0 := K0.new K_61 pr_38
    clear hm_60
    refine RL.val (litF (x_neI rfl rfl) (by decide)) ?_
    refine RL.nil ?_
    refine Run.condF rfl ?_
    refine Run.skip ?_
    refine Run.seq ?_
    refine Run.seq ?_
    refine Run.region ?_
    refine RL.val (x_moveSl rfl) ?_
    refine RL.val (x_lenSl Tryz.underlying22 rfl) ?_
    refine RL.val (x_moveI rfl) ?_
    refine RL.nil ?_
    refine Run.block ?_
    refine Run.loop (ι := Nat) (fun i ρ' w' => ∃ plk : List PF, ∃ Fk : Nat → Prop, Holds ρ' [(0, .slice (a_13) (((usualR rs).map RB.h).length) (c_14)), (1, .slice (a_22) (((usualR ts).map RB.h).length) (c_23)), (2, .int .i64 (keep)), (7, .pointer (some ⟨d_1, 0, none⟩)), (8, .pointer (some ⟨b_2, 0, none⟩)), (51, .slice (a_22) (((usualR ts).map RB.h).length) (c_23)), (52, .int .i64 (((((usualR ts).map RB.h).length : Nat) : Int))), (53, .int .i64 (((i : Nat) : Int)))] ∧ Ext w w' ∧ (LaidOk w') ∧ (Blk w' b_2 [.pointer (some ⟨d_1, 0, none⟩)] 42) ∧ (OwnSl w' 32 (a_13) (c_14) ((usualR rs).map RB.h)) ∧ (OwnSl w' 32 (a_22) (c_23) ((usualR ts).map RB.h)) ∧ (DiskAt w' d_1 Fk 4194304 plk) ∧ (¬ Fk b_2) ∧ (∀ q_, Fk q_ → ¬ own a_13 q_) ∧ (∀ q_, Fk q_ → ¬ own a_22 q_) ∧ (∀ q_, Fk q_ → w.heap.size ≤ q_) ∧ (∀ q_, Fk q_ → 5 ≤ q_) ∧ (i ≤ (usualR ts).length) ∧ (LogAt (usualR rs).length ((usualR rs).map RB.b ++ ((usualR ts).map RB.b).take i) plk)) (fun i => (usualR ts).length - i) 0 ?_ ?_
    · refine ⟨syncP plk, _, ⟨rfl, rfl, rfl, rfl, rfl, rfl, rfl, rfl, trivial⟩, K0, hL, hb_6, ho_16, ho_25, hD_59, pr_62, pr_63, pr_64, pg_65, pG_66, ?_, ?_⟩
      · omega
      · rw [List.take_zero, List.append_nil]; exact hLgs
    clear hb_6 ho_16 ho_25 hD_59
    clear K0
    rintro i ρ_75 w_67 ⟨plk, Fk, hH_68, K0, hL, hb_6, ho_16, ho_25, hO_69, pr_70, pr_71, pr_72, pr_73, pr_74, hi, hLg⟩ ih2
    obtain ⟨ρ₀, rfl⟩ := hH_68.ex
    clear hH_68
    refine Run.seq ?_
    refine Run.region ?_
    refine RL.val (x_ltI rfl rfl) ?_
    refine RL.nil ?_
    refine Run.seq ?_
    refine Run.cond rfl (fun hc54 => ?_) (fun hc54 => ?_)
    · try simp only [br] at hc54
      refine Run.skip ?_
      refine Run.seq ?_
      refine Run.block ?_
      refine Run.seq ?_
      refine Run.region ?_
      obtain ⟨b_76, o_77, hh_, hh, ha_78, hc_79⟩ := ho_25.sl.el (i := i) (by first | omega | (simp only [List.length_set]; omega))
      refine RL.val (x_idxN Tryz.underlying22 ty32 rfl rfl ha_78 (by first | omega | (simp only [List.length_set]; omega))) ?_
      refine RL.val (x_ldV (v := .slice (hh_.a) (hh_.len) (hh_.cap)) (y := hh_) ty32 rfl hc_79 rfl) ?_
      refine RL.val (x_assignSl rfl) ?_
      refine RL.nil ?_
      obtain ⟨r, hr, hre, hrm⟩ := recsQ_at hh
      subst hre
      have hrl_ : r.h.len = r.b.length := rfl
      have hrk := husk2 r hrm
      have hrs := hQ2 r (husm2 r hrm)
      have hAp := hLg.append (b := r.b) hrk.1 hrk.2 (by rw [List.length_append, List.length_take, List.length_map, List.length_map]; omega) (fun p hp => (List.mem_append.1 hp).elim (fun h => map_bs (P := fun p => p.length ≤ 5000) (fun q hq => (husk q hq).2) p h) (fun h => take_bs (P := fun p => p.length ≤ 5000) (fun q hq => (husk2 q hq).2) i p h))
      refine Run.seq ?_
      refine Run.region ?_
      refine RL.val (x_moveP rfl) ?_
      refine RL.val (x_moveSl rfl) ?_
      refine RL.st rfl <| St1.call (vals := [.pointer (some ⟨b_2, 0, none⟩), .slice (r.a) (r.b.length) (r.c)]) en13 rfl (dcast (lappend_ _ _ _ _ _ _ r.b _ _ hb_6 hO_69 pr_70 hL pr_74 (hrs.ext K0) (fun x_ hx_ h_ => absurd (pr_73 _ h_) (by have := slOf_lt hrs (ne_of_len hrk.1) x_ hx_; omega))) hAp.1 rfl) ?_
      rintro _ w_83 ⟨F_82, rfl, hD_84, hm_85, K_86⟩
      have pr_87 : ¬ F_82 b_2 := hm_85.not pr_70 hb_6.lt
      have pr_88 : ∀ q_, F_82 q_ → ¬ own a_13 q_ := hm_85.apart pr_71 ho_16.own_lt
      have pr_89 : ∀ q_, F_82 q_ → ¬ own a_22 q_ := hm_85.apart pr_72 ho_25.own_lt
      have pg_90 : ∀ q_, F_82 q_ → w.heap.size ≤ q_ := hm_85.ge pr_73 K0.size
      have pG_91 : ∀ q_, F_82 q_ → 5 ≤ q_ := fun q_ h_ => (hm_85 q_ h_).elim (pr_74 q_) (fun h2_ => Nat.le_trans hLs (Nat.le_trans K0.size h2_))
      replace hL := hL.keep K_86 pr_74
      replace hb_6 := hb_6.keep K_86 pr_70
      replace ho_16 := ho_16.keepO K_86 (fun q_ h1 h2 => pr_71 q_ h2 h1)
      replace ho_25 := ho_25.keepO K_86 (fun q_ h1 h2 => pr_72 q_ h2 h1)
      replace K0 := K0.new K_86 pr_73
      clear hm_85
      refine RL.val (litF (x_neI rfl rfl) (by decide)) ?_
      refine RL.nil ?_
      refine Run.condF rfl ?_
      refine Run.skip ?_
      refine Run.inBlock ?_
      refine Run.region ?_
      refine RL.val (litI (c := ((i + 1 : Nat) : Int)) (x_add rfl rfl (by omega) (by omega)) rfl) ?_
      refine RL.val (x_moveI rfl) ?_
      refine RL.nil ?_
      refine ih2 (i + 1) _ _ ?_ (by omega)
      refine ⟨_, _, ⟨rfl, rfl, rfl, rfl, rfl, rfl, rfl, rfl, trivial⟩, K0, hL, hb_6, ho_16, ho_25, hD_84, pr_87, pr_88, pr_89, pg_90, pG_91, ?_, ?_⟩
      · omega
      · rw [map_take hr, ← List.append_assoc]; exact hAp.2
    · try simp only [br] at hc54
      refine Run.exit rfl ?_
      refine Run.seq ?_
      refine Run.seq ?_
      have hLgA : LogAt (usualR rs).length ((usualR rs ++ usualR ts).map RB.b) plk := by
        have e9 : ((usualR ts).map RB.b).take i = (usualR ts).map RB.b := List.take_of_length_le (by rw [List.length_map]; omega)
        rw [e9] at hLg
        rw [List.map_append]; exact hLg
      have hALk : ∀ r ∈ (usualR rs ++ usualR ts), 0 < r.b.length ∧ r.b.length ≤ 5000 := fun r hr => (List.mem_append.1 hr).elim (husk r) (husk2 r)
      have hALl : (usualR rs ++ usualR ts).length = (usualR rs).length + (usualR ts).length := List.length_append
      obtain ⟨j, hj1, hj2, ho0, ho1, hoS⟩ := hLgA.crashed (by rw [List.length_map]; omega) (fun p hp => by have := map_bs (P := fun p => 0 < p.length ∧ p.length ≤ 5000) hALk p hp; exact ⟨ne_of_len this.1, this.2⟩) keep
      rw [List.length_map] at hj2
      have hne : ∀ p ∈ ((usualR rs ++ usualR ts).map RB.b).take j, p ≠ [] := fun p hp => ne_of_len (map_bs (P := fun p => 0 < p.length ∧ p.length ≤ 5000) hALk p (List.mem_of_mem_take hp)).1
      obtain ⟨hS1, hS2, hS3, hS4⟩ := hoS.open hne (room := 4194304)
      have hQA : RecsQ w (usualR rs ++ usualR ts) := fun r hr => (List.mem_append.1 hr).elim (fun h => hQ r (husm r h)) (fun h => hQ2 r (husm2 r h))
      refine Run.region ?_
      refine RL.val (x_moveP rfl) ?_
      refine RL.val (x_moveP rfl) ?_
      refine RL.val (x_moveI rfl) ?_
      refine RL.st rfl <| St1.call (vals := [.pointer (some ⟨d_1, 0, none⟩), .int .i64 (keep)]) en22 rfl (tears7_ _ _ _ _ keep _ hO_69) ?_
      rintro _ w_94 ⟨a_92, c_93, rfl, ho_95, hg_96, K_97⟩
      have pr_98 : ¬ own a_92 b_2 := notNew hg_96 hb_6.lt
      have pr_99 : ∀ q_, own a_92 q_ → ¬ own a_13 q_ := apartNew hg_96 ho_16.own_lt
      have pr_100 : ∀ q_, own a_92 q_ → ¬ own a_22 q_ := apartNew hg_96 ho_25.own_lt
      have pr_101 : ∀ q_, own a_92 q_ → ¬ Fk q_ := apartNew hg_96 hO_69.own_lt
      have pg_102 : ∀ q_, own a_92 q_ → w.heap.size ≤ q_ := fun q_ h => Nat.le_trans K0.size (hg_96 q_ h)
      clear hg_96
      replace hL := hL.ext K_97
      replace hb_6 := hb_6.ext K_97
      replace ho_16 := ho_16.ext K_97
      replace ho_25 := ho_25.ext K_97
      replace hO_69 := hO_69.ext K_97
      replace K0 := K0.ext K_97
      have htl_ : (tearsC plk keep).length ≤ 64 := by rw [tearsC_len, namesS, sortN_mem.length_eq, List.length_map]; exact hO_69.ok.len
      refine RL.st rfl <| St1.call (vals := [.pointer (some ⟨d_1, 0, none⟩), .slice (a_92) ((tearsC plk keep).length) (c_93)]) en21 rfl (dcast (crashD hO_69 _ _ _ (tearsP plk keep) ho_95.sl (tears_at hO_69.ok _ _) (by omega)) (crash_tears keep hO_69.ok).1 (crash_tears keep hO_69.ok).2) ?_
      rintro _ w_104 ⟨F_103, rfl, hD_105, hm_106, K_107⟩
      have pr_108 : ¬ F_103 b_2 := hm_106.not pr_70 hb_6.lt
      have pr_109 : ∀ q_, F_103 q_ → ¬ own a_13 q_ := hm_106.apart pr_71 ho_16.own_lt
      have pr_110 : ∀ q_, F_103 q_ → ¬ own a_22 q_ := hm_106.apart pr_72 ho_25.own_lt
      have pr_111 : ∀ q_, F_103 q_ → ¬ own a_92 q_ := hm_106.apart (fun q_ h1 h2 => pr_101 q_ h2 h1) ho_95.own_lt
      have pg_112 : ∀ q_, F_103 q_ → w.heap.size ≤ q_ := hm_106.ge pr_73 K0.size
      have pG_113 : ∀ q_, F_103 q_ → 5 ≤ q_ := fun q_ h_ => (hm_106 q_ h_).elim (pr_74 q_) (fun h2_ => Nat.le_trans hLs (Nat.le_trans K0.size h2_))
      replace hL := hL.keep K_107 pr_74
      replace hb_6 := hb_6.keep K_107 pr_70
      replace ho_16 := ho_16.keepO K_107 (fun q_ h1 h2 => pr_71 q_ h2 h1)
      replace ho_25 := ho_25.keepO K_107 (fun q_ h1 h2 => pr_72 q_ h2 h1)
      replace ho_95 := ho_95.keepO K_107 pr_101
      replace K0 := K0.new K_107 pr_73
      clear hm_106
      refine RL.val (litF (x_neI rfl rfl) (by decide)) ?_
      refine RL.nil ?_
      refine Run.condF rfl ?_
      refine Run.skip ?_
      refine Run.seq ?_
      refine Run.region ?_
      refine RL.val (x_moveP rfl) ?_
      refine RL.st rfl <| St1.call (vals := [.pointer (some ⟨d_1, 0, none⟩)]) en9 rfl (open7_ _ _ _ _ _ hD_105 hL pG_113) ?_
      rintro vv w_115 ⟨F_114, hD_116, hm_117, K_118, hcs_119⟩
      rcases hcs_119 with hcs_119 | hcs_119
      · obtain ⟨he_120, a_121, c_122, rs_123, b_132, rfl, hb_133, hbF_134, hbl_135, ho_124, hR_125, hms_126, hg_127, hg_128, hap_129, hf_130, hf_131⟩ := hcs_119
        have pr_136 : ¬ own a_121 b_2 := notNew hg_127 hb_6.lt
        have pr_137 : ∀ q_, own a_121 q_ → ¬ own a_13 q_ := apartNew hg_127 ho_16.own_lt
        have pr_138 : ∀ q_, own a_121 q_ → ¬ own a_22 q_ := apartNew hg_127 ho_25.own_lt
        have pr_139 : ∀ q_, own a_121 q_ → ¬ own a_92 q_ := apartNew hg_127 ho_95.own_lt
        have pr_140 : ∀ q_, own a_121 q_ → ¬ F_103 q_ := apartNew hg_127 hD_105.own_lt
        have pg_141 : ∀ q_, own a_121 q_ → w.heap.size ≤ q_ := fun q_ h => Nat.le_trans K0.size (hg_127 q_ h)
        have pr_142 : ¬ recsS (rs_123) b_2 := notNew hg_128 hb_6.lt
        have pr_143 : ∀ q_, recsS (rs_123) q_ → ¬ own a_13 q_ := apartNew hg_128 ho_16.own_lt
        have pr_144 : ∀ q_, recsS (rs_123) q_ → ¬ own a_22 q_ := apartNew hg_128 ho_25.own_lt
        have pr_145 : ∀ q_, recsS (rs_123) q_ → ¬ own a_92 q_ := apartNew hg_128 ho_95.own_lt
        have pr_146 : ∀ q_, recsS (rs_123) q_ → ¬ F_103 q_ := apartNew hg_128 hD_105.own_lt
        have pg_147 : ∀ q_, recsS (rs_123) q_ → w.heap.size ≤ q_ := fun q_ h => Nat.le_trans K0.size (hg_128 q_ h)
        have ne_148 : b_2 < b_132 := Nat.lt_of_lt_of_le hb_6.lt hbl_135
        have pr_149 : ¬ own a_13 b_132 := fun h_ => absurd (ho_16.own_lt _ h_) (by omega)
        have pr_150 : ¬ own a_22 b_132 := fun h_ => absurd (ho_25.own_lt _ h_) (by omega)
        have pr_151 : ¬ own a_92 b_132 := fun h_ => absurd (ho_95.own_lt _ h_) (by omega)
        have : w.heap.size ≤ b_132 := Nat.le_trans K0.size hbl_135
        have pr_152 : ¬ F_114 b_2 := hm_117.not pr_108 hb_6.lt
        have pr_153 : ∀ q_, F_114 q_ → ¬ own a_13 q_ := hm_117.apart pr_109 ho_16.own_lt
        have pr_154 : ∀ q_, F_114 q_ → ¬ own a_22 q_ := hm_117.apart pr_110 ho_25.own_lt
        have pr_155 : ∀ q_, F_114 q_ → ¬ own a_92 q_ := hm_117.apart pr_111 ho_95.own_lt
        have pg_156 : ∀ q_, F_114 q_ → w.heap.size ≤ q_ := hm_117.ge pg_112 K0.size
        have pG_157 : ∀ q_, F_114 q_ → 5 ≤ q_ := fun q_ h_ => (hm_117 q_ h_).elim (pG_113 q_) (fun h2_ => Nat.le_trans hLs (Nat.le_trans K0.size h2_))
        replace hL := hL.keep K_118 pG_113
        replace hb_6 := hb_6.keep K_118 pr_108
        replace ho_16 := ho_16.keepO K_118 (fun q_ h1 h2 => pr_109 q_ h2 h1)
        replace ho_25 := ho_25.keepO K_118 (fun q_ h1 h2 => pr_110 q_ h2 h1)
        replace ho_95 := ho_95.keepO K_118 (fun q_ h1 h2 => pr_111 q_ h2 h1)
        replace K0 := K0.new K_118 pg_112
        clear hm_117
        refine RL.val (x_moveT rfl) ?_
        refine RL.val (x_extract rfl rfl) ?_
        refine RL.val (x_extract rfl rfl) ?_
        refine RL.val (x_extract rfl rfl) ?_
        refine RL.val (x_assignP rfl) ?_
        refine RL.val (x_assignSl rfl) ?_
        refine RL.val (x_assignI rfl) ?_
        refine RL.nil ?_
        have hEq : rs_123.map RB.b = ((usualR rs ++ usualR ts).map RB.b).take j := hms_126.trans ho1
        have hrl9 : rs_123.length = j := by have h9 := congrArg List.length hEq; rw [List.length_map, List.length_take, List.length_map] at h9; omega
        have hrl8 : (rs_123.map RB.h).length = rs_123.length := List.length_map ..
        have hAh : ((usualR rs ++ usualR ts).map RB.h).length = (usualR rs ++ usualR ts).length := List.length_map ..
        have hATl : (((usualR rs ++ usualR ts).take rs_123.length).map RB.h).length = rs_123.length := by rw [List.length_map, List.length_take]; omega
        have hATl2 : ((usualR rs ++ usualR ts).take rs_123.length).length = rs_123.length := by rw [List.length_take]; omega
        have hEq2 : rs_123.map RB.b = ((usualR rs ++ usualR ts).take rs_123.length).map RB.b := by rw [hEq, List.map_take, hrl9]
        have hnl2 : (namesS (openP 4194304 (plk.map (tornF keep))).2.2).length ≤ 64 := by rw [namesS, sortN_mem.length_eq, List.length_map]; exact hD_116.ok.len
        refine Run.seq ?_
        refine Run.region ?_
        refine RL.val (x_moveSl rfl) ?_
        refine RL.val (x_moveSl rfl) ?_
        refine RL.st rfl <| St1.buildSlice ([⟨a_13, ((usualR rs).map RB.h).length, c_14⟩, ⟨a_22, ((usualR ts).map RB.h).length, c_23⟩] : List SH) Tryz.underlying99 ty22 rfl rfl (by first | decide | (simp [Enc.size])) ?_
        intro b_160 w_161 hl_164 ho_163 K_162
        have pr_165 : ¬ own (some ⟨b_160, 0, none⟩) b_2 := notNew (ge_new hl_164) hb_6.lt
        have pr_166 : ∀ q_, own (some ⟨b_160, 0, none⟩) q_ → ¬ own a_13 q_ := apartNew (ge_new hl_164) ho_16.own_lt
        have pr_167 : ∀ q_, own (some ⟨b_160, 0, none⟩) q_ → ¬ own a_22 q_ := apartNew (ge_new hl_164) ho_25.own_lt
        have pr_168 : ∀ q_, own (some ⟨b_160, 0, none⟩) q_ → ¬ own a_92 q_ := apartNew (ge_new hl_164) ho_95.own_lt
        have pr_169 : ∀ q_, own (some ⟨b_160, 0, none⟩) q_ → ¬ F_114 q_ := apartNew (ge_new hl_164) hD_116.own_lt
        have pr_170 : ∀ q_, own (some ⟨b_160, 0, none⟩) q_ → ¬ own a_121 q_ := apartNew (ge_new hl_164) ho_124.own_lt
        have pr_171 : ∀ q_, own (some ⟨b_160, 0, none⟩) q_ → ¬ recsS (rs_123) q_ := apartNew (ge_new hl_164) hR_125.own_lt
        have pr_172 : ¬ own (some ⟨b_160, 0, none⟩) b_132 := notNew (ge_new hl_164) hb_133.lt
        have pg_173 : ∀ q_, own (some ⟨b_160, 0, none⟩) q_ → w.heap.size ≤ q_ := fun q_ h => Nat.le_trans K0.size ((ge_new hl_164) q_ h)
        clear hl_164
        replace hL := hL.ext K_162
        replace hb_6 := hb_6.ext K_162
        replace ho_16 := ho_16.ext K_162
        replace ho_25 := ho_25.ext K_162
        replace ho_95 := ho_95.ext K_162
        replace hD_116 := hD_116.ext K_162
        replace ho_124 := ho_124.ext K_162
        replace hR_125 := hR_125.ext K_162
        replace hb_133 := hb_133.ext K_162
        replace K0 := K0.ext K_162
        refine RL.st rfl <| St1.call (vals := [.slice (some ⟨b_160, 0, none⟩) (([⟨a_13, ((usualR rs).map RB.h).length, c_14⟩, ⟨a_22, ((usualR ts).map RB.h).length, c_23⟩] : List SH).length) (([⟨a_13, ((usualR rs).map RB.h).length, c_14⟩, ⟨a_22, ((usualR ts).map RB.h).length, c_23⟩] : List SH).length)]) en23 rfl (concat2R _ _ _ (usualR rs) (usualR ts) _ ho_163.sl (PartsH.two rfl ho_16.sl rfl ho_25.sl) (by omega)) ?_
        rintro _ w_176 ⟨a_174, c_175, rfl, ho_177, hg_178, K_179⟩
        have pr_180 : ¬ own a_174 b_2 := notNew hg_178 hb_6.lt
        have pr_181 : ∀ q_, own a_174 q_ → ¬ own a_13 q_ := apartNew hg_178 ho_16.own_lt
        have pr_182 : ∀ q_, own a_174 q_ → ¬ own a_22 q_ := apartNew hg_178 ho_25.own_lt
        have pr_183 : ∀ q_, own a_174 q_ → ¬ own a_92 q_ := apartNew hg_178 ho_95.own_lt
        have pr_184 : ∀ q_, own a_174 q_ → ¬ F_114 q_ := apartNew hg_178 hD_116.own_lt
        have pr_185 : ∀ q_, own a_174 q_ → ¬ own a_121 q_ := apartNew hg_178 ho_124.own_lt
        have pr_186 : ∀ q_, own a_174 q_ → ¬ recsS (rs_123) q_ := apartNew hg_178 hR_125.own_lt
        have pr_187 : ¬ own a_174 b_132 := notNew hg_178 hb_133.lt
        have pr_188 : ∀ q_, own a_174 q_ → ¬ own (some ⟨b_160, 0, none⟩) q_ := apartNew hg_178 ho_163.own_lt
        have pg_189 : ∀ q_, own a_174 q_ → w.heap.size ≤ q_ := fun q_ h => Nat.le_trans K0.size (hg_178 q_ h)
        clear hg_178
        replace hL := hL.ext K_179
        replace hb_6 := hb_6.ext K_179
        replace ho_16 := ho_16.ext K_179
        replace ho_25 := ho_25.ext K_179
        replace ho_95 := ho_95.ext K_179
        replace hD_116 := hD_116.ext K_179
        replace ho_124 := ho_124.ext K_179
        replace hR_125 := hR_125.ext K_179
        replace hb_133 := hb_133.ext K_179
        replace ho_163 := ho_163.ext K_179
        replace K0 := K0.ext K_179
        refine RL.val (x_assignSl rfl) ?_
        refine RL.nil ?_
        refine Run.seq ?_
        refine Run.seq ?_
        have hcp := ho_177.le_cap
        refine Run.region ?_
        refine RL.val (x_moveI rfl) ?_
        refine RL.val (litF (x_neI rfl rfl) (by decide)) ?_
        refine RL.val (x_moveB rfl) ?_
        refine RL.gst (wantedF1 rfl rfl rfl rfl) <| St1.val (x_moveP rfl) ?_
        refine RL.gst (wantedF1 rfl rfl rfl rfl) <| St1.val (litF (x_ptrNil Tryz.underlying28 rfl rfl) rfl) ?_
        refine RL.val (x_orF rfl rfl rfl) ?_
        refine RL.val (x_moveB rfl) ?_
        refine RL.gst (wantedF1 rfl rfl rfl rfl) <| St1.val (x_moveSl rfl) ?_
        refine RL.gst (wantedF1 rfl rfl rfl rfl) <| St1.val (x_lenSl Tryz.underlying22 rfl) ?_
        refine RL.gst (wantedF1 rfl rfl rfl rfl) <| St1.val (x_moveSl rfl) ?_
        refine RL.gst (wantedF1 rfl rfl rfl rfl) <| St1.val (x_lenSl Tryz.underlying22 rfl) ?_
        refine RL.gst (wantedF1 rfl rfl rfl rfl) <| St1.val (litF (x_ltI rfl rfl) (decide_eq_false (by omega))) ?_
        refine RL.val (x_orF rfl rfl rfl) ?_
        refine RL.val (x_moveB rfl) ?_
        refine RL.gst (wantedF1 rfl rfl rfl rfl) <| St1.val (x_moveSl rfl) ?_
        refine RL.gst (wantedF1 rfl rfl rfl rfl) <| St1.val (x_lenSl Tryz.underlying22 rfl) ?_
        refine RL.gst (wantedF1 rfl rfl rfl rfl) <| St1.val (x_moveSl rfl) ?_
        refine RL.gst (wantedF1 rfl rfl rfl rfl) <| St1.val (x_lenSl Tryz.underlying22 rfl) ?_
        refine RL.gst (wantedF1 rfl rfl rfl rfl) <| St1.val (litF (x_gtI rfl rfl) (decide_eq_false (by omega))) ?_
        refine RL.val (x_orF rfl rfl rfl) ?_
        refine RL.val (x_moveB rfl) ?_
        refine RL.gst (wantedF1 rfl rfl rfl rfl) <| St1.val (x_moveSl rfl) ?_
        refine RL.gst (wantedF1 rfl rfl rfl rfl) <| St1.val (x_moveSl rfl) ?_
        refine RL.gst (wantedF1 rfl rfl rfl rfl) <| St1.val (x_moveSl rfl) ?_
        refine RL.gst (wantedF1 rfl rfl rfl rfl) <| St1.val (x_lenSl Tryz.underlying22 rfl) ?_
        refine RL.gst (wantedF1 rfl rfl rfl rfl) <| St1.val (litSl (m' := (((usualR rs ++ usualR ts).take rs_123.length).map RB.h).length) (litSl (m' := (((usualR rs ++ usualR ts).map RB.h).take ((rs_123.map RB.h).length)).length) (x_sliceTo Tryz.underlying22 ty32 rfl rfl (by omega)) (by rw [List.length_take]; omega)) (by simp only [List.length_take, List.length_map])) ?_
        refine RL.gst (wantedF1 rfl rfl rfl rfl) <| St1.call (vals := [.slice (a_121) ((rs_123.map RB.h).length) (c_122), .slice (a_174) ((((usualR rs ++ usualR ts).take rs_123.length).map RB.h).length) (c_175)]) en14 rfl (equalR_yes _ rs_123 _ _ ((usualR rs ++ usualR ts).take rs_123.length) _ _ ho_124.sl (show SlOf _ _ (((usualR rs ++ usualR ts).take rs_123.length).map RB.h) by rw [List.map_take]; exact ho_177.sl.take _) (RecsO.q hR_125) (fun r hr => (hQA r (List.mem_of_mem_take hr)).ext K0) (by omega) (by omega) hEq2) ?_
        rintro _ w_190 ⟨rfl, K_191⟩
        replace hL := hL.ext K_191
        replace hb_6 := hb_6.ext K_191
        replace ho_16 := ho_16.ext K_191
        replace ho_25 := ho_25.ext K_191
        replace ho_95 := ho_95.ext K_191
        replace hD_116 := hD_116.ext K_191
        replace ho_124 := ho_124.ext K_191
        replace hR_125 := hR_125.ext K_191
        replace hb_133 := hb_133.ext K_191
        replace ho_163 := ho_163.ext K_191
        replace ho_177 := ho_177.ext K_191
        replace K0 := K0.ext K_191
        refine RL.gst (wantedF1 rfl rfl rfl rfl) <| St1.val (x_not (b := true) rfl) ?_
        refine RL.val (x_orF rfl rfl rfl) ?_
        refine RL.nil ?_
        refine Run.condF rfl ?_
        refine Run.skip ?_
        refine Run.seq ?_
        refine Run.region ?_
        refine RL.st rfl <| St1.makeMap (κ := ByteArray) ?_
        intro m_192 w_193 hl_194 hM_195 K_196
        have pr_197 : ¬ one m_192 b_2 := notNew (ge_one hl_194) hb_6.lt
        have pr_198 : ∀ q_, one m_192 q_ → ¬ own a_13 q_ := apartNew (ge_one hl_194) ho_16.own_lt
        have pr_199 : ∀ q_, one m_192 q_ → ¬ own a_22 q_ := apartNew (ge_one hl_194) ho_25.own_lt
        have pr_200 : ∀ q_, one m_192 q_ → ¬ own a_92 q_ := apartNew (ge_one hl_194) ho_95.own_lt
        have pr_201 : ∀ q_, one m_192 q_ → ¬ F_114 q_ := apartNew (ge_one hl_194) hD_116.own_lt
        have pr_202 : ∀ q_, one m_192 q_ → ¬ own a_121 q_ := apartNew (ge_one hl_194) ho_124.own_lt
        have pr_203 : ∀ q_, one m_192 q_ → ¬ recsS (rs_123) q_ := apartNew (ge_one hl_194) hR_125.own_lt
        have pr_204 : ¬ one m_192 b_132 := notNew (ge_one hl_194) hb_133.lt
        have pr_205 : ∀ q_, one m_192 q_ → ¬ own (some ⟨b_160, 0, none⟩) q_ := apartNew (ge_one hl_194) ho_163.own_lt
        have pr_206 : ∀ q_, one m_192 q_ → ¬ own a_174 q_ := apartNew (ge_one hl_194) ho_177.own_lt
        have pg_207 : ∀ q_, one m_192 q_ → w.heap.size ≤ q_ := fun q_ h => Nat.le_trans K0.size ((ge_one hl_194) q_ h)
        clear hl_194
        replace hL := hL.ext K_196
        replace hb_6 := hb_6.ext K_196
        replace ho_16 := ho_16.ext K_196
        replace ho_25 := ho_25.ext K_196
        replace ho_95 := ho_95.ext K_196
        replace hD_116 := hD_116.ext K_196
        replace ho_124 := ho_124.ext K_196
        replace hR_125 := hR_125.ext K_196
        replace hb_133 := hb_133.ext K_196
        replace ho_163 := ho_163.ext K_196
        replace ho_177 := ho_177.ext K_196
        replace K0 := K0.ext K_196
        refine RL.val (x_assignM rfl) ?_
        refine RL.nil ?_
        have hL0 := LeftAt.nil w_193
        refine Run.seq ?_
        refine Run.seq ?_
        refine Run.region ?_
        refine RL.val (x_moveP rfl) ?_
        refine RL.st rfl <| St1.call (vals := [.pointer (some ⟨d_1, 0, none⟩)]) en24 rfl (filesD hD_116) ?_
        rintro _ w_210 ⟨a_208, c_209, rfl, ho_211, hg_212, K_213⟩
        have pr_214 : ¬ own a_208 b_2 := notNew hg_212 hb_6.lt
        have pr_215 : ∀ q_, own a_208 q_ → ¬ own a_13 q_ := apartNew hg_212 ho_16.own_lt
        have pr_216 : ∀ q_, own a_208 q_ → ¬ own a_22 q_ := apartNew hg_212 ho_25.own_lt
        have pr_217 : ∀ q_, own a_208 q_ → ¬ own a_92 q_ := apartNew hg_212 ho_95.own_lt
        have pr_218 : ∀ q_, own a_208 q_ → ¬ F_114 q_ := apartNew hg_212 hD_116.own_lt
        have pr_219 : ∀ q_, own a_208 q_ → ¬ own a_121 q_ := apartNew hg_212 ho_124.own_lt
        have pr_220 : ∀ q_, own a_208 q_ → ¬ recsS (rs_123) q_ := apartNew hg_212 hR_125.own_lt
        have pr_221 : ¬ own a_208 b_132 := notNew hg_212 hb_133.lt
        have pr_222 : ∀ q_, own a_208 q_ → ¬ own (some ⟨b_160, 0, none⟩) q_ := apartNew hg_212 ho_163.own_lt
        have pr_223 : ∀ q_, own a_208 q_ → ¬ own a_174 q_ := apartNew hg_212 ho_177.own_lt
        have pr_224 : ∀ q_, own a_208 q_ → ¬ one m_192 q_ := apartNew hg_212 hM_195.own_lt
        have pr_225 : ∀ q_, own a_208 q_ → ¬ leftS ([] : List LeftS) q_ := apartNew hg_212 hL0.own_lt
        have pg_226 : ∀ q_, own a_208 q_ → w.heap.size ≤ q_ := fun q_ h => Nat.le_trans K0.size (hg_212 q_ h)
        clear hg_212
        replace hL := hL.ext K_213
        replace hb_6 := hb_6.ext K_213
        replace ho_16 := ho_16.ext K_213
        replace ho_25 := ho_25.ext K_213
        replace ho_95 := ho_95.ext K_213
        replace hD_116 := hD_116.ext K_213
        replace ho_124 := ho_124.ext K_213
        replace hR_125 := hR_125.ext K_213
        replace hb_133 := hb_133.ext K_213
        replace ho_163 := ho_163.ext K_213
        replace ho_177 := ho_177.ext K_213
        replace hM_195 := hM_195.ext K_213
        replace hL0 := hL0.ext K_213
        replace K0 := K0.ext K_213
        refine RL.val (x_lenSl Tryz.underlying61 rfl) ?_
        refine RL.val (x_moveI rfl) ?_
        refine RL.nil ?_
        refine Run.block ?_
        refine Run.loop (ι := Nat) (fun i ρ' w' => ∃ ls : List LeftS, Holds ρ' [(7, .pointer (some ⟨d_1, 0, none⟩)), (14, .slice (a_121) ((rs_123.map RB.h).length) (c_122)), (17, .map (some m_192)), (109, .slice (a_208) ((namesS ((openP 4194304 (plk.map (tornF keep))).2.2)).length) (c_209)), (110, .int .i64 ((((namesS ((openP 4194304 (plk.map (tornF keep))).2.2)).length : Nat) : Int))), (111, .int .i64 (((i : Nat) : Int)))] ∧ Ext w w' ∧ (LaidOk w') ∧ (Blk w' b_2 [.pointer (some ⟨d_1, 0, none⟩)] 42) ∧ (Blk w' b_132 [.pointer (some ⟨d_1, 0, none⟩)] 42) ∧ (OwnSl w' 32 (a_13) (c_14) ((usualR rs).map RB.h)) ∧ (OwnSl w' 32 (a_22) (c_23) ((usualR ts).map RB.h)) ∧ (OwnSl w' 98 (a_92) (c_93) (tearsC plk keep)) ∧ (DiskAt w' d_1 F_114 4194304 ((openP 4194304 (plk.map (tornF keep))).2.2)) ∧ (OwnSl w' 32 (a_121) (c_122) (rs_123.map RB.h)) ∧ (RecsO w' (rs_123)) ∧ (OwnSl w' 22 (some ⟨b_160, 0, none⟩) (([⟨a_13, ((usualR rs).map RB.h).length, c_14⟩, ⟨a_22, ((usualR ts).map RB.h).length, c_23⟩] : List SH).length) (([⟨a_13, ((usualR rs).map RB.h).length, c_14⟩, ⟨a_22, ((usualR ts).map RB.h).length, c_23⟩] : List SH))) ∧ (OwnSl w' 32 (a_174) (c_175) ((usualR rs ++ usualR ts).map RB.h)) ∧ (OwnSl w' 9 (a_208) (c_209) (namesS ((openP 4194304 (plk.map (tornF keep))).2.2))) ∧ (MapAt w' m_192 (lents ls)) ∧ (LeftAt w' ls) ∧ (¬ one m_192 b_2) ∧ (¬ one m_192 b_132) ∧ (∀ q_, one m_192 q_ → ¬ own a_13 q_) ∧ (∀ q_, one m_192 q_ → ¬ own a_22 q_) ∧ (∀ q_, one m_192 q_ → ¬ own a_92 q_) ∧ (∀ q_, one m_192 q_ → ¬ F_114 q_) ∧ (∀ q_, one m_192 q_ → ¬ own a_121 q_) ∧ (∀ q_, one m_192 q_ → ¬ recsS (rs_123) q_) ∧ (∀ q_, one m_192 q_ → ¬ own (some ⟨b_160, 0, none⟩) q_) ∧ (∀ q_, one m_192 q_ → ¬ own a_174 q_) ∧ (∀ q_, one m_192 q_ → ¬ own a_208 q_) ∧ (∀ q_, one m_192 q_ → ¬ leftS ls q_) ∧ (∀ q_, one m_192 q_ → w.heap.size ≤ q_) ∧ (¬ leftS ls b_2) ∧ (¬ leftS ls b_132) ∧ (∀ q_, leftS ls q_ → ¬ own a_13 q_) ∧ (∀ q_, leftS ls q_ → ¬ own a_22 q_) ∧ (∀ q_, leftS ls q_ → ¬ own a_92 q_) ∧ (∀ q_, leftS ls q_ → ¬ F_114 q_) ∧ (∀ q_, leftS ls q_ → ¬ own a_121 q_) ∧ (∀ q_, leftS ls q_ → ¬ recsS (rs_123) q_) ∧ (∀ q_, leftS ls q_ → ¬ own (some ⟨b_160, 0, none⟩) q_) ∧ (∀ q_, leftS ls q_ → ¬ own a_174 q_) ∧ (∀ q_, leftS ls q_ → ¬ own a_208 q_) ∧ (∀ q_, leftS ls q_ → w.heap.size ≤ q_) ∧ (i ≤ (namesS (openP 4194304 (plk.map (tornF keep))).2.2).length) ∧ (ls.map (·.name) = (namesS (openP 4194304 (plk.map (tornF keep))).2.2).take i) ∧ (∀ x ∈ ls, x.bytes = readB (openP 4194304 (plk.map (tornF keep))).2.2 x.name)) (fun i => (namesS (openP 4194304 (plk.map (tornF keep))).2.2).length - i) 0 ?_ ?_
        · refine ⟨[], ⟨rfl, rfl, rfl, rfl, rfl, rfl, trivial⟩, K0, hL, hb_6, hb_133, ho_16, ho_25, ho_95, hD_116, ho_124, hR_125, ho_163, ho_177, ho_211, hM_195, hL0, pr_197, pr_204, pr_198, pr_199, pr_200, pr_201, pr_202, pr_203, pr_205, pr_206, (fun q_ h1 h2 => pr_224 q_ h2 h1), (fun q_ h1 h2 => (fun q_ ⟨_, h_, _⟩ _ => absurd h_ (by simp)) q_ h2 h1), pg_207, (fun ⟨_, h_, _⟩ => absurd h_ (by simp)), (fun ⟨_, h_, _⟩ => absurd h_ (by simp)), (fun q_ ⟨_, h_, _⟩ _ => absurd h_ (by simp)), (fun q_ ⟨_, h_, _⟩ _ => absurd h_ (by simp)), (fun q_ ⟨_, h_, _⟩ _ => absurd h_ (by simp)), (fun q_ ⟨_, h_, _⟩ _ => absurd h_ (by simp)), (fun q_ ⟨_, h_, _⟩ _ => absurd h_ (by simp)), (fun q_ ⟨_, h_, _⟩ _ => absurd h_ (by simp)), (fun q_ ⟨_, h_, _⟩ _ => absurd h_ (by simp)), (fun q_ ⟨_, h_, _⟩ _ => absurd h_ (by simp)), (fun q_ h1 h2 => pr_225 q_ h2 h1), (fun q_ ⟨_, h_, _⟩ => absurd h_ (by simp)), ?_, ?_, ?_⟩
          · omega
          · rfl
          · exact fun x h => absurd h (by simp)
        clear hb_6 ho_16 ho_25 ho_95 hD_116 ho_124 hR_125 hb_133 ho_163 ho_177 hM_195 hL0 ho_211
        clear K0
        rintro i ρ_256 w_227 ⟨ls, hH_228, K0, hL, hb_6, hb_133, ho_16, ho_25, ho_95, hD_116, ho_124, hR_125, ho_163, ho_177, ho_211, hO_229, hO_230, pr_231, pr_232, pr_233, pr_234, pr_235, pr_236, pr_237, pr_238, pr_239, pr_240, pr_241, pr_242, pr_243, pr_244, pr_245, pr_246, pr_247, pr_248, pr_249, pr_250, pr_251, pr_252, pr_253, pr_254, pr_255, hi, hln, hlb⟩ ih3
        obtain ⟨ρ₀, rfl⟩ := hH_228.ex
        clear hH_228
        refine Run.seq ?_
        refine Run.region ?_
        refine RL.val (x_ltI rfl rfl) ?_
        refine RL.nil ?_
        refine Run.seq ?_
        refine Run.cond rfl (fun hc112 => ?_) (fun hc112 => ?_)
        · try simp only [br] at hc112
          refine Run.skip ?_
          refine Run.seq ?_
          refine Run.block ?_
          refine Run.seq ?_
          refine Run.region ?_
          obtain ⟨b_257, o_258, s, hs, ha_259, hc_260⟩ := ho_211.sl.el (i := i) (by first | omega | (simp only [List.length_set]; omega))
          refine RL.val (x_idxN Tryz.underlying61 ty9 rfl rfl ha_259 (by first | omega | (simp only [List.length_set]; omega))) ?_
          refine RL.val (x_ldV (v := .string (s)) (y := s) ty9 rfl hc_260 rfl) ?_
          refine RL.val (x_assignS rfl) ?_
          refine RL.nil ?_
          have hsno : ∀ x ∈ ls, x.name ≠ s := fun x hx e => take_no (names_nodup hD_116.ok) hs _ (by rw [← hln]; exact List.mem_map.2 ⟨x, hx, rfl⟩) e
          obtain ⟨hz0, hz1⟩ := names_may hD_116.ok hs
          refine Run.region ?_
          refine RL.val (x_moveM rfl) ?_
          refine RL.val (x_moveS rfl) ?_
          refine RL.val (x_moveP rfl) ?_
          refine RL.val (x_moveS rfl) ?_
          refine RL.st rfl <| St1.call (vals := [.pointer (some ⟨d_1, 0, none⟩), .string (s)]) en25 rfl (readD hD_116 s (by first | omega | decide)) ?_
          rintro _ w_265 ⟨a_263, c_264, rfl, ho_266, hg_267, K_268⟩
          have pr_269 : ¬ own a_263 b_2 := notNew hg_267 hb_6.lt
          have pr_270 : ¬ own a_263 b_132 := notNew hg_267 hb_133.lt
          have pr_271 : ∀ q_, own a_263 q_ → ¬ own a_13 q_ := apartNew hg_267 ho_16.own_lt
          have pr_272 : ∀ q_, own a_263 q_ → ¬ own a_22 q_ := apartNew hg_267 ho_25.own_lt
          have pr_273 : ∀ q_, own a_263 q_ → ¬ own a_92 q_ := apartNew hg_267 ho_95.own_lt
          have pr_274 : ∀ q_, own a_263 q_ → ¬ F_114 q_ := apartNew hg_267 hD_116.own_lt
          have pr_275 : ∀ q_, own a_263 q_ → ¬ own a_121 q_ := apartNew hg_267 ho_124.own_lt
          have pr_276 : ∀ q_, own a_263 q_ → ¬ recsS (rs_123) q_ := apartNew hg_267 hR_125.own_lt
          have pr_277 : ∀ q_, own a_263 q_ → ¬ own (some ⟨b_160, 0, none⟩) q_ := apartNew hg_267 ho_163.own_lt
          have pr_278 : ∀ q_, own a_263 q_ → ¬ own a_174 q_ := apartNew hg_267 ho_177.own_lt
          have pr_279 : ∀ q_, own a_263 q_ → ¬ own a_208 q_ := apartNew hg_267 ho_211.own_lt
          have pr_280 : ∀ q_, own a_263 q_ → ¬ one m_192 q_ := apartNew hg_267 hO_229.own_lt
          have pr_281 : ∀ q_, own a_263 q_ → ¬ leftS ls q_ := apartNew hg_267 hO_230.own_lt
          have pg_282 : ∀ q_, own a_263 q_ → w.heap.size ≤ q_ := fun q_ h => Nat.le_trans K0.size (hg_267 q_ h)
          clear hg_267
          replace hL := hL.ext K_268
          replace hb_6 := hb_6.ext K_268
          replace hb_133 := hb_133.ext K_268
          replace ho_16 := ho_16.ext K_268
          replace ho_25 := ho_25.ext K_268
          replace ho_95 := ho_95.ext K_268
          replace hD_116 := hD_116.ext K_268
          replace ho_124 := ho_124.ext K_268
          replace hR_125 := hR_125.ext K_268
          replace ho_163 := ho_163.ext K_268
          replace ho_177 := ho_177.ext K_268
          replace ho_211 := ho_211.ext K_268
          replace hO_229 := hO_229.ext K_268
          replace hO_230 := hO_230.ext K_268
          replace K0 := K0.ext K_268
          refine RL.val (x_moveT rfl) ?_
          refine RL.val (x_extract rfl rfl) ?_
          refine RL.val (x_extract rfl rfl) ?_
          refine RL.st rfl <| St1.mapUpdate (v := .slice (a_263) ((readB ((openP 4194304 (plk.map (tornF keep))).2.2) s).length) (c_264)) Tryz.underlying60 Tryz.underlying9 rfl rfl rfl rfl hO_229 ?_
          intro w_283 hM_284 K_285
          replace hM_284 : MapAt w_283 m_192 (lents (ls ++ [⟨s, a_263, c_264, readB ((openP 4194304 (plk.map (tornF keep))).2.2) s⟩])) := (lents_put hsno a_263 c_264 (readB ((openP 4194304 (plk.map (tornF keep))).2.2) s) ▸ hM_284)
          replace hL := hL.keep K_285 (fun q_ hq_ => Nat.le_trans hLs (pr_243 q_ hq_))
          replace hb_6 := hb_6.keep K_285 pr_231
          replace hb_133 := hb_133.keep K_285 pr_232
          replace ho_16 := ho_16.keepO K_285 (fun q_ h1 h2 => pr_233 q_ h2 h1)
          replace ho_25 := ho_25.keepO K_285 (fun q_ h1 h2 => pr_234 q_ h2 h1)
          replace ho_95 := ho_95.keepO K_285 (fun q_ h1 h2 => pr_235 q_ h2 h1)
          replace hD_116 := hD_116.keepO K_285 (fun q_ h1 h2 => pr_236 q_ h2 h1)
          replace ho_124 := ho_124.keepO K_285 (fun q_ h1 h2 => pr_237 q_ h2 h1)
          replace hR_125 := hR_125.keepO K_285 (fun q_ h1 h2 => pr_238 q_ h2 h1)
          replace ho_163 := ho_163.keepO K_285 (fun q_ h1 h2 => pr_239 q_ h2 h1)
          replace ho_177 := ho_177.keepO K_285 (fun q_ h1 h2 => pr_240 q_ h2 h1)
          replace ho_211 := ho_211.keepO K_285 (fun q_ h1 h2 => pr_241 q_ h2 h1)
          replace hO_230 := hO_230.keepO K_285 (fun q_ h1 h2 => pr_242 q_ h2 h1)
          replace ho_266 := ho_266.keepO K_285 pr_280
          replace K0 := K0.new K_285 pr_243
          replace hO_229 := hM_284
          clear hM_284
          refine RL.nil ?_
          have hL' : LeftAt w_283 (ls ++ [⟨s, a_263, c_264, readB ((openP 4194304 (plk.map (tornF keep))).2.2) s⟩]) := LeftAt.snoc (x := ⟨s, a_263, c_264, readB ((openP 4194304 (plk.map (tornF keep))).2.2) s⟩) hO_230 ho_266 (fun q_ h1 h2 => (fun q_ h1 h2 => pr_281 q_ h2 h1) q_ h1 h2)
          have pr_286 : ¬ leftS (ls ++ [⟨s, a_263, c_264, readB ((openP 4194304 (plk.map (tornF keep))).2.2) s⟩]) b_2 := fun x_ => (left_caseN _ x_).elim pr_269 (fun y_ => pr_244 y_)
          have pr_287 : ¬ leftS (ls ++ [⟨s, a_263, c_264, readB ((openP 4194304 (plk.map (tornF keep))).2.2) s⟩]) b_132 := fun x_ => (left_caseN _ x_).elim pr_270 (fun y_ => pr_245 y_)
          have pr_288 : ∀ q_, leftS (ls ++ [⟨s, a_263, c_264, readB ((openP 4194304 (plk.map (tornF keep))).2.2) s⟩]) q_ → ¬ own a_13 q_ := fun q_ x_ z_ => (left_caseN _ x_).elim (fun y_ => pr_271 q_ y_ z_) (fun y_ => (fun y_ => pr_246 q_ y_ z_) y_)
          have pr_289 : ∀ q_, leftS (ls ++ [⟨s, a_263, c_264, readB ((openP 4194304 (plk.map (tornF keep))).2.2) s⟩]) q_ → ¬ own a_22 q_ := fun q_ x_ z_ => (left_caseN _ x_).elim (fun y_ => pr_272 q_ y_ z_) (fun y_ => (fun y_ => pr_247 q_ y_ z_) y_)
          have pr_290 : ∀ q_, leftS (ls ++ [⟨s, a_263, c_264, readB ((openP 4194304 (plk.map (tornF keep))).2.2) s⟩]) q_ → ¬ own a_92 q_ := fun q_ x_ z_ => (left_caseN _ x_).elim (fun y_ => pr_273 q_ y_ z_) (fun y_ => (fun y_ => pr_248 q_ y_ z_) y_)
          have pr_291 : ∀ q_, leftS (ls ++ [⟨s, a_263, c_264, readB ((openP 4194304 (plk.map (tornF keep))).2.2) s⟩]) q_ → ¬ F_114 q_ := fun q_ x_ z_ => (left_caseN _ x_).elim (fun y_ => pr_274 q_ y_ z_) (fun y_ => (fun y_ => pr_249 q_ y_ z_) y_)
          have pr_292 : ∀ q_, leftS (ls ++ [⟨s, a_263, c_264, readB ((openP 4194304 (plk.map (tornF keep))).2.2) s⟩]) q_ → ¬ own a_121 q_ := fun q_ x_ z_ => (left_caseN _ x_).elim (fun y_ => pr_275 q_ y_ z_) (fun y_ => (fun y_ => pr_250 q_ y_ z_) y_)
          have pr_293 : ∀ q_, leftS (ls ++ [⟨s, a_263, c_264, readB ((openP 4194304 (plk.map (tornF keep))).2.2) s⟩]) q_ → ¬ recsS (rs_123) q_ := fun q_ x_ z_ => (left_caseN _ x_).elim (fun y_ => pr_276 q_ y_ z_) (fun y_ => (fun y_ => pr_251 q_ y_ z_) y_)
          have pr_294 : ∀ q_, leftS (ls ++ [⟨s, a_263, c_264, readB ((openP 4194304 (plk.map (tornF keep))).2.2) s⟩]) q_ → ¬ own (some ⟨b_160, 0, none⟩) q_ := fun q_ x_ z_ => (left_caseN _ x_).elim (fun y_ => pr_277 q_ y_ z_) (fun y_ => (fun y_ => pr_252 q_ y_ z_) y_)
          have pr_295 : ∀ q_, leftS (ls ++ [⟨s, a_263, c_264, readB ((openP 4194304 (plk.map (tornF keep))).2.2) s⟩]) q_ → ¬ own a_174 q_ := fun q_ x_ z_ => (left_caseN _ x_).elim (fun y_ => pr_278 q_ y_ z_) (fun y_ => (fun y_ => pr_253 q_ y_ z_) y_)
          have pr_296 : ∀ q_, leftS (ls ++ [⟨s, a_263, c_264, readB ((openP 4194304 (plk.map (tornF keep))).2.2) s⟩]) q_ → ¬ own a_208 q_ := fun q_ x_ z_ => (left_caseN _ x_).elim (fun y_ => pr_279 q_ y_ z_) (fun y_ => (fun y_ => pr_254 q_ y_ z_) y_)
          have pr_297 : ∀ q_, leftS (ls ++ [⟨s, a_263, c_264, readB ((openP 4194304 (plk.map (tornF keep))).2.2) s⟩]) q_ → ¬ one m_192 q_ := fun q_ x_ z_ => (left_caseN _ x_).elim (fun y_ => pr_280 q_ y_ z_) (fun y_ => (fun y_ => (fun q_ h1 h2 => pr_242 q_ h2 h1) q_ y_ z_) y_)
          have pg_298 : ∀ q_, leftS (ls ++ [⟨s, a_263, c_264, readB ((openP 4194304 (plk.map (tornF keep))).2.2) s⟩]) q_ → w.heap.size ≤ q_ := fun q_ x_ => (left_caseN _ x_).elim (fun y_ => pg_282 q_ y_) (fun y_ => (fun y_ => pr_255 q_ y_) y_)
          refine Run.inBlock ?_
          refine Run.region ?_
          refine RL.val (litI (c := ((i + 1 : Nat) : Int)) (x_add rfl rfl (by omega) (by omega)) rfl) ?_
          refine RL.val (x_moveI rfl) ?_
          refine RL.nil ?_
          refine ih3 (i + 1) _ _ ?_ (by omega)
          refine ⟨(ls ++ [⟨s, a_263, c_264, readB ((openP 4194304 (plk.map (tornF keep))).2.2) s⟩]), ⟨rfl, rfl, rfl, rfl, rfl, rfl, trivial⟩, K0, hL, hb_6, hb_133, ho_16, ho_25, ho_95, hD_116, ho_124, hR_125, ho_163, ho_177, ho_211, hO_229, hL', pr_231, pr_232, pr_233, pr_234, pr_235, pr_236, pr_237, pr_238, pr_239, pr_240, pr_241, (fun q_ h1 h2 => pr_297 q_ h2 h1), pr_243, pr_286, pr_287, pr_288, pr_289, pr_290, pr_291, pr_292, pr_293, pr_294, pr_295, pr_296, pg_298, ?_, ?_, ?_⟩
          · omega
          · rw [List.map_append, hln, take_snoc hs]; rfl
          · intro x hx; rcases List.mem_append.1 hx with hx | hx
            · exact hlb x hx
            · simp only [List.mem_singleton] at hx; subst hx; rfl
        · try simp only [br] at hc112
          refine Run.exit rfl ?_
          refine Run.seq ?_
          refine Run.region ?_
          refine RL.val (x_moveP rfl) ?_
          refine RL.st rfl <| St1.call (vals := [.pointer (some ⟨d_1, 0, none⟩)]) en9 rfl (open7_ _ _ _ _ _ hD_116 hL pG_157) ?_
          rintro vv w_300 ⟨F_299, hD_301, hm_302, K_303, hcs_304⟩
          rcases hcs_304 with hcs_304 | hcs_304
          · obtain ⟨he_305, a_306, c_307, rs_308, b_317, rfl, hb_318, hbF_319, hbl_320, ho_309, hR_310, hms_311, hg_312, hg_313, hap_314, hf_315, hf_316⟩ := hcs_304
            have pr_321 : ¬ own a_306 b_2 := notNew hg_312 hb_6.lt
            have pr_322 : ¬ own a_306 b_132 := notNew hg_312 hb_133.lt
            have pr_323 : ∀ q_, own a_306 q_ → ¬ own a_13 q_ := apartNew hg_312 ho_16.own_lt
            have pr_324 : ∀ q_, own a_306 q_ → ¬ own a_22 q_ := apartNew hg_312 ho_25.own_lt
            have pr_325 : ∀ q_, own a_306 q_ → ¬ own a_92 q_ := apartNew hg_312 ho_95.own_lt
            have pr_326 : ∀ q_, own a_306 q_ → ¬ F_114 q_ := apartNew hg_312 hD_116.own_lt
            have pr_327 : ∀ q_, own a_306 q_ → ¬ own a_121 q_ := apartNew hg_312 ho_124.own_lt
            have pr_328 : ∀ q_, own a_306 q_ → ¬ recsS (rs_123) q_ := apartNew hg_312 hR_125.own_lt
            have pr_329 : ∀ q_, own a_306 q_ → ¬ own (some ⟨b_160, 0, none⟩) q_ := apartNew hg_312 ho_163.own_lt
            have pr_330 : ∀ q_, own a_306 q_ → ¬ own a_174 q_ := apartNew hg_312 ho_177.own_lt
            have pr_331 : ∀ q_, own a_306 q_ → ¬ own a_208 q_ := apartNew hg_312 ho_211.own_lt
            have pr_332 : ∀ q_, own a_306 q_ → ¬ one m_192 q_ := apartNew hg_312 hO_229.own_lt
            have pr_333 : ∀ q_, own a_306 q_ → ¬ leftS ls q_ := apartNew hg_312 hO_230.own_lt
            have pg_334 : ∀ q_, own a_306 q_ → w.heap.size ≤ q_ := fun q_ h => Nat.le_trans K0.size (hg_312 q_ h)
            have pr_335 : ¬ recsS (rs_308) b_2 := notNew hg_313 hb_6.lt
            have pr_336 : ¬ recsS (rs_308) b_132 := notNew hg_313 hb_133.lt
            have pr_337 : ∀ q_, recsS (rs_308) q_ → ¬ own a_13 q_ := apartNew hg_313 ho_16.own_lt
            have pr_338 : ∀ q_, recsS (rs_308) q_ → ¬ own a_22 q_ := apartNew hg_313 ho_25.own_lt
            have pr_339 : ∀ q_, recsS (rs_308) q_ → ¬ own a_92 q_ := apartNew hg_313 ho_95.own_lt
            have pr_340 : ∀ q_, recsS (rs_308) q_ → ¬ F_114 q_ := apartNew hg_313 hD_116.own_lt
            have pr_341 : ∀ q_, recsS (rs_308) q_ → ¬ own a_121 q_ := apartNew hg_313 ho_124.own_lt
            have pr_342 : ∀ q_, recsS (rs_308) q_ → ¬ recsS (rs_123) q_ := apartNew hg_313 hR_125.own_lt
            have pr_343 : ∀ q_, recsS (rs_308) q_ → ¬ own (some ⟨b_160, 0, none⟩) q_ := apartNew hg_313 ho_163.own_lt
            have pr_344 : ∀ q_, recsS (rs_308) q_ → ¬ own a_174 q_ := apartNew hg_313 ho_177.own_lt
            have pr_345 : ∀ q_, recsS (rs_308) q_ → ¬ own a_208 q_ := apartNew hg_313 ho_211.own_lt
            have pr_346 : ∀ q_, recsS (rs_308) q_ → ¬ one m_192 q_ := apartNew hg_313 hO_229.own_lt
            have pr_347 : ∀ q_, recsS (rs_308) q_ → ¬ leftS ls q_ := apartNew hg_313 hO_230.own_lt
            have pg_348 : ∀ q_, recsS (rs_308) q_ → w.heap.size ≤ q_ := fun q_ h => Nat.le_trans K0.size (hg_313 q_ h)
            have ne_349 : b_2 < b_317 := Nat.lt_of_lt_of_le hb_6.lt hbl_320
            have ne_350 : b_132 < b_317 := Nat.lt_of_lt_of_le hb_133.lt hbl_320
            have pr_351 : ¬ own a_13 b_317 := fun h_ => absurd (ho_16.own_lt _ h_) (by omega)
            have pr_352 : ¬ own a_22 b_317 := fun h_ => absurd (ho_25.own_lt _ h_) (by omega)
            have pr_353 : ¬ own a_92 b_317 := fun h_ => absurd (ho_95.own_lt _ h_) (by omega)
            have pr_354 : ¬ own a_121 b_317 := fun h_ => absurd (ho_124.own_lt _ h_) (by omega)
            have pr_355 : ¬ recsS (rs_123) b_317 := fun h_ => absurd (hR_125.own_lt _ h_) (by omega)
            have pr_356 : ¬ own (some ⟨b_160, 0, none⟩) b_317 := fun h_ => absurd (ho_163.own_lt _ h_) (by omega)
            have pr_357 : ¬ own a_174 b_317 := fun h_ => absurd (ho_177.own_lt _ h_) (by omega)
            have pr_358 : ¬ own a_208 b_317 := fun h_ => absurd (ho_211.own_lt _ h_) (by omega)
            have pr_359 : ¬ one m_192 b_317 := fun h_ => absurd (hO_229.own_lt _ h_) (by omega)
            have pr_360 : ¬ leftS ls b_317 := fun h_ => absurd (hO_230.own_lt _ h_) (by omega)
            have : w.heap.size ≤ b_317 := Nat.le_trans K0.size hbl_320
            have pr_361 : ¬ F_299 b_2 := hm_302.not pr_152 hb_6.lt
            have pr_362 : ¬ F_299 b_132 := hm_302.not hbF_134 hb_133.lt
            have pr_363 : ∀ q_, F_299 q_ → ¬ own a_13 q_ := hm_302.apart pr_153 ho_16.own_lt
            have pr_364 : ∀ q_, F_299 q_ → ¬ own a_22 q_ := hm_302.apart pr_154 ho_25.own_lt
            have pr_365 : ∀ q_, F_299 q_ → ¬ own a_92 q_ := hm_302.apart pr_155 ho_95.own_lt
            have pr_366 : ∀ q_, F_299 q_ → ¬ own a_121 q_ := hm_302.apart (fun q_ h1 h2 => hf_130 q_ h2 h1) ho_124.own_lt
            have pr_367 : ∀ q_, F_299 q_ → ¬ recsS (rs_123) q_ := hm_302.apart (fun q_ h1 h2 => hf_131 q_ h2 h1) hR_125.own_lt
            have pr_368 : ∀ q_, F_299 q_ → ¬ own (some ⟨b_160, 0, none⟩) q_ := hm_302.apart (fun q_ h1 h2 => pr_169 q_ h2 h1) ho_163.own_lt
            have pr_369 : ∀ q_, F_299 q_ → ¬ own a_174 q_ := hm_302.apart (fun q_ h1 h2 => pr_184 q_ h2 h1) ho_177.own_lt
            have pr_370 : ∀ q_, F_299 q_ → ¬ own a_208 q_ := hm_302.apart (fun q_ h1 h2 => pr_218 q_ h2 h1) ho_211.own_lt
            have pr_371 : ∀ q_, F_299 q_ → ¬ one m_192 q_ := hm_302.apart (fun q_ h1 h2 => pr_236 q_ h2 h1) hO_229.own_lt
            have pr_372 : ∀ q_, F_299 q_ → ¬ leftS ls q_ := hm_302.apart (fun q_ h1 h2 => pr_249 q_ h2 h1) hO_230.own_lt
            have pg_373 : ∀ q_, F_299 q_ → w.heap.size ≤ q_ := hm_302.ge pg_156 K0.size
            have pG_374 : ∀ q_, F_299 q_ → 5 ≤ q_ := fun q_ h_ => (hm_302 q_ h_).elim (pG_157 q_) (fun h2_ => Nat.le_trans hLs (Nat.le_trans K0.size h2_))
            replace hL := hL.keep K_303 pG_157
            replace hb_6 := hb_6.keep K_303 pr_152
            replace hb_133 := hb_133.keep K_303 hbF_134
            replace ho_16 := ho_16.keepO K_303 (fun q_ h1 h2 => pr_153 q_ h2 h1)
            replace ho_25 := ho_25.keepO K_303 (fun q_ h1 h2 => pr_154 q_ h2 h1)
            replace ho_95 := ho_95.keepO K_303 (fun q_ h1 h2 => pr_155 q_ h2 h1)
            replace ho_124 := ho_124.keepO K_303 hf_130
            replace hR_125 := hR_125.keepO K_303 hf_131
            replace ho_163 := ho_163.keepO K_303 pr_169
            replace ho_177 := ho_177.keepO K_303 pr_184
            replace ho_211 := ho_211.keepO K_303 pr_218
            replace hO_229 := hO_229.keepO K_303 pr_236
            replace hO_230 := hO_230.keepO K_303 pr_249
            replace K0 := K0.new K_303 pg_156
            clear hm_302
            refine RL.val (x_moveT rfl) ?_
            refine RL.val (x_extract rfl rfl) ?_
            refine RL.val (x_extract rfl rfl) ?_
            refine RL.val (x_extract rfl rfl) ?_
            refine RL.val (x_assignP rfl) ?_
            refine RL.val (x_assignSl rfl) ?_
            refine RL.val (x_assignI rfl) ?_
            refine RL.nil ?_
            have hEq3 : rs_308.map RB.b = rs_123.map RB.b := (hms_311.trans hS2).trans hEq.symm
            have hrl7 : (rs_308.map RB.h).length = rs_308.length := List.length_map ..
            have hrl6 : rs_308.length = rs_123.length := by have h9 := congrArg List.length hEq3; rw [List.length_map, List.length_map] at h9; exact h9
            have hN3 : namesS (openP 4194304 (openP 4194304 (plk.map (tornF keep))).2.2).2.2 = namesS (openP 4194304 (plk.map (tornF keep))).2.2 := by rw [namesS, namesS, hS4]
            have hil : i = (namesS (openP 4194304 (plk.map (tornF keep))).2.2).length := by omega
            have hln2 : ls.map (·.name) = namesS (openP 4194304 (plk.map (tornF keep))).2.2 := by rw [hln, hil, List.take_length]
            have hll : (lents ls).length = (namesS (openP 4194304 (plk.map (tornF keep))).2.2).length := by rw [← hln2, lents, List.length_map, List.length_map]
            have hnl3 : (namesS (openP 4194304 (openP 4194304 (plk.map (tornF keep))).2.2).2.2).length = (namesS (openP 4194304 (plk.map (tornF keep))).2.2).length := by rw [hN3]
            refine Run.seq ?_
            refine Run.seq ?_
            refine Run.region ?_
            refine RL.val (x_moveI rfl) ?_
            refine RL.val (litF (x_neI rfl rfl) (by decide)) ?_
            refine RL.val (x_moveB rfl) ?_
            refine RL.gst (wantedF1 rfl rfl rfl rfl) <| St1.val (x_moveSl rfl) ?_
            refine RL.gst (wantedF1 rfl rfl rfl rfl) <| St1.val (x_moveSl rfl) ?_
            refine RL.gst (wantedF1 rfl rfl rfl rfl) <| St1.call (vals := [.slice (a_306) ((rs_308.map RB.h).length) (c_307), .slice (a_121) ((rs_123.map RB.h).length) (c_122)]) en14 rfl (equalR_yes _ rs_308 _ _ rs_123 _ _ ho_309.sl ho_124.sl (RecsO.q hR_310) (RecsO.q hR_125) (by omega) (by omega) hEq3) ?_
            rintro _ w_377 ⟨rfl, K_378⟩
            replace hL := hL.ext K_378
            replace hb_6 := hb_6.ext K_378
            replace hb_133 := hb_133.ext K_378
            replace ho_16 := ho_16.ext K_378
            replace ho_25 := ho_25.ext K_378
            replace ho_95 := ho_95.ext K_378
            replace ho_124 := ho_124.ext K_378
            replace hR_125 := hR_125.ext K_378
            replace ho_163 := ho_163.ext K_378
            replace ho_177 := ho_177.ext K_378
            replace ho_211 := ho_211.ext K_378
            replace hO_229 := hO_229.ext K_378
            replace hO_230 := hO_230.ext K_378
            replace hD_301 := hD_301.ext K_378
            replace ho_309 := ho_309.ext K_378
            replace hR_310 := hR_310.ext K_378
            replace hb_318 := hb_318.ext K_378
            replace K0 := K0.ext K_378
            refine RL.gst (wantedF1 rfl rfl rfl rfl) <| St1.val (x_not (b := true) rfl) ?_
            refine RL.val (x_orF rfl rfl rfl) ?_
            refine RL.val (x_moveB rfl) ?_
            refine RL.gst (wantedF1 rfl rfl rfl rfl) <| St1.val (x_moveP rfl) ?_
            refine RL.gst (wantedF1 rfl rfl rfl rfl) <| St1.call (vals := [.pointer (some ⟨d_1, 0, none⟩)]) en24 rfl (filesD hD_301) ?_
            rintro _ w_381 ⟨a_379, c_380, rfl, ho_382, hg_383, K_384⟩
            have pr_385 : ¬ own a_379 b_2 := notNew hg_383 hb_6.lt
            have pr_386 : ¬ own a_379 b_132 := notNew hg_383 hb_133.lt
            have pr_387 : ∀ q_, own a_379 q_ → ¬ own a_13 q_ := apartNew hg_383 ho_16.own_lt
            have pr_388 : ∀ q_, own a_379 q_ → ¬ own a_22 q_ := apartNew hg_383 ho_25.own_lt
            have pr_389 : ∀ q_, own a_379 q_ → ¬ own a_92 q_ := apartNew hg_383 ho_95.own_lt
            have pr_390 : ∀ q_, own a_379 q_ → ¬ own a_121 q_ := apartNew hg_383 ho_124.own_lt
            have pr_391 : ∀ q_, own a_379 q_ → ¬ recsS (rs_123) q_ := apartNew hg_383 hR_125.own_lt
            have pr_392 : ∀ q_, own a_379 q_ → ¬ own (some ⟨b_160, 0, none⟩) q_ := apartNew hg_383 ho_163.own_lt
            have pr_393 : ∀ q_, own a_379 q_ → ¬ own a_174 q_ := apartNew hg_383 ho_177.own_lt
            have pr_394 : ∀ q_, own a_379 q_ → ¬ own a_208 q_ := apartNew hg_383 ho_211.own_lt
            have pr_395 : ∀ q_, own a_379 q_ → ¬ one m_192 q_ := apartNew hg_383 hO_229.own_lt
            have pr_396 : ∀ q_, own a_379 q_ → ¬ leftS ls q_ := apartNew hg_383 hO_230.own_lt
            have pr_397 : ∀ q_, own a_379 q_ → ¬ F_299 q_ := apartNew hg_383 hD_301.own_lt
            have pr_398 : ∀ q_, own a_379 q_ → ¬ own a_306 q_ := apartNew hg_383 ho_309.own_lt
            have pr_399 : ∀ q_, own a_379 q_ → ¬ recsS (rs_308) q_ := apartNew hg_383 hR_310.own_lt
            have pr_400 : ¬ own a_379 b_317 := notNew hg_383 hb_318.lt
            have pg_401 : ∀ q_, own a_379 q_ → w.heap.size ≤ q_ := fun q_ h => Nat.le_trans K0.size (hg_383 q_ h)
            clear hg_383
            replace hL := hL.ext K_384
            replace hb_6 := hb_6.ext K_384
            replace hb_133 := hb_133.ext K_384
            replace ho_16 := ho_16.ext K_384
            replace ho_25 := ho_25.ext K_384
            replace ho_95 := ho_95.ext K_384
            replace ho_124 := ho_124.ext K_384
            replace hR_125 := hR_125.ext K_384
            replace ho_163 := ho_163.ext K_384
            replace ho_177 := ho_177.ext K_384
            replace ho_211 := ho_211.ext K_384
            replace hO_229 := hO_229.ext K_384
            replace hO_230 := hO_230.ext K_384
            replace hD_301 := hD_301.ext K_384
            replace ho_309 := ho_309.ext K_384
            replace hR_310 := hR_310.ext K_384
            replace hb_318 := hb_318.ext K_384
            replace K0 := K0.ext K_384
            refine RL.gst (wantedF1 rfl rfl rfl rfl) <| St1.val (x_lenSl Tryz.underlying61 rfl) ?_
            refine RL.gst (wantedF1 rfl rfl rfl rfl) <| St1.val (x_moveM rfl) ?_
            refine RL.gst (wantedF1 rfl rfl rfl rfl) <| St1.val (x_lenMap Tryz.underlying60 rfl hO_229) ?_
            refine RL.gst (wantedF1 rfl rfl rfl rfl) <| St1.val (litF (x_neI rfl rfl) (by rw [hnl3, hll]; simp)) ?_
            refine RL.val (x_orF rfl rfl rfl) ?_
            refine RL.nil ?_
            refine Run.condF rfl ?_
            refine Run.skip ?_
            refine Run.seq ?_
            refine Run.seq ?_
            refine Run.region ?_
            refine RL.val (x_moveM rfl) ?_
            refine RL.st rfl <| St1.rangeMap Tryz.underlying60 rfl hO_229 ?_
            intro r_402 w_403 hl_404 hI_405 K_406
            have pr_407 : ¬ one r_402 b_2 := notNew (ge_one hl_404) hb_6.lt
            have pr_408 : ¬ one r_402 b_132 := notNew (ge_one hl_404) hb_133.lt
            have pr_409 : ∀ q_, one r_402 q_ → ¬ own a_13 q_ := apartNew (ge_one hl_404) ho_16.own_lt
            have pr_410 : ∀ q_, one r_402 q_ → ¬ own a_22 q_ := apartNew (ge_one hl_404) ho_25.own_lt
            have pr_411 : ∀ q_, one r_402 q_ → ¬ own a_92 q_ := apartNew (ge_one hl_404) ho_95.own_lt
            have pr_412 : ∀ q_, one r_402 q_ → ¬ own a_121 q_ := apartNew (ge_one hl_404) ho_124.own_lt
            have pr_413 : ∀ q_, one r_402 q_ → ¬ recsS (rs_123) q_ := apartNew (ge_one hl_404) hR_125.own_lt
            have pr_414 : ∀ q_, one r_402 q_ → ¬ own (some ⟨b_160, 0, none⟩) q_ := apartNew (ge_one hl_404) ho_163.own_lt
            have pr_415 : ∀ q_, one r_402 q_ → ¬ own a_174 q_ := apartNew (ge_one hl_404) ho_177.own_lt
            have pr_416 : ∀ q_, one r_402 q_ → ¬ own a_208 q_ := apartNew (ge_one hl_404) ho_211.own_lt
            have pr_417 : ∀ q_, one r_402 q_ → ¬ one m_192 q_ := apartNew (ge_one hl_404) hO_229.own_lt
            have pr_418 : ∀ q_, one r_402 q_ → ¬ leftS ls q_ := apartNew (ge_one hl_404) hO_230.own_lt
            have pr_419 : ∀ q_, one r_402 q_ → ¬ F_299 q_ := apartNew (ge_one hl_404) hD_301.own_lt
            have pr_420 : ∀ q_, one r_402 q_ → ¬ own a_306 q_ := apartNew (ge_one hl_404) ho_309.own_lt
            have pr_421 : ∀ q_, one r_402 q_ → ¬ recsS (rs_308) q_ := apartNew (ge_one hl_404) hR_310.own_lt
            have pr_422 : ¬ one r_402 b_317 := notNew (ge_one hl_404) hb_318.lt
            have pr_423 : ∀ q_, one r_402 q_ → ¬ own a_379 q_ := apartNew (ge_one hl_404) ho_382.own_lt
            have pg_424 : ∀ q_, one r_402 q_ → w.heap.size ≤ q_ := fun q_ h => Nat.le_trans K0.size ((ge_one hl_404) q_ h)
            clear hl_404
            replace hL := hL.ext K_406
            replace hb_6 := hb_6.ext K_406
            replace hb_133 := hb_133.ext K_406
            replace ho_16 := ho_16.ext K_406
            replace ho_25 := ho_25.ext K_406
            replace ho_95 := ho_95.ext K_406
            replace ho_124 := ho_124.ext K_406
            replace hR_125 := hR_125.ext K_406
            replace ho_163 := ho_163.ext K_406
            replace ho_177 := ho_177.ext K_406
            replace ho_211 := ho_211.ext K_406
            replace hO_229 := hO_229.ext K_406
            replace hO_230 := hO_230.ext K_406
            replace hD_301 := hD_301.ext K_406
            replace ho_309 := ho_309.ext K_406
            replace hR_310 := hR_310.ext K_406
            replace hb_318 := hb_318.ext K_406
            replace ho_382 := ho_382.ext K_406
            replace K0 := K0.ext K_406
            refine RL.nil ?_
            refine Run.block ?_
            refine Run.loop (ι := Nat) (fun k ρ' w' => ∃ lr : List LeftS, ∃ la : Option (ByteArray × Value), Holds ρ' [(7, .pointer (some ⟨d_1, 0, none⟩)), (147, .pointer (some ⟨r_402, 0, none⟩))] ∧ Ext w w' ∧ (LaidOk w') ∧ (Blk w' b_2 [.pointer (some ⟨d_1, 0, none⟩)] 42) ∧ (Blk w' b_132 [.pointer (some ⟨d_1, 0, none⟩)] 42) ∧ (Blk w' b_317 [.pointer (some ⟨d_1, 0, none⟩)] 42) ∧ (OwnSl w' 32 (a_13) (c_14) ((usualR rs).map RB.h)) ∧ (OwnSl w' 32 (a_22) (c_23) ((usualR ts).map RB.h)) ∧ (OwnSl w' 98 (a_92) (c_93) (tearsC plk keep)) ∧ (OwnSl w' 32 (a_121) (c_122) (rs_123.map RB.h)) ∧ (RecsO w' (rs_123)) ∧ (OwnSl w' 22 (some ⟨b_160, 0, none⟩) (([⟨a_13, ((usualR rs).map RB.h).length, c_14⟩, ⟨a_22, ((usualR ts).map RB.h).length, c_23⟩] : List SH).length) (([⟨a_13, ((usualR rs).map RB.h).length, c_14⟩, ⟨a_22, ((usualR ts).map RB.h).length, c_23⟩] : List SH))) ∧ (OwnSl w' 32 (a_174) (c_175) ((usualR rs ++ usualR ts).map RB.h)) ∧ (OwnSl w' 9 (a_208) (c_209) (namesS ((openP 4194304 (plk.map (tornF keep))).2.2))) ∧ (MapAt w' m_192 (lents ls)) ∧ (LeftAt w' ls) ∧ (DiskAt w' d_1 F_299 4194304 ((openP 4194304 ((openP 4194304 (plk.map (tornF keep))).2.2)).2.2)) ∧ (OwnSl w' 32 (a_306) (c_307) (rs_308.map RB.h)) ∧ (RecsO w' (rs_308)) ∧ (OwnSl w' 9 (a_379) (c_380) (namesS ((openP 4194304 ((openP 4194304 (plk.map (tornF keep))).2.2)).2.2))) ∧ (IterAt w' r_402 m_192 (lents lr) la) ∧ (¬ one r_402 b_2) ∧ (¬ one r_402 b_132) ∧ (¬ one r_402 b_317) ∧ (∀ q_, one r_402 q_ → ¬ own a_13 q_) ∧ (∀ q_, one r_402 q_ → ¬ own a_22 q_) ∧ (∀ q_, one r_402 q_ → ¬ own a_92 q_) ∧ (∀ q_, one r_402 q_ → ¬ own a_121 q_) ∧ (∀ q_, one r_402 q_ → ¬ recsS (rs_123) q_) ∧ (∀ q_, one r_402 q_ → ¬ own (some ⟨b_160, 0, none⟩) q_) ∧ (∀ q_, one r_402 q_ → ¬ own a_174 q_) ∧ (∀ q_, one r_402 q_ → ¬ own a_208 q_) ∧ (∀ q_, one r_402 q_ → ¬ one m_192 q_) ∧ (∀ q_, one r_402 q_ → ¬ leftS ls q_) ∧ (∀ q_, one r_402 q_ → ¬ F_299 q_) ∧ (∀ q_, one r_402 q_ → ¬ own a_306 q_) ∧ (∀ q_, one r_402 q_ → ¬ recsS (rs_308) q_) ∧ (∀ q_, one r_402 q_ → ¬ own a_379 q_) ∧ (∀ q_, one r_402 q_ → w.heap.size ≤ q_) ∧ (k = lr.length) ∧ (∀ x ∈ lr, x ∈ ls)) (fun k => k) ls.length ?_ ?_
            · refine ⟨ls, none, ⟨rfl, rfl, trivial⟩, K0, hL, hb_6, hb_133, hb_318, ho_16, ho_25, ho_95, ho_124, hR_125, ho_163, ho_177, ho_211, hO_229, hO_230, hD_301, ho_309, hR_310, ho_382, hI_405, pr_407, pr_408, pr_422, pr_409, pr_410, pr_411, pr_412, pr_413, pr_414, pr_415, pr_416, pr_417, pr_418, pr_419, pr_420, pr_421, pr_423, pg_424, ?_, ?_⟩
              · rfl
              · exact fun x h => h
            clear hb_6 hb_133 ho_16 ho_25 ho_95 ho_124 hR_125 ho_163 ho_177 ho_211 hO_229 hO_230 hD_301 ho_309 hR_310 hb_318 ho_382 hI_405
            clear K0
            rintro k ρ_446 w_425 ⟨lr, la, hH_426, K0, hL, hb_6, hb_133, hb_318, ho_16, ho_25, ho_95, ho_124, hR_125, ho_163, ho_177, ho_211, hO_229, hO_230, hD_301, ho_309, hR_310, ho_382, hO_427, pr_428, pr_429, pr_430, pr_431, pr_432, pr_433, pr_434, pr_435, pr_436, pr_437, pr_438, pr_439, pr_440, pr_441, pr_442, pr_443, pr_444, pr_445, hk, hsub⟩ ih4
            obtain ⟨ρ₀, rfl⟩ := hH_426.ex
            clear hH_426
            refine Run.seq ?_
            refine Run.region ?_
            refine RL.st rfl <| St1.nextMap rfl hO_427 ?_ ?_
            · intro h0_447
              replace h0_447 : lr = [] := by simpa [lents] using h0_447
              refine RL.val (x_extract rfl rfl) ?_
              refine RL.nil ?_
              refine Run.seq ?_
              refine Run.condF rfl ?_
              refine Run.exit rfl ?_
              refine Run.seq ?_
              refine Run.region ?_
              refine RL.val (x_assignB rfl) ?_
              refine RL.nil ?_
              refine Run.ret1 (v := .bool (true)) Tryz.func5 rfl rfl ?_
              exact ⟨_, rfl, rfl, K0⟩
            · intro jx ka_448 kv_449 w_450 h0_451 hI_452 K_453
              obtain ⟨x, hx, rfl, rfl⟩ := lents_get h0_451
              clear h0_451
              rw [lents_erase] at hI_452
              have hxm : x ∈ ls := hsub x (List.mem_of_getElem? hx)
              replace hL := hL.keep K_453 (fun q_ hq_ => Nat.le_trans hLs (pr_445 q_ hq_))
              replace hb_6 := hb_6.keep K_453 pr_428
              replace hb_133 := hb_133.keep K_453 pr_429
              replace hb_318 := hb_318.keep K_453 pr_430
              replace ho_16 := ho_16.keepO K_453 (fun q_ h1 h2 => pr_431 q_ h2 h1)
              replace ho_25 := ho_25.keepO K_453 (fun q_ h1 h2 => pr_432 q_ h2 h1)
              replace ho_95 := ho_95.keepO K_453 (fun q_ h1 h2 => pr_433 q_ h2 h1)
              replace ho_124 := ho_124.keepO K_453 (fun q_ h1 h2 => pr_434 q_ h2 h1)
              replace hR_125 := hR_125.keepO K_453 (fun q_ h1 h2 => pr_435 q_ h2 h1)
              replace ho_163 := ho_163.keepO K_453 (fun q_ h1 h2 => pr_436 q_ h2 h1)
              replace ho_177 := ho_177.keepO K_453 (fun q_ h1 h2 => pr_437 q_ h2 h1)
              replace ho_211 := ho_211.keepO K_453 (fun q_ h1 h2 => pr_438 q_ h2 h1)
              replace hO_229 := hO_229.keepO K_453 (fun q_ h1 h2 => pr_439 q_ h2 h1)
              replace hO_230 := hO_230.keepO K_453 (fun q_ h1 h2 => pr_440 q_ h2 h1)
              replace hD_301 := hD_301.keepO K_453 (fun q_ h1 h2 => pr_441 q_ h2 h1)
              replace ho_309 := ho_309.keepO K_453 (fun q_ h1 h2 => pr_442 q_ h2 h1)
              replace hR_310 := hR_310.keepO K_453 (fun q_ h1 h2 => pr_443 q_ h2 h1)
              replace ho_382 := ho_382.keepO K_453 (fun q_ h1 h2 => pr_444 q_ h2 h1)
              replace K0 := K0.new K_453 pr_445
              replace hO_427 := hI_452
              clear hI_452
              refine RL.val (x_extract rfl rfl) ?_
              refine RL.nil ?_
              refine Run.seq ?_
              refine Run.condT rfl ?_
              refine Run.skip ?_
              refine Run.block ?_
              refine Run.seq ?_
              refine Run.region ?_
              refine RL.val (x_entry rfl hO_427) ?_
              refine RL.val (x_extract rfl rfl) ?_
              refine RL.val (x_extract rfl rfl) ?_
              refine RL.val (x_assignS rfl) ?_
              refine RL.val (x_assignSl rfl) ?_
              refine RL.nil ?_
              have hxn : x.name ∈ namesS (openP 4194304 (openP 4194304 (plk.map (tornF keep))).2.2).2.2 := by rw [hN3, ← hln2]; exact List.mem_map.2 ⟨x, hxm, rfl⟩
              have hlk := look_names hD_301.ok hxn
              obtain ⟨i9, hi9⟩ := List.getElem?_of_mem hxn
              obtain ⟨hz0, hz1⟩ := names_may hD_301.ok hi9
              have hxb := (hlb x hxm).trans (hS3 x.name).symm
              refine Run.seq ?_
              refine Run.region ?_
              refine RL.val (x_moveP rfl) ?_
              refine RL.val (x_moveS rfl) ?_
              refine RL.st rfl <| St1.call (vals := [.pointer (some ⟨d_1, 0, none⟩), .string (x.name)]) en25 rfl (readD hD_301 x.name (by first | omega | decide)) ?_
              rintro _ w_456 ⟨a_454, c_455, rfl, ho_457, hg_458, K_459⟩
              have pr_460 : ¬ own a_454 b_2 := notNew hg_458 hb_6.lt
              have pr_461 : ¬ own a_454 b_132 := notNew hg_458 hb_133.lt
              have pr_462 : ¬ own a_454 b_317 := notNew hg_458 hb_318.lt
              have pr_463 : ∀ q_, own a_454 q_ → ¬ own a_13 q_ := apartNew hg_458 ho_16.own_lt
              have pr_464 : ∀ q_, own a_454 q_ → ¬ own a_22 q_ := apartNew hg_458 ho_25.own_lt
              have pr_465 : ∀ q_, own a_454 q_ → ¬ own a_92 q_ := apartNew hg_458 ho_95.own_lt
              have pr_466 : ∀ q_, own a_454 q_ → ¬ own a_121 q_ := apartNew hg_458 ho_124.own_lt
              have pr_467 : ∀ q_, own a_454 q_ → ¬ recsS (rs_123) q_ := apartNew hg_458 hR_125.own_lt
              have pr_468 : ∀ q_, own a_454 q_ → ¬ own (some ⟨b_160, 0, none⟩) q_ := apartNew hg_458 ho_163.own_lt
              have pr_469 : ∀ q_, own a_454 q_ → ¬ own a_174 q_ := apartNew hg_458 ho_177.own_lt
              have pr_470 : ∀ q_, own a_454 q_ → ¬ own a_208 q_ := apartNew hg_458 ho_211.own_lt
              have pr_471 : ∀ q_, own a_454 q_ → ¬ one m_192 q_ := apartNew hg_458 hO_229.own_lt
              have pr_472 : ∀ q_, own a_454 q_ → ¬ leftS ls q_ := apartNew hg_458 hO_230.own_lt
              have pr_473 : ∀ q_, own a_454 q_ → ¬ F_299 q_ := apartNew hg_458 hD_301.own_lt
              have pr_474 : ∀ q_, own a_454 q_ → ¬ own a_306 q_ := apartNew hg_458 ho_309.own_lt
              have pr_475 : ∀ q_, own a_454 q_ → ¬ recsS (rs_308) q_ := apartNew hg_458 hR_310.own_lt
              have pr_476 : ∀ q_, own a_454 q_ → ¬ own a_379 q_ := apartNew hg_458 ho_382.own_lt
              have pr_477 : ∀ q_, own a_454 q_ → ¬ one r_402 q_ := apartNew hg_458 hO_427.own_lt
              have pg_478 : ∀ q_, own a_454 q_ → w.heap.size ≤ q_ := fun q_ h => Nat.le_trans K0.size (hg_458 q_ h)
              clear hg_458
              replace hL := hL.ext K_459
              replace hb_6 := hb_6.ext K_459
              replace hb_133 := hb_133.ext K_459
              replace hb_318 := hb_318.ext K_459
              replace ho_16 := ho_16.ext K_459
              replace ho_25 := ho_25.ext K_459
              replace ho_95 := ho_95.ext K_459
              replace ho_124 := ho_124.ext K_459
              replace hR_125 := hR_125.ext K_459
              replace ho_163 := ho_163.ext K_459
              replace ho_177 := ho_177.ext K_459
              replace ho_211 := ho_211.ext K_459
              replace hO_229 := hO_229.ext K_459
              replace hO_230 := hO_230.ext K_459
              replace hD_301 := hD_301.ext K_459
              replace ho_309 := ho_309.ext K_459
              replace hR_310 := hR_310.ext K_459
              replace ho_382 := ho_382.ext K_459
              replace hO_427 := hO_427.ext K_459
              replace K0 := K0.ext K_459
              refine RL.val (x_moveT rfl) ?_
              refine RL.val (x_extract rfl rfl) ?_
              refine RL.val (x_extract rfl rfl) ?_
              refine RL.val (x_assignSl rfl) ?_
              refine RL.val (x_assignI rfl) ?_
              refine RL.nil ?_
              refine Run.seq ?_
              refine Run.region ?_
              refine RL.val (x_moveI rfl) ?_
              refine RL.val (litF (x_neI rfl rfl) (by rw [hlk]; rfl)) ?_
              refine RL.val (x_moveB rfl) ?_
              refine RL.gst (wantedF1 rfl rfl rfl rfl) <| St1.val (x_moveSl rfl) ?_
              refine RL.gst (wantedF1 rfl rfl rfl rfl) <| St1.val (x_moveSl rfl) ?_
              refine RL.gst (wantedF1 rfl rfl rfl rfl) <| St1.call (vals := [.slice (x.a) (x.bytes.length) (x.cap), .slice (a_454) ((readB ((openP 4194304 ((openP 4194304 (plk.map (tornF keep))).2.2)).2.2) x.name).length) (c_455)]) en26 rfl (bytesEqual _ x.bytes _ _ (readB ((openP 4194304 ((openP 4194304 (plk.map (tornF keep))).2.2)).2.2) x.name) _ _ ((hO_230.all x hxm).sl) ho_457.sl) ?_
              rintro _ w_479 ⟨rfl, K_480⟩
              replace hL := hL.ext K_480
              replace hb_6 := hb_6.ext K_480
              replace hb_133 := hb_133.ext K_480
              replace hb_318 := hb_318.ext K_480
              replace ho_16 := ho_16.ext K_480
              replace ho_25 := ho_25.ext K_480
              replace ho_95 := ho_95.ext K_480
              replace ho_124 := ho_124.ext K_480
              replace hR_125 := hR_125.ext K_480
              replace ho_163 := ho_163.ext K_480
              replace ho_177 := ho_177.ext K_480
              replace ho_211 := ho_211.ext K_480
              replace hO_229 := hO_229.ext K_480
              replace hO_230 := hO_230.ext K_480
              replace hD_301 := hD_301.ext K_480
              replace ho_309 := ho_309.ext K_480
              replace hR_310 := hR_310.ext K_480
              replace ho_382 := ho_382.ext K_480
              replace hO_427 := hO_427.ext K_480
              replace ho_457 := ho_457.ext K_480
              replace K0 := K0.ext K_480
              refine RL.gst (wantedF1 rfl rfl rfl rfl) <| St1.val (x_not rfl) ?_
              refine RL.val (x_orF rfl rfl rfl) ?_
              refine RL.nil ?_
              refine Run.cond rfl (fun hc166 => ?_) (fun hc166 => ?_)
              · try simp only [br] at hc166
                exact absurd hxb (by simpa using hc166)
              · try simp only [br] at hc166
                refine Run.skip ?_
                refine Run.inBlock ?_
                refine ih4 ((lr.eraseIdx jx).length) _ _ ?_ (by rw [hk]; exact lerase_lt hx)
                refine ⟨lr.eraseIdx jx, _, ⟨rfl, rfl, trivial⟩, K0, hL, hb_6, hb_133, hb_318, ho_16, ho_25, ho_95, ho_124, hR_125, ho_163, ho_177, ho_211, hO_229, hO_230, hD_301, ho_309, hR_310, ho_382, hO_427, pr_428, pr_429, pr_430, pr_431, pr_432, pr_433, pr_434, pr_435, pr_436, pr_437, pr_438, pr_439, pr_440, pr_441, pr_442, pr_443, pr_444, pr_445, ?_, ?_⟩
                · rfl
                · exact fun x h => hsub x (List.mem_of_mem_eraseIdx h)
          · exact absurd hS1 hcs_304.1
      · exact absurd ho0 hcs_119.1

end Go.Proofs.YtlhepanmdchjoaaGreatDoor
