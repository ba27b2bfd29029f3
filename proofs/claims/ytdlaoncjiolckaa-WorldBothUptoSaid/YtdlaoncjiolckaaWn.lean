/-
  Layer 22: WorldApart.
-/
import Derived.Test.YtdlaoncjiolckaaRows
import Derived.Test.YtdlaoncjiolckaaWm
namespace Go.Proofs.Ytdlaoncjiolckaa
attribute [local irreducible] St1 RL RA RT RT1 Run

theorem mod_len (u : Int) (h0 : 0 ≤ u) (n : Nat) (hn : 0 < n) (hn2 : n ≤ 1000000) : IntKind.u64.wrap (n : Int) = (n : Int) ∧ ∃ d : Nat, IntKind.i64.wrap (u.tmod (n : Int)) = (d : Int) ∧ d < n := by
  have e : IntKind.u64.wrap (n : Int) = (n : Int) := by
    have e1 : IntKind.u64.bits = 64 := rfl
    have e2 : IntKind.u64.signed = false := rfl
    simp only [IntKind.wrap, e1, e2, Bool.false_and]
    rw [show (2 : Int) ^ 64 = 18446744073709551616 by decide]
    exact Int.emod_eq_of_lt (by omega) (by omega)
  have h1 : 0 ≤ u.tmod (n : Int) := Int.tmod_nonneg _ h0
  have h2 : u.tmod (n : Int) < (n : Int) := Int.tmod_lt_of_pos _ (by omega)
  exact ⟨e, (u.tmod (n : Int)).toNat, by rw [wrap64 _ (by omega) (by omega)]; omega, by omega⟩
theorem sameP_T {a : Option Addr} {ks : List Pk} {c : Nat} {d : Option Addr} {us : List Pk} {e : Nat} {w : World} (hs : SlOf w a (ks.map Pk.k)) (ht : SlOf w d (us.map Pk.k)) (hK : MgsAt w ks) (hU : MgsAt w us) (hl : ks.length ≤ 1048576) (he : ks.map Pk.p = us.map Pk.p) :
    Calls Try.prog 16 #[.slice a (ks.map Pk.k).length c, .slice d (us.map Pk.k).length e] w (Ret fun r w' => r = .bool true ∧ Ext w w') :=
  ret_mono (samePackets_ a ks c d us e w hs ht hK hU hl) fun v w' h => ⟨by rw [h.1, decide_eq_true he], h.2⟩
theorem sameM_T {v u : MV} {f : FuncId} {args : Array Value} {w : World} (h : Calls Try.prog f args w (Ret fun r w' => r = .bool (decide (v = u)) ∧ Ext w w')) (e : v = u) : Calls Try.prog f args w (Ret fun r w' => r = .bool true ∧ Ext w w') := by rwa [decide_eq_true e] at h
theorem mid_subl (ks : List Pk) (k : Nat) : (ks.take k ++ ks.drop (k + 1)).Sublist ks := by
  conv => rhs; rw [← List.take_append_drop k ks]
  exact List.Sublist.append_left (List.drop_sublist_drop_left _ (by omega)) _
theorem apart_front {ks us : List Pk} {x : Int × MV} (h : us.map Pk.p = ks.map Pk.p ++ [x]) : (us.take (ks.map Pk.k).length).map Pk.p = ks.map Pk.p := by
  rw [List.map_take, h, List.length_map, List.take_append_of_le_length (by rw [List.length_map]; exact Nat.le_refl _), List.take_of_length_le (by rw [List.length_map]; exact Nat.le_refl _)]
theorem apart_last {ks us : List Pk} {x : Int × MV} {q : Pk} (h : us.map Pk.p = ks.map Pk.p ++ [x]) (hq : us[(ks.map Pk.k).length]? = some q) : q.p = x := by
  have h1 : (us.map Pk.p)[(ks.map Pk.k).length]? = some q.p := by rw [List.getElem?_map, hq]; rfl
  rw [h, List.length_map, List.getElem?_append_right (by rw [List.length_map]; exact Nat.le_refl _), List.length_map, Nat.sub_self] at h1
  exact (Option.some.inj h1).symm
section
variable {nodes id now : Int} {pv : List (Int × MV)} {ks : List Pk} {k : Nat} {p : Pk}
theorem apart_at (hok : WOk nodes id now pv) (hpe : ks.map Pk.p = pv) (htwo : ∀ x ∈ pv, twoB nodes x.2.frm x.2.to = true) (hp : ks[k]? = some p) :
    takeE nodes [] pv p.id = 0 ∧ takeL nodes [] pv p.id = (ks.take k ++ ks.drop (k + 1)).map Pk.p ∧ loseE pv p.id = 0 ∧ delP pv p.id = (ks.take k ++ ks.drop (k + 1)).map Pk.p ∧ (twiceE pv p.id ≠ 0 → ks.length = 512) ∧ (twiceE pv p.id = 0 → twiceL id pv p.id = ks.map Pk.p ++ [(id + 1, p.v)]) := by
  subst hpe
  obtain ⟨hk, hkp⟩ := List.getElem?_eq_some_iff.1 hp
  have hm : p ∈ ks := List.mem_of_getElem? hp
  have e : ks = ks.take k ++ p :: ks.drop (k + 1) := by rw [← hkp, List.getElem_cons_drop, List.take_append_drop]
  have h1 := getP_in hok.rise hm rfl
  have h2 := del_mid2 hok.rise e rfl
  have h3 : linkedB nodes [] p.v.frm p.v.to = true := by
    have := htwo p.p (List.mem_map.2 ⟨p, hm, rfl⟩)
    have h4 : twoB nodes p.v.frm p.v.to = true := this
    unfold twoB at h4
    rw [Bool.and_eq_true] at h4
    unfold linkedB
    rw [h4.1]; rfl
  have h4 : takeE nodes [] (ks.map Pk.p) p.id = 0 := by unfold takeE; rw [h1]; simp only; rw [if_pos h3]
  have h5 : ks.length ≤ 512 := by have := hok.len; rwa [List.length_map] at this
  refine ⟨h4, by unfold takeL; rw [if_pos h4, h2], by unfold loseE; rw [h1]; rfl, h2.symm, fun h => ?_, fun h => by unfold twiceL; rw [if_pos h, h1]; rfl⟩
  unfold twiceE at h
  rw [h1] at h
  simp only [List.length_map] at h
  by_cases h6 : ks.length < 512
  · rw [if_pos h6] at h; exact absurd rfl h
  · omega
end

theorem en16 : Enters Try.prog 16 := enters_of Try.func16 rfl (by kernel_rfl)

set_option maxRecDepth 100000 in
set_option maxHeartbeats 4000000 in
theorem law_apart (u : Int) (hu : 0 ≤ u ∧ u ≤ 18446744073709551615) (al : Option Addr) (ms : List Mg) (cl : Nat) (i : Int) (hi : 0 ≤ i ∧ i ≤ 18446744073709551615) (op : Int) (w : World) (hml0 : SlOf w al (ms.map Mg.c)) (hml : ms.length ≤ 1048576) (hms : ∀ m ∈ ms, SixR w m.s m.v ∧ VOk m.v) :
    Calls Try.prog 4 #[.int .u64 (u), .slice (al) ((ms.map Mg.c).length) (cl), .int .u64 (i), .int .u64 (op)] w (Ret (fun v w' => v = .bool true ∧ Ext w w')) := by
  obtain ⟨m8, hm8, hm80, hm87⟩ := eight u hu.1 hu.2
  have hn : 1 ≤ 1 + m8 ∧ 1 + m8 ≤ 8 := ⟨by omega, by omega⟩
  refine calls_run (n := 129) Try.func4 rfl rfl rfl ?_
  refine Run.seq ?_
  refine Run.region ?_
  refine RL.val (x_assignB rfl) ?_
  refine RL.nil ?_
  refine Run.seq ?_
  refine Run.region ?_
  refine RL.val (x_moveI rfl) ?_
  refine RL.val (x_rem rfl rfl (by decide)) ?_
  refine RL.val (litI (c := m8) (x_convI rfl ⟨_, Try.underlying22⟩ Try.underlying3) hm8) ?_
  refine RL.val (x_add rfl rfl (by omega) (by omega)) ?_
  refine RL.val (x_assignI rfl) ?_
  refine RL.nil ?_
  refine Run.seq ?_
  refine Run.region ?_
  refine RL.val (x_moveI rfl) ?_
  refine RL.st rfl <| St1.call (vals := [.int .i64 (1 + m8)]) en7 rfl (newD (1 + m8) _) ?_
  rintro _ w_3 (⟨hb_7, _, _⟩ | ⟨_, b_1, F_2, rfl, hS_4, hg_5, K_6⟩)
  · exact absurd hn hb_7
  have pg_8 : ∀ q_, F_2 q_ → w.heap.size ≤ q_ := fun q_ h => Nat.le_trans (Nat.le_refl _) (hg_5 q_ h)
  clear hg_5
  have K0 := (K_6 : Ext w _)
  refine RL.val (x_moveT rfl) ?_
  refine RL.val (x_extract rfl rfl) ?_
  refine RL.val (x_extract rfl rfl) ?_
  refine RL.val (x_assignP rfl) ?_
  refine RL.val (x_assignI rfl) ?_
  refine RL.nil ?_
  refine Run.seq ?_
  refine Run.seq ?_
  refine Run.region ?_
  refine RL.val (x_moveI rfl) ?_
  refine RL.val (litF (x_neI rfl rfl) (by decide)) ?_
  refine RL.val (x_moveB rfl) ?_
  refine RL.gst (wantedF1 rfl rfl rfl rfl) <| St1.val (x_moveP rfl) ?_
  refine RL.gst (wantedF1 rfl rfl rfl rfl) <| St1.val (litF (x_ptrNil Try.underlying24 rfl rfl) rfl) ?_
  refine RL.val (x_orF rfl rfl rfl) ?_
  refine RL.val (x_moveB rfl) ?_
  refine RL.gst (wantedF1 rfl rfl rfl rfl) <| St1.call (vals := []) en8 rfl (awake_ _) ?_
  rintro _ w_9 ⟨rfl, K_10⟩
  replace hS_4 := hS_4.ext K_10
  replace K0 := K0.ext K_10
  refine RL.gst (wantedF1 rfl rfl rfl rfl) <| St1.val (x_not (b := true) rfl) ?_
  refine RL.val (x_orF rfl rfl rfl) ?_
  refine RL.nil ?_
  refine Run.condF rfl ?_
  refine Run.skip ?_
  refine Run.seq ?_
  refine Run.region ?_
  refine RL.val (x_moveP rfl) ?_
  refine RL.val (x_moveSl rfl) ?_
  refine RL.st rfl <| St1.call (vals := [.slice (al) ((ms.map Mg.c).length) (cl)]) en10 rfl (msgs_ _ ms _ _ (hml0.ext K0) (fun m hm => ⟨(hms m hm).1.ext K0, (hms m hm).2⟩) hml) ?_
  rintro _ w_14 ⟨a_11, c_12, ks_13, rfl, ho_15, hQ_16, hkv_17, hg_18, hg_19, hap_20, K_21⟩
  have pr_22 : ∀ q_, own a_11 q_ → ¬ F_2 q_ := apartNew hg_18 hS_4.own_lt
  have pg_23 : ∀ q_, own a_11 q_ → w.heap.size ≤ q_ := fun q_ h => Nat.le_trans K0.size (hg_18 q_ h)
  have pr_24 : ∀ q_, mgsS ks_13 q_ → ¬ F_2 q_ := apartNew hg_19 hS_4.own_lt
  have pg_25 : ∀ q_, mgsS ks_13 q_ → w.heap.size ≤ q_ := fun q_ h => Nat.le_trans K0.size (hg_19 q_ h)
  clear hg_18 hg_19
  replace hS_4 := hS_4.ext K_21
  replace K0 := K0.ext K_21
  have hkl_ks_13 : ks_13.length = ms.length := by have := congrArg List.length hkv_17; simpa using this
  refine RL.st rfl <| St1.call (vals := [.pointer (some ⟨b_1, 0, none⟩), .slice (a_11) ((ks_13.map Pk.c).length) (c_12)]) en9 rfl (sendK hS_4 _ ks_13 _ ho_15.sl hQ_16 (fun x_ hx_ => pr_22 _ ⟨x_, hx_, rfl⟩) pr_24 (by omega) (by first | decide | assumption | omega)) ?_
  rintro _ w_27 ⟨F_26, rfl, hS_28, hm_29, K_30⟩
  have pr_31 : ∀ q_, F_26 q_ → ¬ own a_11 q_ := hm_29.apart (fun q_ h1 h2 => pr_22 q_ h2 h1) ho_15.own_lt
  have pr_32 : ∀ q_, F_26 q_ → ¬ mgsS ks_13 q_ := hm_29.apart (fun q_ h1 h2 => pr_24 q_ h2 h1) hQ_16.own_lt
  have pg_33 : ∀ q_, F_26 q_ → w.heap.size ≤ q_ := hm_29.ge pg_8 K0.size
  replace ho_15 := ho_15.keepO K_30 pr_22
  replace hQ_16 := hQ_16.keepO K_30 pr_24
  replace K0 := K0.new K_30 pg_8
  clear hm_29
  refine RL.nil ?_
  obtain ⟨hb1, hb2, hb3, hb4⟩ := sn_b (nodes := (1 + m8)) (id := 0) (pv := ([] : List (Int × MV))) (vs := ks_13.map Pk.v) (by simp) ks_13.length (by rw [List.length_map]; exact Nat.le_refl _)
  refine Run.seq ?_
  refine Run.region ?_
  refine RL.val (x_moveP rfl) ?_
  refine RL.st rfl <| St1.call (vals := [.pointer (some ⟨b_1, 0, none⟩)]) en15 rfl (packetsD hS_28 (by first | decide | assumption | omega)) ?_
  rintro _ w_37 ⟨a_34, c_35, ks_36, rfl, ho_38, hQ_39, hpe_40, hg_41, hg_42, hap_43, K_44⟩
  have pr_45 : ∀ q_, own a_34 q_ → ¬ own a_11 q_ := apartNew hg_41 ho_15.own_lt
  have pr_46 : ∀ q_, own a_34 q_ → ¬ mgsS ks_13 q_ := apartNew hg_41 hQ_16.own_lt
  have pr_47 : ∀ q_, own a_34 q_ → ¬ F_26 q_ := apartNew hg_41 hS_28.own_lt
  have pg_48 : ∀ q_, own a_34 q_ → w.heap.size ≤ q_ := fun q_ h => Nat.le_trans K0.size (hg_41 q_ h)
  have pr_49 : ∀ q_, mgsS ks_36 q_ → ¬ own a_11 q_ := apartNew hg_42 ho_15.own_lt
  have pr_50 : ∀ q_, mgsS ks_36 q_ → ¬ mgsS ks_13 q_ := apartNew hg_42 hQ_16.own_lt
  have pr_51 : ∀ q_, mgsS ks_36 q_ → ¬ F_26 q_ := apartNew hg_42 hS_28.own_lt
  have pg_52 : ∀ q_, mgsS ks_36 q_ → w.heap.size ≤ q_ := fun q_ h => Nat.le_trans K0.size (hg_42 q_ h)
  clear hg_41 hg_42
  have hkl_ks_36 : (ks_36.map Pk.k).length = ((snI (1 + m8) 0 ([] : List (Int × MV)) (ks_13.map Pk.v) ks_13.length).pv).length := by have := congrArg List.length hpe_40; simpa using this
  replace ho_15 := ho_15.ext K_44
  replace hQ_16 := hQ_16.ext K_44
  replace hS_28 := hS_28.ext K_44
  replace K0 := K0.ext K_44
  refine RL.val (x_assignSl rfl) ?_
  refine RL.nil ?_
  have hok0 := hS_28.ok
  have hlen0 := hok0.len
  have hkl : (ks_36.map Pk.k).length ≤ 512 := by omega
  have hkk : (ks_36.map Pk.k).length = ks_36.length := List.length_map ..
  have htwo : ∀ x ∈ (snI (1 + m8) 0 ([] : List (Int × MV)) (ks_13.map Pk.v) ks_13.length).pv, twoB (1 + m8) x.2.frm x.2.to = true := fun x hx => (sn_mem _ (by rw [List.length_map]; exact Nat.le_refl _) x hx).elim (fun h => absurd h (by simp)) (fun h => h.2.2)
  have hcap0 := ho_38.le_cap
  refine Run.seq ?_
  refine Run.seq ?_
  refine Run.region ?_
  refine RL.val (x_moveSl rfl) ?_
  refine RL.val (x_lenSl Try.underlying53 rfl) ?_
  refine RL.val (x_eqI rfl rfl) ?_
  refine RL.nil ?_
  refine Run.cond rfl (fun hc42 => ?_) (fun hc42 => ?_)
  · try simp only [br] at hc42
    refine Run.seq ?_
    refine Run.region ?_
    refine RL.val (x_assignB rfl) ?_
    refine RL.nil ?_
    refine Run.ret1 (v := .bool (true)) Try.func4 rfl rfl ?_
    exact ⟨_, rfl, rfl, K0⟩
  · try simp only [br] at hc42
    refine Run.skip ?_
    refine Run.seq ?_
    obtain ⟨hwl, k, hk, hkn⟩ := mod_len i hi.1 (ks_36.map Pk.k).length (by omega) (by omega)
    refine Run.region ?_
    refine RL.val (x_moveI rfl) ?_
    refine RL.val (x_moveSl rfl) ?_
    refine RL.val (x_lenSl Try.underlying53 rfl) ?_
    refine RL.val (litI (c := (((ks_36.map Pk.k).length : Nat) : Int)) (x_convI rfl ⟨_, Try.underlying3⟩ Try.underlying22) hwl) ?_
    refine RL.val (x_rem rfl rfl (by omega)) ?_
    refine RL.val (litI (c := ((k : Nat) : Int)) (x_convI rfl ⟨_, Try.underlying22⟩ Try.underlying3) hk) ?_
    refine RL.val (x_assignI rfl) ?_
    refine RL.nil ?_
    obtain ⟨x0, hx0⟩ : ∃ x, (ks_36.map Pk.k)[k]? = some x := ⟨_, List.getElem?_eq_getElem (by omega)⟩
    obtain ⟨p, hp, hxe_, hpp⟩ := pk_get hx0
    subst hxe_
    obtain ⟨hg1, hg2, hg3, hg4, hg5, hg6⟩ := apart_at hok0 hpe_40 htwo hp
    refine Run.seq ?_
    refine Run.seq ?_
    refine Run.region ?_
    refine RL.val (x_moveI rfl) ?_
    refine RL.val (x_rem rfl rfl (by decide)) ?_
    refine RL.nil ?_
    refine Run.block ?_
    refine Run.seq ?_
    refine Run.region ?_
    refine RL.val (x_eqI rfl rfl) ?_
    refine RL.val (x_assignB rfl) ?_
    refine RL.nil ?_
    refine Run.cond rfl (fun hc92 => ?_) (fun hc92 => ?_)
    · try simp only [br] at hc92
      refine Run.region ?_
      refine RL.val (x_moveP rfl) ?_
      refine RL.val (x_moveSl rfl) ?_
      refine RL.val (x_moveI rfl) ?_
      obtain ⟨b_53, o_54, x_57, hx_58, ha_55, hc_56⟩ := ho_38.sl.el (i := k) (by first | omega | (simp only [List.length_set]; omega))
      obtain rfl : (kC p.id p.v p.s) = x_57 := Option.some.inj (hx0.symm.trans hx_58)
      refine RL.val (x_idxN Try.underlying53 ty57 rfl rfl ha_55 (by first | omega | (simp only [List.length_set]; omega))) ?_
      refine RL.val (x_fld (o' := o_54 + k * 18 + 0) Try.underlying57 rfl ty3 rfl rfl rfl) ?_
      refine RL.val (litI (c := p.id) (x_ld ty3 rfl rfl (hc_56.field (i := 0) rfl)) rfl) ?_
      refine RL.st rfl <| St1.call (vals := [.pointer (some ⟨b_1, 0, none⟩), .int .i64 (p.id)]) en11 rfl (takeX hS_28 p.id) ?_
      rintro _ w_63 ⟨V_59, hV_60, F_61, s_62, rfl, hS_64, hO_65, hv_66, hin_67, hap_68, hm_69, K_70⟩
      have pr_72 : ∀ q_, ownS s_62 q_ → ¬ own a_11 q_ := fun q_ h_ => pr_31 q_ (hin_67 q_ h_)
      have pr_73 : ∀ q_, ownS s_62 q_ → ¬ mgsS ks_13 q_ := fun q_ h_ => pr_32 q_ (hin_67 q_ h_)
      have pr_74 : ∀ q_, ownS s_62 q_ → ¬ own a_34 q_ := fun q_ h_ => (fun q_ h1 h2 => pr_47 q_ h2 h1) q_ (hin_67 q_ h_)
      have pr_75 : ∀ q_, ownS s_62 q_ → ¬ mgsS ks_36 q_ := fun q_ h_ => (fun q_ h1 h2 => pr_51 q_ h2 h1) q_ (hin_67 q_ h_)
      have pr_76 : ∀ q_, F_61 q_ → ¬ own a_11 q_ := hm_69.apart pr_31 ho_15.own_lt
      have pr_77 : ∀ q_, F_61 q_ → ¬ mgsS ks_13 q_ := hm_69.apart pr_32 hQ_16.own_lt
      have pr_78 : ∀ q_, F_61 q_ → ¬ own a_34 q_ := hm_69.apart (fun q_ h1 h2 => pr_47 q_ h2 h1) ho_38.own_lt
      have pr_79 : ∀ q_, F_61 q_ → ¬ mgsS ks_36 q_ := hm_69.apart (fun q_ h1 h2 => pr_51 q_ h2 h1) hQ_39.own_lt
      have pg_80 : ∀ q_, F_61 q_ → w.heap.size ≤ q_ := hm_69.ge pg_33 K0.size
      replace ho_15 := ho_15.keepO K_70 (fun q_ h1 h2 => pr_31 q_ h2 h1)
      replace hQ_16 := hQ_16.keepO K_70 (fun q_ h1 h2 => pr_32 q_ h2 h1)
      replace ho_38 := ho_38.keepO K_70 pr_47
      replace hQ_39 := hQ_39.keepO K_70 pr_51
      replace hc_56 := hc_56.keep K_70 (fun h => pr_47 _ ((own_sub _) _ ha_55) h)
      replace K0 := K0.new K_70 pg_33
      clear hm_69
      have pg_81 : ∀ q_, ownS s_62 q_ → w.heap.size ≤ q_ := fun q_ h_ => pg_33 q_ (hin_67 q_ h_)
      refine RL.val (x_moveT rfl) ?_
      refine RL.val (x_extract rfl rfl) ?_
      refine RL.val (litI (c := 0) (x_extract rfl rfl) hg1) ?_
      refine RL.val (x_assignI rfl) ?_
      refine RL.nil ?_
      refine Run.inBlock ?_
      refine Run.seq ?_
      refine Run.drawT [] (m := 17) (by kernel_rfl) rfl ?_
      intro w_82 K_83
      replace ho_15 := ho_15.ext K_83
      replace hQ_16 := hQ_16.ext K_83
      replace ho_38 := ho_38.ext K_83
      replace hQ_39 := hQ_39.ext K_83
      replace hS_64 := hS_64.ext K_83
      replace hO_65 := hO_65.ext K_83
      replace K0 := K0.ext K_83
      refine ⟨fun w' => True, ?_⟩
      refine RT.takeP (v := .int .i64 (0)) 0 rfl (by kernel_rfl) (.inr trivial) (fun _ => (x_moveI rfl)) ?_
      refine RT.takeP (v := .bool (true)) 1 rfl (by kernel_rfl) (.inr trivial) (fun _ => (litT (x_eqI rfl rfl) (by decide))) ?_
      refine RT.takeP (v := .bool (true)) 2 rfl (by kernel_rfl) (.inr trivial) (fun _ => (x_moveB rfl)) ?_
      refine RT.gtakeP (v := .pointer (some ⟨b_1, 0, none⟩)) 3 rfl (by kernel_rfl) (.inr trivial) (wantedT1 rfl rfl rfl rfl) (fun hg _ => (x_moveP rfl)) ?_
      refine RT.gtakeP (v := .slice (a_34) ((ks_36.map Pk.k).length) (c_35)) 5 rfl (by kernel_rfl) (.inr trivial) (wantedT1 rfl rfl rfl rfl) (fun hg _ => (x_moveSl rfl)) ?_
      refine RT.gtakeP (v := .int .i64 (((k : Nat) : Int))) 6 rfl (by kernel_rfl) (.inr trivial) (wantedT1 rfl rfl rfl rfl) (fun hg _ => (x_moveI rfl)) ?_
      refine RT.gtakeP (v := .slice (a_34) (((ks_36.map Pk.k).take k).length) (c_35)) 7 rfl (by kernel_rfl) (.inr trivial) (wantedT1 rfl rfl rfl rfl) (fun hg _ => (litSl (m' := ((ks_36.map Pk.k).take k).length) (x_sliceTo Try.underlying53 ty57 rfl rfl (by omega)) (by rw [List.length_take]; omega))) ?_
      refine RT.gtakeP (v := .slice (a_34) ((ks_36.map Pk.k).length) (c_35)) 9 rfl (by kernel_rfl) (.inr trivial) (wantedT1 rfl rfl rfl rfl) (fun hg _ => (x_moveSl rfl)) ?_
      refine RT.gtakeP (v := .int .i64 (((k : Nat) : Int))) 10 rfl (by kernel_rfl) (.inr trivial) (wantedT1 rfl rfl rfl rfl) (fun hg _ => (x_moveI rfl)) ?_
      refine RT.gtakeP (v := .int .i64 (((k + 1 : Nat) : Int))) 11 rfl (by kernel_rfl) (.inr trivial) (wantedT1 rfl rfl rfl rfl) (fun hg _ => (litI (c := ((k + 1 : Nat) : Int)) (x_add rfl rfl (by omega) (by omega)) rfl)) ?_
      refine RT.gtakeP (v := .slice (advA a_34 c_35 (k + 1) 18) (((ks_36.map Pk.k).drop (k + 1)).length) (c_35 - (k + 1))) 12 rfl (by kernel_rfl) (.inr trivial) (wantedT1 rfl rfl rfl rfl) (fun hg _ => (x_sliceFrom (xs := ks_36.map Pk.k) Try.underlying53 ty57 rfl rfl (by omega))) ?_
      refine RT.gst 4 rfl (by kernel_rfl) (wantedT1 rfl rfl rfl rfl) <| St1.call (vals := [.pointer (some ⟨b_1, 0, none⟩)]) en15 rfl (packetsD hS_64 (by first | decide | assumption | omega)) ?_
      rintro _ w_87 ⟨a_84, c_85, ks_86, rfl, ho_88, hQ_89, hpe_90, hg_91, hg_92, hap_93, K_94⟩
      have pr_95 : ∀ q_, own a_84 q_ → ¬ own a_11 q_ := apartNew hg_91 ho_15.own_lt
      have pr_96 : ∀ q_, own a_84 q_ → ¬ mgsS ks_13 q_ := apartNew hg_91 hQ_16.own_lt
      have pr_97 : ∀ q_, own a_84 q_ → ¬ own a_34 q_ := apartNew hg_91 ho_38.own_lt
      have pr_98 : ∀ q_, own a_84 q_ → ¬ mgsS ks_36 q_ := apartNew hg_91 hQ_39.own_lt
      have pr_99 : ∀ q_, own a_84 q_ → ¬ F_61 q_ := apartNew hg_91 hS_64.own_lt
      have pr_100 : ∀ q_, own a_84 q_ → ¬ ownS s_62 q_ := apartNew hg_91 hO_65.own_lt
      have pg_101 : ∀ q_, own a_84 q_ → w.heap.size ≤ q_ := fun q_ h => Nat.le_trans K0.size (hg_91 q_ h)
      have pr_102 : ∀ q_, mgsS ks_86 q_ → ¬ own a_11 q_ := apartNew hg_92 ho_15.own_lt
      have pr_103 : ∀ q_, mgsS ks_86 q_ → ¬ mgsS ks_13 q_ := apartNew hg_92 hQ_16.own_lt
      have pr_104 : ∀ q_, mgsS ks_86 q_ → ¬ own a_34 q_ := apartNew hg_92 ho_38.own_lt
      have pr_105 : ∀ q_, mgsS ks_86 q_ → ¬ mgsS ks_36 q_ := apartNew hg_92 hQ_39.own_lt
      have pr_106 : ∀ q_, mgsS ks_86 q_ → ¬ F_61 q_ := apartNew hg_92 hS_64.own_lt
      have pr_107 : ∀ q_, mgsS ks_86 q_ → ¬ ownS s_62 q_ := apartNew hg_92 hO_65.own_lt
      have pg_108 : ∀ q_, mgsS ks_86 q_ → w.heap.size ≤ q_ := fun q_ h => Nat.le_trans K0.size (hg_92 q_ h)
      clear hg_91 hg_92
      have hkl_ks_86 : (ks_86.map Pk.k).length = (takeL (1 + m8) ([] : List LinkC) ((snI (1 + m8) 0 ([] : List (Int × MV)) (ks_13.map Pk.v) ks_13.length).pv) p.id).length := by have := congrArg List.length hpe_90; simpa using this
      replace ho_15 := ho_15.ext K_94
      replace hQ_16 := hQ_16.ext K_94
      replace ho_38 := ho_38.ext K_94
      replace hQ_39 := hQ_39.ext K_94
      replace hS_64 := hS_64.ext K_94
      replace hO_65 := hO_65.ext K_94
      replace K0 := K0.ext K_94
      refine ⟨.inr trivial, ?_⟩
      have ho_109 := OwnSl.nil (α := PacketC) w_87 57
      refine RT.gst 8 rfl (by kernel_rfl) (wantedT1 rfl rfl rfl rfl) <| St1.append (xs := ([] : List PacketC)) (ys := (ks_36.map Pk.k).take k) Try.underlying53 ty57 rfl rfl rfl ho_109 (ho_38.sl.take k) (by simp only [lr, List.length_take]; omega) (by decide) ?_
      intro a_110 c_111 w_112 ho_113 K_114 hm_115 hrm_116
      have pr_117 : ∀ q_, own a_110 q_ → ¬ own a_11 q_ := hm_115.apart (fun q_ h1 _ => own_none q_ h1) ho_15.own_lt
      have pr_118 : ∀ q_, own a_110 q_ → ¬ mgsS ks_13 q_ := hm_115.apart (fun q_ h1 _ => own_none q_ h1) hQ_16.own_lt
      have pr_119 : ∀ q_, own a_110 q_ → ¬ own a_34 q_ := hm_115.apart (fun q_ h1 _ => own_none q_ h1) ho_38.own_lt
      have pr_120 : ∀ q_, own a_110 q_ → ¬ mgsS ks_36 q_ := hm_115.apart (fun q_ h1 _ => own_none q_ h1) hQ_39.own_lt
      have pr_121 : ∀ q_, own a_110 q_ → ¬ F_61 q_ := hm_115.apart (fun q_ h1 _ => own_none q_ h1) hS_64.own_lt
      have pr_122 : ∀ q_, own a_110 q_ → ¬ ownS s_62 q_ := hm_115.apart (fun q_ h1 _ => own_none q_ h1) hO_65.own_lt
      have pr_123 : ∀ q_, own a_110 q_ → ¬ own a_84 q_ := hm_115.apart (fun q_ h1 _ => own_none q_ h1) ho_88.own_lt
      have pr_124 : ∀ q_, own a_110 q_ → ¬ mgsS ks_86 q_ := hm_115.apart (fun q_ h1 _ => own_none q_ h1) hQ_89.own_lt
      have pg_125 : ∀ q_, own a_110 q_ → w.heap.size ≤ q_ := hm_115.ge (fun q_ h1 => absurd h1 (own_none q_)) K0.size
      replace ho_15 := ho_15.keepO K_114 (fun q_ h1 h2 => (fun q_ h1 _ => own_none q_ h1) q_ h2 h1)
      replace hQ_16 := hQ_16.keepO K_114 (fun q_ h1 h2 => (fun q_ h1 _ => own_none q_ h1) q_ h2 h1)
      replace ho_38 := ho_38.keepO K_114 (fun q_ h1 h2 => (fun q_ h1 _ => own_none q_ h1) q_ h2 h1)
      replace hQ_39 := hQ_39.keepO K_114 (fun q_ h1 h2 => (fun q_ h1 _ => own_none q_ h1) q_ h2 h1)
      replace hS_64 := hS_64.keepO K_114 (fun q_ h1 h2 => (fun q_ h1 _ => own_none q_ h1) q_ h2 h1)
      replace hO_65 := hO_65.keepO K_114 (fun q_ h1 h2 => (fun q_ h1 _ => own_none q_ h1) q_ h2 h1)
      replace ho_88 := ho_88.keepO K_114 (fun q_ h1 h2 => (fun q_ h1 _ => own_none q_ h1) q_ h2 h1)
      replace hQ_89 := hQ_89.keepO K_114 (fun q_ h1 h2 => (fun q_ h1 _ => own_none q_ h1) q_ h2 h1)
      replace K0 := K0.new K_114 (fun q_ h1 => absurd h1 (own_none q_))
      clear hm_115
      clear hrm_116
      refine ⟨.inr trivial, ?_⟩
      refine RT.gst 13 rfl (by kernel_rfl) (wantedT1 rfl rfl rfl rfl) <| St1.append (xs := ([] : List PacketC) ++ (ks_36.map Pk.k).take k) (ys := (ks_36.map Pk.k).drop (k + 1)) Try.underlying53 ty57 rfl rfl rfl ho_113 (ho_38.sl.from (k + 1) c_35 (ho_38.le_cap)) (by simp only [lr, List.length_take, List.length_drop]; omega) (by decide) ?_
      intro a_126 c_127 w_128 ho_129 K_130 hm_131 hrm_132
      have pr_133 : ∀ q_, own a_126 q_ → ¬ own a_11 q_ := hm_131.apart pr_117 ho_15.own_lt
      have pr_134 : ∀ q_, own a_126 q_ → ¬ mgsS ks_13 q_ := hm_131.apart pr_118 hQ_16.own_lt
      have pr_135 : ∀ q_, own a_126 q_ → ¬ own a_34 q_ := hm_131.apart pr_119 ho_38.own_lt
      have pr_136 : ∀ q_, own a_126 q_ → ¬ mgsS ks_36 q_ := hm_131.apart pr_120 hQ_39.own_lt
      have pr_137 : ∀ q_, own a_126 q_ → ¬ F_61 q_ := hm_131.apart pr_121 hS_64.own_lt
      have pr_138 : ∀ q_, own a_126 q_ → ¬ ownS s_62 q_ := hm_131.apart pr_122 hO_65.own_lt
      have pr_139 : ∀ q_, own a_126 q_ → ¬ own a_84 q_ := hm_131.apart pr_123 ho_88.own_lt
      have pr_140 : ∀ q_, own a_126 q_ → ¬ mgsS ks_86 q_ := hm_131.apart pr_124 hQ_89.own_lt
      have pg_141 : ∀ q_, own a_126 q_ → w.heap.size ≤ q_ := hm_131.ge pg_125 K0.size
      replace ho_15 := ho_15.keepO K_130 (fun q_ h1 h2 => pr_117 q_ h2 h1)
      replace hQ_16 := hQ_16.keepO K_130 (fun q_ h1 h2 => pr_118 q_ h2 h1)
      replace ho_38 := ho_38.keepO K_130 (fun q_ h1 h2 => pr_119 q_ h2 h1)
      replace hQ_39 := hQ_39.keepO K_130 (fun q_ h1 h2 => pr_120 q_ h2 h1)
      replace hS_64 := hS_64.keepO K_130 (fun q_ h1 h2 => pr_121 q_ h2 h1)
      replace hO_65 := hO_65.keepO K_130 (fun q_ h1 h2 => pr_122 q_ h2 h1)
      replace ho_88 := ho_88.keepO K_130 (fun q_ h1 h2 => pr_123 q_ h2 h1)
      replace hQ_89 := hQ_89.keepO K_130 (fun q_ h1 h2 => pr_124 q_ h2 h1)
      replace K0 := K0.new K_130 pg_125
      clear hm_131
      clear hrm_132
      have e_ : (([] : List PacketC) ++ (ks_36.map Pk.k).take k) ++ (ks_36.map Pk.k).drop (k + 1) = (ks_36.take k ++ ks_36.drop (k + 1)).map Pk.k := by rw [List.nil_append, List.map_append, List.map_take, List.map_drop]
      rw [e_] at ho_129 ⊢
      refine ⟨.inr trivial, ?_⟩
      refine RT.gst 14 rfl (by kernel_rfl) (wantedT1 rfl rfl rfl rfl) <| St1.call (vals := [.slice (a_84) ((ks_86.map Pk.k).length) (c_85), .slice (a_126) (((ks_36.take k ++ ks_36.drop (k + 1)).map Pk.k).length) (c_127)]) en16 rfl (sameP_T (ks := ks_86) (us := (ks_36.take k ++ ks_36.drop (k + 1))) ho_88.sl ho_129.sl hQ_89 (hQ_39.sub (mid_subl _ _)) (by have h_ := congrArg List.length (hpe_90.trans hg2); simp only [List.length_map, List.length_append, List.length_take, List.length_drop] at h_; omega) (hpe_90.trans hg2)) ?_
      rintro _ w_142 ⟨rfl, K_143⟩
      replace ho_15 := ho_15.ext K_143
      replace hQ_16 := hQ_16.ext K_143
      replace ho_38 := ho_38.ext K_143
      replace hQ_39 := hQ_39.ext K_143
      replace hS_64 := hS_64.ext K_143
      replace hO_65 := hO_65.ext K_143
      replace ho_88 := ho_88.ext K_143
      replace hQ_89 := hQ_89.ext K_143
      replace ho_129 := ho_129.ext K_143
      replace K0 := K0.ext K_143
      refine ⟨.inr trivial, ?_⟩
      refine RT.takeP (v := .bool (true)) 15 rfl (by kernel_rfl) (.inr trivial) (fun _ => (x_andT rfl rfl rfl)) ?_
      refine RT.takeP (v := .bool (true)) 16 rfl (by kernel_rfl) (.inr trivial) (fun _ => (x_assignB rfl)) ?_
      refine RT.done (by kernel_rfl) ?_
      refine Run.ret1 (v := .bool (true)) Try.func4 rfl rfl ?_
      exact ⟨_, rfl, rfl, K0⟩
    · try simp only [br] at hc92
      refine Run.seq ?_
      refine Run.region ?_
      refine RL.val (x_eqI rfl rfl) ?_
      refine RL.val (x_assignB rfl) ?_
      refine RL.nil ?_
      refine Run.cond rfl (fun hc104 => ?_) (fun hc104 => ?_)
      · try simp only [br] at hc104
        refine Run.region ?_
        refine RL.val (x_moveP rfl) ?_
        refine RL.val (x_moveSl rfl) ?_
        refine RL.val (x_moveI rfl) ?_
        obtain ⟨b_144, o_145, x_148, hx_149, ha_146, hc_147⟩ := ho_38.sl.el (i := k) (by first | omega | (simp only [List.length_set]; omega))
        obtain rfl : (kC p.id p.v p.s) = x_148 := Option.some.inj (hx0.symm.trans hx_149)
        refine RL.val (x_idxN Try.underlying53 ty57 rfl rfl ha_146 (by first | omega | (simp only [List.length_set]; omega))) ?_
        refine RL.val (x_fld (o' := o_145 + k * 18 + 0) Try.underlying57 rfl ty3 rfl rfl rfl) ?_
        refine RL.val (litI (c := p.id) (x_ld ty3 rfl rfl (hc_147.field (i := 0) rfl)) rfl) ?_
        refine RL.st rfl <| St1.call (vals := [.pointer (some ⟨b_1, 0, none⟩), .int .i64 (p.id)]) en13 rfl (loseD hS_28 p.id) ?_
        rintro _ w_151 ⟨F_150, rfl, hS_152, hm_153, K_154⟩
        have pr_155 : ∀ q_, F_150 q_ → ¬ own a_11 q_ := hm_153.apart pr_31 ho_15.own_lt
        have pr_156 : ∀ q_, F_150 q_ → ¬ mgsS ks_13 q_ := hm_153.apart pr_32 hQ_16.own_lt
        have pr_157 : ∀ q_, F_150 q_ → ¬ own a_34 q_ := hm_153.apart (fun q_ h1 h2 => pr_47 q_ h2 h1) ho_38.own_lt
        have pr_158 : ∀ q_, F_150 q_ → ¬ mgsS ks_36 q_ := hm_153.apart (fun q_ h1 h2 => pr_51 q_ h2 h1) hQ_39.own_lt
        have pg_159 : ∀ q_, F_150 q_ → w.heap.size ≤ q_ := hm_153.ge pg_33 K0.size
        replace ho_15 := ho_15.keepO K_154 (fun q_ h1 h2 => pr_31 q_ h2 h1)
        replace hQ_16 := hQ_16.keepO K_154 (fun q_ h1 h2 => pr_32 q_ h2 h1)
        replace ho_38 := ho_38.keepO K_154 pr_47
        replace hQ_39 := hQ_39.keepO K_154 pr_51
        replace hc_147 := hc_147.keep K_154 (fun h => pr_47 _ ((own_sub _) _ ha_146) h)
        replace K0 := K0.new K_154 pg_33
        clear hm_153
        refine RL.val (litI (c := 0) (x_assignI rfl) hg3) ?_
        refine RL.nil ?_
        refine Run.inBlock ?_
        refine Run.seq ?_
        refine Run.drawT [] (m := 17) (by kernel_rfl) rfl ?_
        intro w_160 K_161
        replace ho_15 := ho_15.ext K_161
        replace hQ_16 := hQ_16.ext K_161
        replace ho_38 := ho_38.ext K_161
        replace hQ_39 := hQ_39.ext K_161
        replace hS_152 := hS_152.ext K_161
        replace K0 := K0.ext K_161
        refine ⟨fun w' => True, ?_⟩
        refine RT.takeP (v := .int .i64 (0)) 0 rfl (by kernel_rfl) (.inr trivial) (fun _ => (x_moveI rfl)) ?_
        refine RT.takeP (v := .bool (true)) 1 rfl (by kernel_rfl) (.inr trivial) (fun _ => (litT (x_eqI rfl rfl) (by decide))) ?_
        refine RT.takeP (v := .bool (true)) 2 rfl (by kernel_rfl) (.inr trivial) (fun _ => (x_moveB rfl)) ?_
        refine RT.gtakeP (v := .pointer (some ⟨b_1, 0, none⟩)) 3 rfl (by kernel_rfl) (.inr trivial) (wantedT1 rfl rfl rfl rfl) (fun hg _ => (x_moveP rfl)) ?_
        refine RT.gtakeP (v := .slice (a_34) ((ks_36.map Pk.k).length) (c_35)) 5 rfl (by kernel_rfl) (.inr trivial) (wantedT1 rfl rfl rfl rfl) (fun hg _ => (x_moveSl rfl)) ?_
        refine RT.gtakeP (v := .int .i64 (((k : Nat) : Int))) 6 rfl (by kernel_rfl) (.inr trivial) (wantedT1 rfl rfl rfl rfl) (fun hg _ => (x_moveI rfl)) ?_
        refine RT.gtakeP (v := .slice (a_34) (((ks_36.map Pk.k).take k).length) (c_35)) 7 rfl (by kernel_rfl) (.inr trivial) (wantedT1 rfl rfl rfl rfl) (fun hg _ => (litSl (m' := ((ks_36.map Pk.k).take k).length) (x_sliceTo Try.underlying53 ty57 rfl rfl (by omega)) (by rw [List.length_take]; omega))) ?_
        refine RT.gtakeP (v := .slice (a_34) ((ks_36.map Pk.k).length) (c_35)) 9 rfl (by kernel_rfl) (.inr trivial) (wantedT1 rfl rfl rfl rfl) (fun hg _ => (x_moveSl rfl)) ?_
        refine RT.gtakeP (v := .int .i64 (((k : Nat) : Int))) 10 rfl (by kernel_rfl) (.inr trivial) (wantedT1 rfl rfl rfl rfl) (fun hg _ => (x_moveI rfl)) ?_
        refine RT.gtakeP (v := .int .i64 (((k + 1 : Nat) : Int))) 11 rfl (by kernel_rfl) (.inr trivial) (wantedT1 rfl rfl rfl rfl) (fun hg _ => (litI (c := ((k + 1 : Nat) : Int)) (x_add rfl rfl (by omega) (by omega)) rfl)) ?_
        refine RT.gtakeP (v := .slice (advA a_34 c_35 (k + 1) 18) (((ks_36.map Pk.k).drop (k + 1)).length) (c_35 - (k + 1))) 12 rfl (by kernel_rfl) (.inr trivial) (wantedT1 rfl rfl rfl rfl) (fun hg _ => (x_sliceFrom (xs := ks_36.map Pk.k) Try.underlying53 ty57 rfl rfl (by omega))) ?_
        refine RT.gst 4 rfl (by kernel_rfl) (wantedT1 rfl rfl rfl rfl) <| St1.call (vals := [.pointer (some ⟨b_1, 0, none⟩)]) en15 rfl (packetsD hS_152 (by first | decide | assumption | omega)) ?_
        rintro _ w_165 ⟨a_162, c_163, ks_164, rfl, ho_166, hQ_167, hpe_168, hg_169, hg_170, hap_171, K_172⟩
        have pr_173 : ∀ q_, own a_162 q_ → ¬ own a_11 q_ := apartNew hg_169 ho_15.own_lt
        have pr_174 : ∀ q_, own a_162 q_ → ¬ mgsS ks_13 q_ := apartNew hg_169 hQ_16.own_lt
        have pr_175 : ∀ q_, own a_162 q_ → ¬ own a_34 q_ := apartNew hg_169 ho_38.own_lt
        have pr_176 : ∀ q_, own a_162 q_ → ¬ mgsS ks_36 q_ := apartNew hg_169 hQ_39.own_lt
        have pr_177 : ∀ q_, own a_162 q_ → ¬ F_150 q_ := apartNew hg_169 hS_152.own_lt
        have pg_178 : ∀ q_, own a_162 q_ → w.heap.size ≤ q_ := fun q_ h => Nat.le_trans K0.size (hg_169 q_ h)
        have pr_179 : ∀ q_, mgsS ks_164 q_ → ¬ own a_11 q_ := apartNew hg_170 ho_15.own_lt
        have pr_180 : ∀ q_, mgsS ks_164 q_ → ¬ mgsS ks_13 q_ := apartNew hg_170 hQ_16.own_lt
        have pr_181 : ∀ q_, mgsS ks_164 q_ → ¬ own a_34 q_ := apartNew hg_170 ho_38.own_lt
        have pr_182 : ∀ q_, mgsS ks_164 q_ → ¬ mgsS ks_36 q_ := apartNew hg_170 hQ_39.own_lt
        have pr_183 : ∀ q_, mgsS ks_164 q_ → ¬ F_150 q_ := apartNew hg_170 hS_152.own_lt
        have pg_184 : ∀ q_, mgsS ks_164 q_ → w.heap.size ≤ q_ := fun q_ h => Nat.le_trans K0.size (hg_170 q_ h)
        clear hg_169 hg_170
        have hkl_ks_164 : (ks_164.map Pk.k).length = (delP ((snI (1 + m8) 0 ([] : List (Int × MV)) (ks_13.map Pk.v) ks_13.length).pv) p.id).length := by have := congrArg List.length hpe_168; simpa using this
        replace ho_15 := ho_15.ext K_172
        replace hQ_16 := hQ_16.ext K_172
        replace ho_38 := ho_38.ext K_172
        replace hQ_39 := hQ_39.ext K_172
        replace hS_152 := hS_152.ext K_172
        replace K0 := K0.ext K_172
        refine ⟨.inr trivial, ?_⟩
        have ho_185 := OwnSl.nil (α := PacketC) w_165 57
        refine RT.gst 8 rfl (by kernel_rfl) (wantedT1 rfl rfl rfl rfl) <| St1.append (xs := ([] : List PacketC)) (ys := (ks_36.map Pk.k).take k) Try.underlying53 ty57 rfl rfl rfl ho_185 (ho_38.sl.take k) (by simp only [lr, List.length_take]; omega) (by decide) ?_
        intro a_186 c_187 w_188 ho_189 K_190 hm_191 hrm_192
        have pr_193 : ∀ q_, own a_186 q_ → ¬ own a_11 q_ := hm_191.apart (fun q_ h1 _ => own_none q_ h1) ho_15.own_lt
        have pr_194 : ∀ q_, own a_186 q_ → ¬ mgsS ks_13 q_ := hm_191.apart (fun q_ h1 _ => own_none q_ h1) hQ_16.own_lt
        have pr_195 : ∀ q_, own a_186 q_ → ¬ own a_34 q_ := hm_191.apart (fun q_ h1 _ => own_none q_ h1) ho_38.own_lt
        have pr_196 : ∀ q_, own a_186 q_ → ¬ mgsS ks_36 q_ := hm_191.apart (fun q_ h1 _ => own_none q_ h1) hQ_39.own_lt
        have pr_197 : ∀ q_, own a_186 q_ → ¬ F_150 q_ := hm_191.apart (fun q_ h1 _ => own_none q_ h1) hS_152.own_lt
        have pr_198 : ∀ q_, own a_186 q_ → ¬ own a_162 q_ := hm_191.apart (fun q_ h1 _ => own_none q_ h1) ho_166.own_lt
        have pr_199 : ∀ q_, own a_186 q_ → ¬ mgsS ks_164 q_ := hm_191.apart (fun q_ h1 _ => own_none q_ h1) hQ_167.own_lt
        have pg_200 : ∀ q_, own a_186 q_ → w.heap.size ≤ q_ := hm_191.ge (fun q_ h1 => absurd h1 (own_none q_)) K0.size
        replace ho_15 := ho_15.keepO K_190 (fun q_ h1 h2 => (fun q_ h1 _ => own_none q_ h1) q_ h2 h1)
        replace hQ_16 := hQ_16.keepO K_190 (fun q_ h1 h2 => (fun q_ h1 _ => own_none q_ h1) q_ h2 h1)
        replace ho_38 := ho_38.keepO K_190 (fun q_ h1 h2 => (fun q_ h1 _ => own_none q_ h1) q_ h2 h1)
        replace hQ_39 := hQ_39.keepO K_190 (fun q_ h1 h2 => (fun q_ h1 _ => own_none q_ h1) q_ h2 h1)
        replace hS_152 := hS_152.keepO K_190 (fun q_ h1 h2 => (fun q_ h1 _ => own_none q_ h1) q_ h2 h1)
        replace ho_166 := ho_166.keepO K_190 (fun q_ h1 h2 => (fun q_ h1 _ => own_none q_ h1) q_ h2 h1)
        replace hQ_167 := hQ_167.keepO K_190 (fun q_ h1 h2 => (fun q_ h1 _ => own_none q_ h1) q_ h2 h1)
        replace K0 := K0.new K_190 (fun q_ h1 => absurd h1 (own_none q_))
        clear hm_191
        clear hrm_192
        refine ⟨.inr trivial, ?_⟩
        refine RT.gst 13 rfl (by kernel_rfl) (wantedT1 rfl rfl rfl rfl) <| St1.append (xs := ([] : List PacketC) ++ (ks_36.map Pk.k).take k) (ys := (ks_36.map Pk.k).drop (k + 1)) Try.underlying53 ty57 rfl rfl rfl ho_189 (ho_38.sl.from (k + 1) c_35 (ho_38.le_cap)) (by simp only [lr, List.length_take, List.length_drop]; omega) (by decide) ?_
        intro a_201 c_202 w_203 ho_204 K_205 hm_206 hrm_207
        have pr_208 : ∀ q_, own a_201 q_ → ¬ own a_11 q_ := hm_206.apart pr_193 ho_15.own_lt
        have pr_209 : ∀ q_, own a_201 q_ → ¬ mgsS ks_13 q_ := hm_206.apart pr_194 hQ_16.own_lt
        have pr_210 : ∀ q_, own a_201 q_ → ¬ own a_34 q_ := hm_206.apart pr_195 ho_38.own_lt
        have pr_211 : ∀ q_, own a_201 q_ → ¬ mgsS ks_36 q_ := hm_206.apart pr_196 hQ_39.own_lt
        have pr_212 : ∀ q_, own a_201 q_ → ¬ F_150 q_ := hm_206.apart pr_197 hS_152.own_lt
        have pr_213 : ∀ q_, own a_201 q_ → ¬ own a_162 q_ := hm_206.apart pr_198 ho_166.own_lt
        have pr_214 : ∀ q_, own a_201 q_ → ¬ mgsS ks_164 q_ := hm_206.apart pr_199 hQ_167.own_lt
        have pg_215 : ∀ q_, own a_201 q_ → w.heap.size ≤ q_ := hm_206.ge pg_200 K0.size
        replace ho_15 := ho_15.keepO K_205 (fun q_ h1 h2 => pr_193 q_ h2 h1)
        replace hQ_16 := hQ_16.keepO K_205 (fun q_ h1 h2 => pr_194 q_ h2 h1)
        replace ho_38 := ho_38.keepO K_205 (fun q_ h1 h2 => pr_195 q_ h2 h1)
        replace hQ_39 := hQ_39.keepO K_205 (fun q_ h1 h2 => pr_196 q_ h2 h1)
        replace hS_152 := hS_152.keepO K_205 (fun q_ h1 h2 => pr_197 q_ h2 h1)
        replace ho_166 := ho_166.keepO K_205 (fun q_ h1 h2 => pr_198 q_ h2 h1)
        replace hQ_167 := hQ_167.keepO K_205 (fun q_ h1 h2 => pr_199 q_ h2 h1)
        replace K0 := K0.new K_205 pg_200
        clear hm_206
        clear hrm_207
        have e_ : (([] : List PacketC) ++ (ks_36.map Pk.k).take k) ++ (ks_36.map Pk.k).drop (k + 1) = (ks_36.take k ++ ks_36.drop (k + 1)).map Pk.k := by rw [List.nil_append, List.map_append, List.map_take, List.map_drop]
        rw [e_] at ho_204 ⊢
        refine ⟨.inr trivial, ?_⟩
        refine RT.gst 14 rfl (by kernel_rfl) (wantedT1 rfl rfl rfl rfl) <| St1.call (vals := [.slice (a_162) ((ks_164.map Pk.k).length) (c_163), .slice (a_201) (((ks_36.take k ++ ks_36.drop (k + 1)).map Pk.k).length) (c_202)]) en16 rfl (sameP_T (ks := ks_164) (us := (ks_36.take k ++ ks_36.drop (k + 1))) ho_166.sl ho_204.sl hQ_167 (hQ_39.sub (mid_subl _ _)) (by have h_ := congrArg List.length (hpe_168.trans hg4); simp only [List.length_map, List.length_append, List.length_take, List.length_drop] at h_; omega) (hpe_168.trans hg4)) ?_
        rintro _ w_216 ⟨rfl, K_217⟩
        replace ho_15 := ho_15.ext K_217
        replace hQ_16 := hQ_16.ext K_217
        replace ho_38 := ho_38.ext K_217
        replace hQ_39 := hQ_39.ext K_217
        replace hS_152 := hS_152.ext K_217
        replace ho_166 := ho_166.ext K_217
        replace hQ_167 := hQ_167.ext K_217
        replace ho_204 := ho_204.ext K_217
        replace K0 := K0.ext K_217
        refine ⟨.inr trivial, ?_⟩
        refine RT.takeP (v := .bool (true)) 15 rfl (by kernel_rfl) (.inr trivial) (fun _ => (x_andT rfl rfl rfl)) ?_
        refine RT.takeP (v := .bool (true)) 16 rfl (by kernel_rfl) (.inr trivial) (fun _ => (x_assignB rfl)) ?_
        refine RT.done (by kernel_rfl) ?_
        refine Run.ret1 (v := .bool (true)) Try.func4 rfl rfl ?_
        exact ⟨_, rfl, rfl, K0⟩
      · try simp only [br] at hc104
        refine Run.seq ?_
        refine Run.seq ?_
        refine Run.region ?_
        refine RL.val (x_moveP rfl) ?_
        refine RL.val (x_moveSl rfl) ?_
        refine RL.val (x_moveI rfl) ?_
        obtain ⟨b_218, o_219, x_222, hx_223, ha_220, hc_221⟩ := ho_38.sl.el (i := k) (by first | omega | (simp only [List.length_set]; omega))
        obtain rfl : (kC p.id p.v p.s) = x_222 := Option.some.inj (hx0.symm.trans hx_223)
        refine RL.val (x_idxN Try.underlying53 ty57 rfl rfl ha_220 (by first | omega | (simp only [List.length_set]; omega))) ?_
        refine RL.val (x_fld (o' := o_219 + k * 18 + 0) Try.underlying57 rfl ty3 rfl rfl rfl) ?_
        refine RL.val (litI (c := p.id) (x_ld ty3 rfl rfl (hc_221.field (i := 0) rfl)) rfl) ?_
        refine RL.st rfl <| St1.call (vals := [.pointer (some ⟨b_1, 0, none⟩), .int .i64 (p.id)]) en14 rfl (twiceD hS_28 p.id (by first | decide | assumption | omega)) ?_
        rintro _ w_225 ⟨F_224, rfl, hS_226, hm_227, K_228⟩
        have pr_229 : ∀ q_, F_224 q_ → ¬ own a_11 q_ := hm_227.apart pr_31 ho_15.own_lt
        have pr_230 : ∀ q_, F_224 q_ → ¬ mgsS ks_13 q_ := hm_227.apart pr_32 hQ_16.own_lt
        have pr_231 : ∀ q_, F_224 q_ → ¬ own a_34 q_ := hm_227.apart (fun q_ h1 h2 => pr_47 q_ h2 h1) ho_38.own_lt
        have pr_232 : ∀ q_, F_224 q_ → ¬ mgsS ks_36 q_ := hm_227.apart (fun q_ h1 h2 => pr_51 q_ h2 h1) hQ_39.own_lt
        have pg_233 : ∀ q_, F_224 q_ → w.heap.size ≤ q_ := hm_227.ge pg_33 K0.size
        replace ho_15 := ho_15.keepO K_228 (fun q_ h1 h2 => pr_31 q_ h2 h1)
        replace hQ_16 := hQ_16.keepO K_228 (fun q_ h1 h2 => pr_32 q_ h2 h1)
        replace ho_38 := ho_38.keepO K_228 pr_47
        replace hQ_39 := hQ_39.keepO K_228 pr_51
        replace hc_221 := hc_221.keep K_228 (fun h => pr_47 _ ((own_sub _) _ ha_220) h)
        replace K0 := K0.new K_228 pg_33
        clear hm_227
        refine RL.val (x_neI rfl rfl) ?_
        refine RL.nil ?_
        refine Run.cond rfl (fun hc58 => ?_) (fun hc58 => ?_)
        · try simp only [br] at hc58
          refine Run.seq ?_
          refine Run.region ?_
          refine RL.val (x_moveSl rfl) ?_
          refine RL.val (x_lenSl Try.underlying53 rfl) ?_
          refine RL.val (litT (x_eqI rfl rfl) (by have h_ := hg5 hc58; simp only [beq_iff_eq]; omega)) ?_
          refine RL.val (x_assignB rfl) ?_
          refine RL.nil ?_
          refine Run.ret1 (v := .bool (true)) Try.func4 rfl rfl ?_
          exact ⟨_, rfl, rfl, K0⟩
        · try simp only [br] at hc58
          refine Run.skip ?_
          refine Run.seq ?_
          have hn := twiceN_le ((snI (1 + m8) 0 ([] : List (Int × MV)) (ks_13.map Pk.v) ks_13.length).id) ((snI (1 + m8) 0 ([] : List (Int × MV)) (ks_13.map Pk.v) ks_13.length).pv) p.id
          refine Run.region ?_
          refine RL.val (x_moveP rfl) ?_
          refine RL.st rfl <| St1.call (vals := [.pointer (some ⟨b_1, 0, none⟩)]) en15 rfl (packetsD hS_226 (by first | decide | assumption | omega)) ?_
          rintro _ w_237 ⟨a_234, c_235, ks_236, rfl, ho_238, hQ_239, hpe_240, hg_241, hg_242, hap_243, K_244⟩
          have pr_245 : ∀ q_, own a_234 q_ → ¬ own a_11 q_ := apartNew hg_241 ho_15.own_lt
          have pr_246 : ∀ q_, own a_234 q_ → ¬ mgsS ks_13 q_ := apartNew hg_241 hQ_16.own_lt
          have pr_247 : ∀ q_, own a_234 q_ → ¬ own a_34 q_ := apartNew hg_241 ho_38.own_lt
          have pr_248 : ∀ q_, own a_234 q_ → ¬ mgsS ks_36 q_ := apartNew hg_241 hQ_39.own_lt
          have pr_249 : ∀ q_, own a_234 q_ → ¬ F_224 q_ := apartNew hg_241 hS_226.own_lt
          have pg_250 : ∀ q_, own a_234 q_ → w.heap.size ≤ q_ := fun q_ h => Nat.le_trans K0.size (hg_241 q_ h)
          have pr_251 : ∀ q_, mgsS ks_236 q_ → ¬ own a_11 q_ := apartNew hg_242 ho_15.own_lt
          have pr_252 : ∀ q_, mgsS ks_236 q_ → ¬ mgsS ks_13 q_ := apartNew hg_242 hQ_16.own_lt
          have pr_253 : ∀ q_, mgsS ks_236 q_ → ¬ own a_34 q_ := apartNew hg_242 ho_38.own_lt
          have pr_254 : ∀ q_, mgsS ks_236 q_ → ¬ mgsS ks_36 q_ := apartNew hg_242 hQ_39.own_lt
          have pr_255 : ∀ q_, mgsS ks_236 q_ → ¬ F_224 q_ := apartNew hg_242 hS_226.own_lt
          have pg_256 : ∀ q_, mgsS ks_236 q_ → w.heap.size ≤ q_ := fun q_ h => Nat.le_trans K0.size (hg_242 q_ h)
          clear hg_241 hg_242
          have hkl_ks_236 : (ks_236.map Pk.k).length = (twiceL ((snI (1 + m8) 0 ([] : List (Int × MV)) (ks_13.map Pk.v) ks_13.length).id) ((snI (1 + m8) 0 ([] : List (Int × MV)) (ks_13.map Pk.v) ks_13.length).pv) p.id).length := by have := congrArg List.length hpe_240; simpa using this
          replace ho_15 := ho_15.ext K_244
          replace hQ_16 := hQ_16.ext K_244
          replace ho_38 := ho_38.ext K_244
          replace hQ_39 := hQ_39.ext K_244
          replace hS_226 := hS_226.ext K_244
          replace K0 := K0.ext K_244
          refine RL.val (x_assignSl rfl) ?_
          refine RL.nil ?_
          have hcap_ := ho_238.le_cap
          have hpe2 := hpe_240.trans (hg6 hc58)
          have hul : (ks_236.map Pk.k).length = (ks_36.map Pk.k).length + 1 := by have h_ := congrArg List.length hpe2; simp only [List.length_map, List.length_append, List.length_singleton] at h_ ⊢; exact h_
          obtain ⟨y0, hy0⟩ : ∃ x, (ks_236.map Pk.k)[(ks_36.map Pk.k).length]? = some x := ⟨_, List.getElem?_eq_getElem (by omega)⟩
          obtain ⟨q, hq, hye_, hqp⟩ := pk_get hy0
          subst hye_
          have hqe := apart_last hpe2 hq
          have hqv : q.v = p.v := congrArg Prod.snd hqe
          refine Run.seq ?_
          obtain ⟨b_257, o_258, y1, hy1, ha_259, hc_260⟩ := ho_238.sl.el (i := (ks_36.map Pk.k).length) (by omega)
          obtain rfl : (kC q.id q.v q.s) = y1 := Option.some.inj (hy0.symm.trans hy1)
          obtain ⟨b_263, o_264, y2, hy2, ha_265, hc_266⟩ := ho_38.sl.el (i := k) (by omega)
          obtain rfl : (kC p.id p.v p.s) = y2 := Option.some.inj (hx0.symm.trans hy2)
          refine Run.drawT [] (m := 29) (by kernel_rfl) rfl ?_
          intro w_269 K_270
          replace ho_15 := ho_15.ext K_270
          replace hQ_16 := hQ_16.ext K_270
          replace ho_38 := ho_38.ext K_270
          replace hQ_39 := hQ_39.ext K_270
          replace hS_226 := hS_226.ext K_270
          replace ho_238 := ho_238.ext K_270
          replace hQ_239 := hQ_239.ext K_270
          replace hc_260 := hc_260.ext K_270
          replace hc_266 := hc_266.ext K_270
          replace K0 := K0.ext K_270
          refine ⟨fun w' => Cl w' b_257 (o_258 + (ks_36.map Pk.k).length * 18) (cellsOf (kC q.id q.v q.s)) ∧ Cl w' b_263 (o_264 + k * 18) (cellsOf (kC p.id p.v p.s)) ∧ True, ?_⟩
          refine RT.takeP (v := .slice (a_234) ((ks_236.map Pk.k).length) (c_235)) 0 rfl (by kernel_rfl) (.inr ⟨hc_260, hc_266, trivial⟩) (fun _ => (x_moveSl rfl)) ?_
          refine RT.takeP (v := .int .i64 ((((ks_236.map Pk.k).length : Nat) : Int))) 1 rfl (by kernel_rfl) (.inr ⟨hc_260, hc_266, trivial⟩) (fun _ => (x_lenSl Try.underlying53 rfl)) ?_
          refine RT.takeP (v := .slice (a_34) ((ks_36.map Pk.k).length) (c_35)) 2 rfl (by kernel_rfl) (.inr ⟨hc_260, hc_266, trivial⟩) (fun _ => (x_moveSl rfl)) ?_
          refine RT.takeP (v := .int .i64 ((((ks_36.map Pk.k).length : Nat) : Int))) 3 rfl (by kernel_rfl) (.inr ⟨hc_260, hc_266, trivial⟩) (fun _ => (x_lenSl Try.underlying53 rfl)) ?_
          refine RT.takeP (v := .int .i64 (((((ks_36.map Pk.k).length) + 1 : Nat) : Int))) 4 rfl (by kernel_rfl) (.inr ⟨hc_260, hc_266, trivial⟩) (fun _ => (litI (c := ((((ks_36.map Pk.k).length) + 1 : Nat) : Int)) (x_add rfl rfl (by omega) (by omega)) rfl)) ?_
          refine RT.takeP (v := .bool (true)) 5 rfl (by kernel_rfl) (.inr ⟨hc_260, hc_266, trivial⟩) (fun _ => (litT (x_eqI rfl rfl) (by simp only [beq_iff_eq]; omega))) ?_
          refine RT.takeP (v := .bool (true)) 6 rfl (by kernel_rfl) (.inr ⟨hc_260, hc_266, trivial⟩) (fun _ => (x_moveB rfl)) ?_
          refine RT.gtakeP (v := .slice (a_234) ((ks_236.map Pk.k).length) (c_235)) 7 rfl (by kernel_rfl) (.inr ⟨hc_260, hc_266, trivial⟩) (wantedT1 rfl rfl rfl rfl) (fun hg _ => (x_moveSl rfl)) ?_
          refine RT.gtakeP (v := .slice (a_34) ((ks_36.map Pk.k).length) (c_35)) 8 rfl (by kernel_rfl) (.inr ⟨hc_260, hc_266, trivial⟩) (wantedT1 rfl rfl rfl rfl) (fun hg _ => (x_moveSl rfl)) ?_
          refine RT.gtakeP (v := .int .i64 ((((ks_36.map Pk.k).length : Nat) : Int))) 9 rfl (by kernel_rfl) (.inr ⟨hc_260, hc_266, trivial⟩) (wantedT1 rfl rfl rfl rfl) (fun hg _ => (x_lenSl Try.underlying53 rfl)) ?_
          refine RT.gtakeP (v := .slice (a_234) (((ks_236.take (ks_36.map Pk.k).length).map Pk.k).length) (c_235)) 10 rfl (by kernel_rfl) (.inr ⟨hc_260, hc_266, trivial⟩) (wantedT1 rfl rfl rfl rfl) (fun hg _ => (litSl (m' := ((ks_236.take (ks_36.map Pk.k).length).map Pk.k).length) (litSl (m' := ((ks_236.map Pk.k).take ((ks_36.map Pk.k).length)).length) (x_sliceTo Try.underlying53 ty57 rfl rfl (by omega)) (by rw [List.length_take]; omega)) (by rw [List.map_take]))) ?_
          refine RT.gtakeP (v := .slice (a_34) ((ks_36.map Pk.k).length) (c_35)) 11 rfl (by kernel_rfl) (.inr ⟨hc_260, hc_266, trivial⟩) (wantedT1 rfl rfl rfl rfl) (fun hg _ => (x_moveSl rfl)) ?_
          refine RT.gst 12 rfl (by kernel_rfl) (wantedT1 rfl rfl rfl rfl) <| St1.call (vals := [.slice (a_234) (((ks_236.take (ks_36.map Pk.k).length).map Pk.k).length) (c_235), .slice (a_34) ((ks_36.map Pk.k).length) (c_35)]) en16 rfl (sameP_T (ks := (ks_236.take (ks_36.map Pk.k).length)) (us := ks_36) (by rw [List.map_take]; exact (ho_238.sl.take ((ks_36.map Pk.k).length))) ho_38.sl (hQ_239.sub (List.take_sublist _ _)) hQ_39 (by rw [List.length_take]; omega) (apart_front hpe2)) ?_
          rintro _ w_271 ⟨rfl, K_272⟩
          replace ho_15 := ho_15.ext K_272
          replace hQ_16 := hQ_16.ext K_272
          replace ho_38 := ho_38.ext K_272
          replace hQ_39 := hQ_39.ext K_272
          replace hS_226 := hS_226.ext K_272
          replace ho_238 := ho_238.ext K_272
          replace hQ_239 := hQ_239.ext K_272
          replace hc_260 := hc_260.ext K_272
          replace hc_266 := hc_266.ext K_272
          replace K0 := K0.ext K_272
          refine ⟨.inr ⟨hc_260, hc_266, trivial⟩, ?_⟩
          refine RT.takeP (v := .bool (true)) 13 rfl (by kernel_rfl) (.inr ⟨hc_260, hc_266, trivial⟩) (fun _ => (x_andT rfl rfl rfl)) ?_
          refine RT.takeP (v := .bool (true)) 14 rfl (by kernel_rfl) (.inr ⟨hc_260, hc_266, trivial⟩) (fun _ => (x_moveB rfl)) ?_
          refine RT.gtakeP (v := .slice (a_234) ((ks_236.map Pk.k).length) (c_235)) 15 rfl (by kernel_rfl) (.inr ⟨hc_260, hc_266, trivial⟩) (wantedT1 rfl rfl rfl rfl) (fun hg _ => (x_moveSl rfl)) ?_
          refine RT.gtakeP (v := .slice (a_34) ((ks_36.map Pk.k).length) (c_35)) 16 rfl (by kernel_rfl) (.inr ⟨hc_260, hc_266, trivial⟩) (wantedT1 rfl rfl rfl rfl) (fun hg _ => (x_moveSl rfl)) ?_
          refine RT.gtakeP (v := .int .i64 ((((ks_36.map Pk.k).length : Nat) : Int))) 17 rfl (by kernel_rfl) (.inr ⟨hc_260, hc_266, trivial⟩) (wantedT1 rfl rfl rfl rfl) (fun hg _ => (x_lenSl Try.underlying53 rfl)) ?_
          refine RT.gtakeP (v := .pointer (some ⟨b_257, o_258 + (ks_36.map Pk.k).length * 18, none⟩)) 18 rfl (by kernel_rfl) (.inr ⟨hc_260, hc_266, trivial⟩) (wantedT1 rfl rfl rfl rfl) (fun hg _ => (x_idxN Try.underlying53 ty57 rfl rfl ha_259 (by first | omega | (simp only [List.length_set]; omega)))) ?_
          refine RT.gtakeP (v := .pointer (some ⟨b_257, o_258 + (ks_36.map Pk.k).length * 18 + 1, none⟩)) 19 rfl (by kernel_rfl) (.inr ⟨hc_260, hc_266, trivial⟩) (wantedT1 rfl rfl rfl rfl) (fun hg _ => (x_fld (o' := o_258 + (ks_36.map Pk.k).length * 18 + 1) Try.underlying57 rfl ty48 rfl rfl rfl)) ?_
          refine RT.gtake (v := .agg #[.int .i64 (((mkC q.v q.s)).kind), .int .i64 (((mkC q.v q.s)).frm), .int .i64 (((mkC q.v q.s)).to), .int .i64 (((mkC q.v q.s)).req), .string (((mkC q.v q.s)).key), .slice (q.s.ea) (q.v.ent.length) (q.s.ec), .slice (q.s.ma) (q.v.mrk.length) (q.s.mc), .slice (q.s.ca) (q.v.cl.length) (q.s.cc), .int .i64 (((mkC q.v q.s)).owner), .int .i64 (((mkC q.v q.s)).part), .int .i64 (((mkC q.v q.s)).n), .int .i64 ((((mkC q.v q.s)).ring).parts), .int .i64 ((((mkC q.v q.s)).ring).copies), .int .i64 ((((mkC q.v q.s)).ring).spots), .slice (q.s.ba) (q.v.mem.length) (q.s.bc), .slice (q.s.pa) (q.v.pe.length) (q.s.pc), .slice (q.s.sa) (q.v.su.length) (q.s.sc)]) 20 rfl (by kernel_rfl) ⟨hc_260, hc_266, trivial⟩ (wantedT1 rfl rfl rfl rfl) (fun hg => by rintro _ ⟨hc_260, hc_266, -⟩; exact (litV (v' := .agg #[.int .i64 (((mkC q.v q.s)).kind), .int .i64 (((mkC q.v q.s)).frm), .int .i64 (((mkC q.v q.s)).to), .int .i64 (((mkC q.v q.s)).req), .string (((mkC q.v q.s)).key), .slice (q.s.ea) (q.v.ent.length) (q.s.ec), .slice (q.s.ma) (q.v.mrk.length) (q.s.mc), .slice (q.s.ca) (q.v.cl.length) (q.s.cc), .int .i64 (((mkC q.v q.s)).owner), .int .i64 (((mkC q.v q.s)).part), .int .i64 (((mkC q.v q.s)).n), .int .i64 ((((mkC q.v q.s)).ring).parts), .int .i64 ((((mkC q.v q.s)).ring).copies), .int .i64 ((((mkC q.v q.s)).ring).spots), .slice (q.s.ba) (q.v.mem.length) (q.s.bc), .slice (q.s.pa) (q.v.pe.length) (q.s.pc), .slice (q.s.sa) (q.v.su.length) (q.s.sc)]) (x_lds (cs := #[.int .i64 ((((kC q.id q.v q.s)).msg).kind), .int .i64 ((((kC q.id q.v q.s)).msg).frm), .int .i64 ((((kC q.id q.v q.s)).msg).to), .int .i64 ((((kC q.id q.v q.s)).msg).req), .string ((((kC q.id q.v q.s)).msg).key), .slice (q.s.ea) (q.v.ent.length) (q.s.ec), .slice (q.s.ma) (q.v.mrk.length) (q.s.mc), .slice (q.s.ca) (q.v.cl.length) (q.s.cc), .int .i64 ((((kC q.id q.v q.s)).msg).owner), .int .i64 ((((kC q.id q.v q.s)).msg).part), .int .i64 ((((kC q.id q.v q.s)).msg).n), .int .i64 (((((kC q.id q.v q.s)).msg).ring).parts), .int .i64 (((((kC q.id q.v q.s)).msg).ring).copies), .int .i64 (((((kC q.id q.v q.s)).msg).ring).spots), .slice (q.s.ba) (q.v.mem.length) (q.s.bc), .slice (q.s.pa) (q.v.pe.length) (q.s.pc), .slice (q.s.sa) (q.v.su.length) (q.s.sc)]) ty48 rfl rfl (hc_260.drop 1 17)) rfl)) ?_
          refine RT.gtakeP (v := .slice (a_34) ((ks_36.map Pk.k).length) (c_35)) 21 rfl (by kernel_rfl) (.inr ⟨hc_260, hc_266, trivial⟩) (wantedT1 rfl rfl rfl rfl) (fun hg _ => (x_moveSl rfl)) ?_
          refine RT.gtakeP (v := .int .i64 (((k : Nat) : Int))) 22 rfl (by kernel_rfl) (.inr ⟨hc_260, hc_266, trivial⟩) (wantedT1 rfl rfl rfl rfl) (fun hg _ => (x_moveI rfl)) ?_
          refine RT.gtakeP (v := .pointer (some ⟨b_263, o_264 + k * 18, none⟩)) 23 rfl (by kernel_rfl) (.inr ⟨hc_260, hc_266, trivial⟩) (wantedT1 rfl rfl rfl rfl) (fun hg _ => (x_idxN Try.underlying53 ty57 rfl rfl ha_265 (by first | omega | (simp only [List.length_set]; omega)))) ?_
          refine RT.gtakeP (v := .pointer (some ⟨b_263, o_264 + k * 18 + 1, none⟩)) 24 rfl (by kernel_rfl) (.inr ⟨hc_260, hc_266, trivial⟩) (wantedT1 rfl rfl rfl rfl) (fun hg _ => (x_fld (o' := o_264 + k * 18 + 1) Try.underlying57 rfl ty48 rfl rfl rfl)) ?_
          refine RT.gtake (v := .agg #[.int .i64 (((mkC p.v p.s)).kind), .int .i64 (((mkC p.v p.s)).frm), .int .i64 (((mkC p.v p.s)).to), .int .i64 (((mkC p.v p.s)).req), .string (((mkC p.v p.s)).key), .slice (p.s.ea) (p.v.ent.length) (p.s.ec), .slice (p.s.ma) (p.v.mrk.length) (p.s.mc), .slice (p.s.ca) (p.v.cl.length) (p.s.cc), .int .i64 (((mkC p.v p.s)).owner), .int .i64 (((mkC p.v p.s)).part), .int .i64 (((mkC p.v p.s)).n), .int .i64 ((((mkC p.v p.s)).ring).parts), .int .i64 ((((mkC p.v p.s)).ring).copies), .int .i64 ((((mkC p.v p.s)).ring).spots), .slice (p.s.ba) (p.v.mem.length) (p.s.bc), .slice (p.s.pa) (p.v.pe.length) (p.s.pc), .slice (p.s.sa) (p.v.su.length) (p.s.sc)]) 25 rfl (by kernel_rfl) ⟨hc_260, hc_266, trivial⟩ (wantedT1 rfl rfl rfl rfl) (fun hg => by rintro _ ⟨hc_260, hc_266, -⟩; exact (litV (v' := .agg #[.int .i64 (((mkC p.v p.s)).kind), .int .i64 (((mkC p.v p.s)).frm), .int .i64 (((mkC p.v p.s)).to), .int .i64 (((mkC p.v p.s)).req), .string (((mkC p.v p.s)).key), .slice (p.s.ea) (p.v.ent.length) (p.s.ec), .slice (p.s.ma) (p.v.mrk.length) (p.s.mc), .slice (p.s.ca) (p.v.cl.length) (p.s.cc), .int .i64 (((mkC p.v p.s)).owner), .int .i64 (((mkC p.v p.s)).part), .int .i64 (((mkC p.v p.s)).n), .int .i64 ((((mkC p.v p.s)).ring).parts), .int .i64 ((((mkC p.v p.s)).ring).copies), .int .i64 ((((mkC p.v p.s)).ring).spots), .slice (p.s.ba) (p.v.mem.length) (p.s.bc), .slice (p.s.pa) (p.v.pe.length) (p.s.pc), .slice (p.s.sa) (p.v.su.length) (p.s.sc)]) (x_lds (cs := #[.int .i64 ((((kC p.id p.v p.s)).msg).kind), .int .i64 ((((kC p.id p.v p.s)).msg).frm), .int .i64 ((((kC p.id p.v p.s)).msg).to), .int .i64 ((((kC p.id p.v p.s)).msg).req), .string ((((kC p.id p.v p.s)).msg).key), .slice (p.s.ea) (p.v.ent.length) (p.s.ec), .slice (p.s.ma) (p.v.mrk.length) (p.s.mc), .slice (p.s.ca) (p.v.cl.length) (p.s.cc), .int .i64 ((((kC p.id p.v p.s)).msg).owner), .int .i64 ((((kC p.id p.v p.s)).msg).part), .int .i64 ((((kC p.id p.v p.s)).msg).n), .int .i64 (((((kC p.id p.v p.s)).msg).ring).parts), .int .i64 (((((kC p.id p.v p.s)).msg).ring).copies), .int .i64 (((((kC p.id p.v p.s)).msg).ring).spots), .slice (p.s.ba) (p.v.mem.length) (p.s.bc), .slice (p.s.pa) (p.v.pe.length) (p.s.pc), .slice (p.s.sa) (p.v.su.length) (p.s.sc)]) ty48 rfl rfl (hc_266.drop 1 17)) rfl)) ?_
          refine RT.gst 26 rfl (by kernel_rfl) (wantedT1 rfl rfl rfl rfl) <| St1.call (vals := [.agg #[.int .i64 (((mkC q.v q.s)).kind), .int .i64 (((mkC q.v q.s)).frm), .int .i64 (((mkC q.v q.s)).to), .int .i64 (((mkC q.v q.s)).req), .string (((mkC q.v q.s)).key), .slice (q.s.ea) (q.v.ent.length) (q.s.ec), .slice (q.s.ma) (q.v.mrk.length) (q.s.mc), .slice (q.s.ca) (q.v.cl.length) (q.s.cc), .int .i64 (((mkC q.v q.s)).owner), .int .i64 (((mkC q.v q.s)).part), .int .i64 (((mkC q.v q.s)).n), .int .i64 ((((mkC q.v q.s)).ring).parts), .int .i64 ((((mkC q.v q.s)).ring).copies), .int .i64 ((((mkC q.v q.s)).ring).spots), .slice (q.s.ba) (q.v.mem.length) (q.s.bc), .slice (q.s.pa) (q.v.pe.length) (q.s.pc), .slice (q.s.sa) (q.v.su.length) (q.s.sc)], .agg #[.int .i64 (((mkC p.v p.s)).kind), .int .i64 (((mkC p.v p.s)).frm), .int .i64 (((mkC p.v p.s)).to), .int .i64 (((mkC p.v p.s)).req), .string (((mkC p.v p.s)).key), .slice (p.s.ea) (p.v.ent.length) (p.s.ec), .slice (p.s.ma) (p.v.mrk.length) (p.s.mc), .slice (p.s.ca) (p.v.cl.length) (p.s.cc), .int .i64 (((mkC p.v p.s)).owner), .int .i64 (((mkC p.v p.s)).part), .int .i64 (((mkC p.v p.s)).n), .int .i64 ((((mkC p.v p.s)).ring).parts), .int .i64 ((((mkC p.v p.s)).ring).copies), .int .i64 ((((mkC p.v p.s)).ring).spots), .slice (p.s.ba) (p.v.mem.length) (p.s.bc), .slice (p.s.pa) (p.v.pe.length) (p.s.pc), .slice (p.s.sa) (p.v.su.length) (p.s.sc)]]) en17 rfl (sameM_T (sameMsg_ q.v p.v q.s p.s _ ((hQ_239.all q (List.mem_of_getElem? hq)).own.r) ((hQ_39.all p (List.mem_of_getElem? hp)).own.r) (hQ_239.all q (List.mem_of_getElem? hq)).ok) hqv) ?_
          rintro _ w_273 ⟨rfl, K_274⟩
          replace ho_15 := ho_15.ext K_274
          replace hQ_16 := hQ_16.ext K_274
          replace ho_38 := ho_38.ext K_274
          replace hQ_39 := hQ_39.ext K_274
          replace hS_226 := hS_226.ext K_274
          replace ho_238 := ho_238.ext K_274
          replace hQ_239 := hQ_239.ext K_274
          replace hc_260 := hc_260.ext K_274
          replace hc_266 := hc_266.ext K_274
          replace K0 := K0.ext K_274
          refine ⟨.inr ⟨hc_260, hc_266, trivial⟩, ?_⟩
          refine RT.takeP (v := .bool (true)) 27 rfl (by kernel_rfl) (.inr ⟨hc_260, hc_266, trivial⟩) (fun _ => (x_andT rfl rfl rfl)) ?_
          refine RT.takeP (v := .bool (true)) 28 rfl (by kernel_rfl) (.inr ⟨hc_260, hc_266, trivial⟩) (fun _ => (x_assignB rfl)) ?_
          refine RT.done (by kernel_rfl) ?_
          refine Run.ret1 (v := .bool (true)) Try.func4 rfl rfl ?_
          exact ⟨_, rfl, rfl, K0⟩

end Go.Proofs.Ytdlaoncjiolckaa
