/-
  DiskBegins.
-/
import Derived.Test.YtambibdkanpmaaaRows
import Derived.Test.YtambibdkanpmaaaDl
namespace Go.Proofs.Ytambibdkanpmaaa
attribute [local irreducible] St1 RL RA RT RT1 Run

def cutC (t : TearC) : TearC := ⟨t.name, t.keep, ⟨none, 0, 0⟩⟩
def cutP (p : PTear) : PTear := ⟨p.name, p.keep, []⟩
theorem cuts_at {w w' : World} {ts : List TearC} {pts : List PTear} (h : TearsAt w ts pts) (i : Nat) : TearsAt w' ((ts.take i).map cutC) ((pts.take i).map cutP) := by
  refine ⟨by simp [h.len], fun j t p ht hp => ?_, fun p hp => ?_⟩
  · rw [List.getElem?_map, Option.map_eq_some_iff] at ht hp
    obtain ⟨x, hx, rfl⟩ := ht
    obtain ⟨y, hy, rfl⟩ := hp
    rw [List.getElem?_take] at hx hy
    split at hx
    · rename_i hj
      rw [if_pos hj] at hy
      obtain ⟨h1, h2, _⟩ := h.all j x y hx hy
      exact ⟨h1, h2, rfl, SlOf.nil _ _⟩
    · cases hx
  · obtain ⟨q, hq, rfl⟩ := List.mem_map.1 hp
    have := h.size q (List.mem_of_mem_take hq)
    exact ⟨this.1, Nat.zero_le _, this.2.2⟩
theorem cut_junk {pts : List PTear} {i : Nat} : ∀ t ∈ (pts.take i).map cutP, t.junk = [] := fun t ht => by obtain ⟨q, _, rfl⟩ := List.mem_map.1 ht; rfl
theorem cut_snoc {ts : List TearC} {i : Nat} {t : TearC} (h : ts[i]? = some t) : (ts.take i).map cutC ++ [(⟨t.name, t.keep, ⟨none, 0, 0⟩⟩ : TearC)] = (ts.take (i + 1)).map cutC := by rw [take_snoc h, List.map_append]; rfl
theorem tears_nil (w : World) : TearsAt w ([] : List TearC) [] := ⟨rfl, fun i t p h _ => by simp at h, fun p h => by simp at h⟩

theorem en15 : Enters Try.prog 15 := enters_of Try.func15 rfl (by kernel_rfl)

set_option maxRecDepth 100000 in
set_option maxHeartbeats 4000000 in
theorem law_begins (room : Int) (a1 : Option Addr) (os : List DoC) (c1 : Nat) (ps : List DoP) (a3 : Option Addr) (ts : List TearC) (c3 : Nat) (pts : List PTear) (w : World) (hs1 : SlOf w a1 os) (hps : DosAt w os ps) (hl1 : os.length ≤ 4294967295) (hs3 : SlOf w a3 ts) (ht : TearsAt w ts pts) (hl3 : ts.length ≤ 4294967295) :
    Calls Try.prog 9 #[.int .i64 (room), .slice (a1) (os.length) (c1), .slice (a3) (ts.length) (c3)] w (Ret (fun v w' => v = .bool true ∧ Ext w w')) := by
  refine calls_run (n := 116) Try.func9 rfl rfl rfl ?_
  refine Run.seq ?_
  refine Run.region ?_
  refine RL.val (x_assignB rfl) ?_
  refine RL.nil ?_
  refine Run.seq ?_
  refine Run.region ?_
  refine RL.val (x_moveI rfl) ?_
  refine RL.val (x_moveSl rfl) ?_
  refine RL.st rfl <| St1.call (vals := [.int .i64 (room), .slice (a1) (os.length) (c1)]) en10 rfl (begun_ _ _ _ _ ps _ hs1 hps (by omega)) ?_
  rintro _ w_3 (⟨hnr, rfl, K_6⟩ | ⟨hrm, d_1, F_2, rfl, hD_4, hg_5, K_6⟩)
  · have K0 := (K_6 : Ext w _)
    refine RL.val (x_assignP rfl) ?_
    refine RL.nil ?_
    refine Run.seq ?_
    refine Run.seq ?_
    refine Run.region ?_
    refine RL.val (x_moveP rfl) ?_
    refine RL.val (litT (x_ptrNil Try.underlying23 rfl rfl) rfl) ?_
    refine RL.val (x_moveB rfl) ?_
    refine RL.guardF (wantedF0 rfl rfl rfl rfl) ?_
    refine RL.guardF (wantedF0 rfl rfl rfl rfl) ?_
    refine RL.val (x_or (b := true) (e := false) rfl rfl rfl) ?_
    refine RL.nil ?_
    refine Run.condT rfl ?_
    refine Run.seq ?_
    refine Run.region ?_
    refine RL.st rfl <| St1.call (vals := []) en11 rfl (awake_ _) ?_
    rintro _ w_7 ⟨rfl, K_8⟩
    replace K0 := K0.ext K_8
    refine RL.val (x_assignB rfl) ?_
    refine RL.nil ?_
    refine Run.ret1 (v := .bool (true)) Try.func9 rfl rfl ?_
    exact ⟨_, rfl, by first | rfl | (rw [crash_names, decide_eq_true rfl]), K0⟩
  · have pg_9 : ∀ q_, F_2 q_ → w.heap.size ≤ q_ := fun q_ h => Nat.le_trans (Nat.le_refl _) (hg_5 q_ h)
    clear hg_5
    have K0 := (K_6 : Ext w _)
    refine RL.val (x_assignP rfl) ?_
    refine RL.nil ?_
    refine Run.seq ?_
    refine Run.seq ?_
    refine Run.region ?_
    refine RL.val (x_moveP rfl) ?_
    refine RL.val (litF (x_ptrNil Try.underlying23 rfl rfl) rfl) ?_
    refine RL.val (x_moveB rfl) ?_
    refine RL.gst (wantedF1 rfl rfl rfl rfl) <| St1.call (vals := []) en11 rfl (awake_ _) ?_
    rintro _ w_10 ⟨rfl, K_11⟩
    replace hD_4 := hD_4.ext K_11
    replace K0 := K0.ext K_11
    refine RL.gst (wantedF1 rfl rfl rfl rfl) <| St1.val (x_not rfl) ?_
    refine RL.val (x_orF rfl rfl rfl) ?_
    refine RL.nil ?_
    refine Run.condF rfl ?_
    refine Run.skip ?_
    refine Run.seq ?_
    refine Run.region ?_
    refine RL.val (x_assignSl rfl) ?_
    refine RL.nil ?_
    refine Run.seq ?_
    refine Run.seq ?_
    refine Run.region ?_
    refine RL.val (x_moveSl rfl) ?_
    refine RL.val (x_lenSl Try.underlying32 rfl) ?_
    refine RL.val (x_moveI rfl) ?_
    refine RL.nil ?_
    refine Run.block ?_
    refine Run.loop (ι := Nat) (fun i ρ' w' => ∃ ao : Option Addr, ∃ co : Nat, Holds ρ' [(7, .pointer (some ⟨d_1, 0, none⟩)), (8, .slice (ao) (((ts.take i).map cutC).length) (co)), (32, .slice (a3) (ts.length) (c3)), (33, .int .i64 (((ts.length : Nat) : Int))), (34, .int .i64 (((i : Nat) : Int)))] ∧ Ext w w' ∧ (DiskAt w' d_1 F_2 room (begunL room ps)) ∧ (OwnSl w' 70 ao co ((ts.take i).map cutC)) ∧ (∀ q_, own ao q_ → ¬ F_2 q_) ∧ (∀ q_, own ao q_ → w.heap.size ≤ q_) ∧ (i ≤ ts.length)) (fun i => ts.length - i) 0 ?_ ?_
    · have ho_17 := OwnSl.nil (α := TearC) w_10 70
      refine ⟨_, _, ⟨rfl, rfl, rfl, rfl, rfl, trivial⟩, K0, hD_4, ho_17, (fun q_ h1 _ => own_none q_ h1), (fun q_ h1 => absurd h1 (own_none q_)), ?_⟩
      · omega
    clear hD_4
    clear K0
    rintro i ρ_18 w_12 ⟨ao, co, hH_13, K0, hD_4, ho_14, pr_15, pr_16, hi⟩ ih1
    obtain ⟨ρ₀, rfl⟩ := hH_13.ex
    clear hH_13
    refine Run.seq ?_
    refine Run.region ?_
    refine RL.val (x_ltI rfl rfl) ?_
    refine RL.nil ?_
    refine Run.seq ?_
    refine Run.cond rfl (fun hc35 => ?_) (fun hc35 => ?_)
    · try simp only [br] at hc35
      refine Run.skip ?_
      refine Run.seq ?_
      refine Run.block ?_
      refine Run.seq ?_
      refine Run.region ?_
      obtain ⟨b_19, o_20, t, hx, ha_21, hc_22⟩ := hs3.el (i := i) (by first | omega | (simp only [List.length_set]; omega))
      have hc_22_lt := hc_22.lt
      replace hc_22 := hc_22.ext K0
      refine RL.val (x_idxN Try.underlying32 ty70 rfl rfl ha_21 (by first | omega | (simp only [List.length_set]; omega))) ?_
      refine RL.val (x_ldV (v := .agg #[.string ((t).name), .int .i64 ((t).keep), .slice ((t).junk.a) ((t).junk.len) ((t).junk.cap)]) (y := t) ty70 rfl hc_22 rfl) ?_
      refine RL.st rfl <| St1.alloc ty70 ?_
      intro b_25 w_26 hl_29 hb_28 K_27
      replace hb_28 : Blk w_26 b_25 [.string (⟨#[]⟩), .int .i64 (0), .slice (none) (0) (0)] 70 := hb_28
      have ne_30 : b_19 < b_25 := Nat.lt_of_lt_of_le hc_22.lt hl_29
      have pr_31 : ¬ F_2 b_25 := fun h => absurd (hD_4.own_lt _ h) (by omega)
      have pr_32 : ¬ own ao b_25 := fun h => absurd (ho_14.own_lt _ h) (by omega)
      have : w.heap.size ≤ b_25 := Nat.le_trans K0.size hl_29
      clear hl_29
      replace hD_4 := hD_4.ext K_27
      replace ho_14 := ho_14.ext K_27
      replace hc_22 := hc_22.ext K_27
      replace K0 := K0.ext K_27
      refine RL.st rfl <| St1.store (v := .agg #[.string ((t).name), .int .i64 ((t).keep), .slice ((t).junk.a) ((t).junk.len) ((t).junk.cap)]) ty70 rfl rfl rfl (by simp [Value.cells, Value.oneCell']) hb_28 (by simp) ?_
      intro w_33 hb_28_ K_34
      have hb_28' : Blk w_33 b_25 [.string ((t).name), .int .i64 ((t).keep), .slice ((t).junk.a) ((t).junk.len) ((t).junk.cap)] 70 := hb_28_
      clear hb_28_
      replace hD_4 := hD_4.keepO K_34 (fun q_ hq_ eq_ => pr_31 (by simp only [one] at eq_; rw [← eq_]; exact hq_))
      replace ho_14 := ho_14.keepO K_34 (fun q_ hq_ eq_ => pr_32 (by simp only [one] at eq_; rw [← eq_]; exact hq_))
      replace hc_22 := hc_22.keep K_34 (by simp only [one]; omega)
      replace K0 := K0.new K_34 (fun x hx => by simp only [one] at hx; omega)
      replace hb_28 := hb_28'
      clear hb_28'
      refine RL.nil ?_
      refine Run.region ?_
      refine RL.val (x_moveSl rfl) ?_
      refine RL.val (x_fld (o' := 0) Try.underlying70 rfl ty9 rfl rfl rfl) ?_
      refine RL.val (x_ld (v := .string ((t).name)) ty9 rfl rfl (hb_28.cl.field (i := 0) rfl)) ?_
      refine RL.val (x_fld (o' := 1) Try.underlying70 rfl ty3 rfl rfl rfl) ?_
      refine RL.val (x_ld (v := .int .i64 ((t).keep)) ty3 rfl rfl (hb_28.cl.field (i := 1) rfl)) ?_
      refine RL.val (x_build (cells := #[.string ((t).name), .int .i64 ((t).keep), .slice (none) (0) (0)]) (by kernel_rfl)) ?_
      refine RL.st rfl <| St1.buildSlice ([(⟨(t).name, (t).keep, ⟨none, 0, 0⟩⟩ : TearC)] : List TearC) Try.underlying32 ty70 rfl rfl (by first | decide | (simp [Enc.size])) ?_
      intro b_35 w_36 hl_39 ho_38 K_37
      have pr_40 : ∀ q_, own (some ⟨b_35, 0, none⟩) q_ → ¬ F_2 q_ := apartNew (ge_new hl_39) hD_4.own_lt
      have pr_41 : ∀ q_, own (some ⟨b_35, 0, none⟩) q_ → ¬ own ao q_ := apartNew (ge_new hl_39) ho_14.own_lt
      have pr_42 : ¬ own (some ⟨b_35, 0, none⟩) b_25 := notNew (ge_new hl_39) hb_28.lt
      have pg_43 : ∀ q_, own (some ⟨b_35, 0, none⟩) q_ → w.heap.size ≤ q_ := fun q_ h => Nat.le_trans K0.size ((ge_new hl_39) q_ h)
      clear hl_39
      replace hD_4 := hD_4.ext K_37
      replace ho_14 := ho_14.ext K_37
      replace hb_28 := hb_28.ext K_37
      replace K0 := K0.ext K_37
      refine RL.st rfl <| St1.append (xs := (ts.take i).map cutC) (ys := ([(⟨(t).name, (t).keep, ⟨none, 0, 0⟩⟩ : TearC)] : List TearC)) Try.underlying32 ty70 rfl rfl rfl ho_14 ho_38.sl (by rw [List.length_map, List.length_take]; simp only [lr]; omega) (by decide) ?_
      intro a_44 c_45 w_46 ho_47 K_48 hm_49 hrm_50
      have pr_51 : ∀ q_, own a_44 q_ → ¬ F_2 q_ := hm_49.apart pr_15 hD_4.own_lt
      have pr_52 : ¬ own a_44 b_25 := hm_49.not pr_32 hb_28.lt
      have pr_53 : ∀ q_, own a_44 q_ → ¬ own (some ⟨b_35, 0, none⟩) q_ := hm_49.apart (fun q_ h1 h2 => pr_41 q_ h2 h1) ho_38.own_lt
      have pg_54 : ∀ q_, own a_44 q_ → w.heap.size ≤ q_ := hm_49.ge pr_16 K0.size
      replace hD_4 := hD_4.keepO K_48 (fun q_ h1 h2 => pr_15 q_ h2 h1)
      replace hb_28 := hb_28.keep K_48 pr_32
      replace ho_38 := ho_38.keepO K_48 pr_41
      replace K0 := K0.new K_48 pr_16
      clear hm_49
      clear hrm_50
      refine RL.val (x_assignSl rfl) ?_
      refine RL.nil ?_
      rw [cut_snoc hx] at ho_47 ⊢
      refine Run.inBlock ?_
      refine Run.region ?_
      refine RL.val (litI (c := ((i + 1 : Nat) : Int)) (x_add rfl rfl (by omega) (by omega)) rfl) ?_
      refine RL.val (x_moveI rfl) ?_
      refine RL.nil ?_
      refine ih1 (i + 1) _ _ ?_ (by omega)
      refine ⟨_, _, ⟨rfl, rfl, rfl, rfl, rfl, trivial⟩, K0, hD_4, ho_47, pr_51, pg_54, ?_⟩
      · omega
    · try simp only [br] at hc35
      refine Run.exit rfl ?_
      refine Run.seq ?_
      refine Run.region ?_
      refine RL.val (x_moveP rfl) ?_
      refine RL.st rfl <| St1.call (vals := [.pointer (some ⟨d_1, 0, none⟩)]) en16 rfl (copyD hD_4) ?_
      rintro _ w_57 ⟨d_55, F_56, rfl, hD_58, hg_59, K_60⟩
      have pr_61 : ∀ q_, F_56 q_ → ¬ F_2 q_ := apartNew hg_59 hD_4.own_lt
      have pr_62 : ∀ q_, F_56 q_ → ¬ own ao q_ := apartNew hg_59 ho_14.own_lt
      have pg_63 : ∀ q_, F_56 q_ → w.heap.size ≤ q_ := fun q_ h => Nat.le_trans K0.size (hg_59 q_ h)
      clear hg_59
      replace hD_4 := hD_4.ext K_60
      replace ho_14 := ho_14.ext K_60
      replace K0 := K0.ext K_60
      refine RL.val (x_assignP rfl) ?_
      refine RL.nil ?_
      refine Run.seq ?_
      refine Run.seq ?_
      refine Run.region ?_
      refine RL.val (x_moveP rfl) ?_
      refine RL.val (litF (x_ptrNil Try.underlying23 rfl rfl) rfl) ?_
      refine RL.nil ?_
      refine Run.condF rfl ?_
      refine Run.skip ?_
      refine Run.seq ?_
      refine Run.seq ?_
      have hcl : ((ts.take i).map cutC).length ≤ 4294967295 := by rw [List.length_map]; have := List.length_take_le i ts; omega
      refine Run.region ?_
      refine RL.val (x_moveP rfl) ?_
      refine RL.val (x_moveSl rfl) ?_
      refine RL.st rfl <| St1.call (vals := [.pointer (some ⟨d_1, 0, none⟩), .slice (ao) (((ts.take i).map cutC).length) (co)]) en23 rfl (crashD hD_4 _ _ _ ((pts.take i).map cutP) ho_14.sl (cuts_at ht i) (by first | omega | decide)) ?_
      rintro _ w_65 ⟨F_64, rfl, hD_66, hm_67, K_68⟩
      have pr_69 : ∀ q_, F_64 q_ → ¬ own ao q_ := hm_67.apart (fun q_ h1 h2 => pr_15 q_ h2 h1) ho_14.own_lt
      have pr_70 : ∀ q_, F_64 q_ → ¬ F_56 q_ := hm_67.apart (fun q_ h1 h2 => pr_61 q_ h2 h1) hD_58.own_lt
      have pg_71 : ∀ q_, F_64 q_ → w.heap.size ≤ q_ := hm_67.ge pg_9 K0.size
      replace ho_14 := ho_14.keepO K_68 pr_15
      replace hD_58 := hD_58.keepO K_68 pr_61
      replace K0 := K0.new K_68 pg_9
      clear hm_67
      refine RL.val (x_neI rfl rfl) ?_
      refine RL.nil ?_
      refine Run.cond rfl (fun hc54 => ?_) (fun hc54 => ?_)
      · try simp only [br] at hc54
        refine Run.seq ?_
        refine Run.region ?_
        refine RL.val (x_moveP rfl) ?_
        refine RL.val (x_moveP rfl) ?_
        refine RL.st rfl <| St1.call (vals := [.pointer (some ⟨d_1, 0, none⟩), .pointer (some ⟨d_55, 0, none⟩), .bool (true)]) en34 rfl (alikeTwo_ _ _ _ _ _ _ _ _ true _ hD_66 hD_58 (by rw [crashL_no hc54]; exact Alike.refl _ _)) ?_
        rintro _ w_72 ⟨rfl, K_73⟩
        replace ho_14 := ho_14.ext K_73
        replace hD_58 := hD_58.ext K_73
        replace hD_66 := hD_66.ext K_73
        replace K0 := K0.ext K_73
        refine RL.val (x_assignB rfl) ?_
        refine RL.nil ?_
        refine Run.ret1 (v := .bool (true)) Try.func9 rfl rfl ?_
        exact ⟨_, rfl, by first | rfl | (rw [crash_names, decide_eq_true rfl]), K0⟩
      · try simp only [br] at hc54
        have hok0 := (hD_58).ok
        have hnl0 := names_len hok0
        have hnx : (namesS (crashL (begunL room ps) ((pts.take i).map cutP))).length ≤ 64 := by rw [crash_names]; exact hnl0
        refine Run.skip ?_
        refine Run.seq ?_
        refine Run.seq ?_
        refine Run.region ?_
        refine RL.val (x_moveP rfl) ?_
        refine RL.st rfl <| St1.call (vals := [.pointer (some ⟨d_55, 0, none⟩)]) en17 rfl (filesD hD_58) ?_
        rintro _ w_76 ⟨a_74, c_75, rfl, ho_77, hg_78, K_79⟩
        have pr_80 : ∀ q_, own a_74 q_ → ¬ own ao q_ := apartNew hg_78 ho_14.own_lt
        have pr_81 : ∀ q_, own a_74 q_ → ¬ F_56 q_ := apartNew hg_78 hD_58.own_lt
        have pr_82 : ∀ q_, own a_74 q_ → ¬ F_64 q_ := apartNew hg_78 hD_66.own_lt
        have pg_83 : ∀ q_, own a_74 q_ → w.heap.size ≤ q_ := fun q_ h => Nat.le_trans K0.size (hg_78 q_ h)
        clear hg_78
        replace ho_14 := ho_14.ext K_79
        replace hD_58 := hD_58.ext K_79
        replace hD_66 := hD_66.ext K_79
        replace K0 := K0.ext K_79
        refine RL.val (x_lenSl Try.underlying40 rfl) ?_
        refine RL.val (x_moveI rfl) ?_
        refine RL.nil ?_
        refine Run.block ?_
        refine Run.loop (ι := Nat) (fun k ρ' w' => Holds ρ' [(7, .pointer (some ⟨d_1, 0, none⟩)), (11, .pointer (some ⟨d_55, 0, none⟩)), (59, .slice (a_74) ((namesS (begunL room ps)).length) (c_75)), (60, .int .i64 ((((namesS (begunL room ps)).length : Nat) : Int))), (61, .int .i64 (((k : Nat) : Int)))] ∧ Ext w w' ∧ (OwnSl w' 70 (ao) (co) ((ts.take i).map cutC)) ∧ (DiskAt w' d_55 F_56 room (begunL room ps)) ∧ (DiskAt w' d_1 F_64 room (crashL (begunL room ps) ((pts.take i).map cutP))) ∧ (OwnSl w' 9 (a_74) (c_75) (namesS (begunL room ps))) ∧ (k ≤ (namesS (begunL room ps)).length)) (fun k => (namesS (begunL room ps)).length - k) 0 ?_ ?_
        · refine ⟨⟨rfl, rfl, rfl, rfl, rfl, trivial⟩, K0, ho_14, hD_58, hD_66, ho_77, ?_⟩
          · omega
        clear ho_14 hD_58 hD_66 ho_77
        clear K0
        rintro k ρ_86 w_84 ⟨hH_85, K0, ho_14, hD_58, hD_66, ho_77, hk⟩ ih2
        obtain ⟨ρ₀, rfl⟩ := hH_85.ex
        clear hH_85
        refine Run.seq ?_
        refine Run.region ?_
        refine RL.val (x_ltI rfl rfl) ?_
        refine RL.nil ?_
        refine Run.seq ?_
        refine Run.cond rfl (fun hc62 => ?_) (fun hc62 => ?_)
        · try simp only [br] at hc62
          refine Run.skip ?_
          refine Run.seq ?_
          refine Run.block ?_
          refine Run.seq ?_
          refine Run.region ?_
          obtain ⟨b_87, o_88, s, hx, ha_89, hc_90⟩ := ho_77.sl.el (i := k) (by first | omega | (simp only [List.length_set]; omega))
          refine RL.val (x_idxN Try.underlying40 ty9 rfl rfl ha_89 (by first | omega | (simp only [List.length_set]; omega))) ?_
          refine RL.val (x_ldV (v := .string (s)) (y := s) ty9 rfl hc_90 rfl) ?_
          refine RL.val (x_assignS rfl) ?_
          refine RL.nil ?_
          have hns := names_size hok0 (List.mem_of_getElem? hx)
          have hcp := crash_pre hok0 cut_junk hc54 (List.mem_of_getElem? hx)
          refine Run.seq ?_
          refine Run.region ?_
          refine RL.val (x_moveP rfl) ?_
          refine RL.val (x_moveS rfl) ?_
          refine RL.st rfl <| St1.call (vals := [.pointer (some ⟨d_55, 0, none⟩), .string (s)]) en12 rfl (readD hD_58 s (by first | omega | decide)) ?_
          rintro _ w_95 ⟨a_93, c_94, rfl, ho_96, hg_97, K_98⟩
          have pr_99 : ∀ q_, own a_93 q_ → ¬ own ao q_ := apartNew hg_97 ho_14.own_lt
          have pr_100 : ∀ q_, own a_93 q_ → ¬ F_56 q_ := apartNew hg_97 hD_58.own_lt
          have pr_101 : ∀ q_, own a_93 q_ → ¬ F_64 q_ := apartNew hg_97 hD_66.own_lt
          have pr_102 : ∀ q_, own a_93 q_ → ¬ own a_74 q_ := apartNew hg_97 ho_77.own_lt
          have pg_103 : ∀ q_, own a_93 q_ → w.heap.size ≤ q_ := fun q_ h => Nat.le_trans K0.size (hg_97 q_ h)
          clear hg_97
          replace ho_14 := ho_14.ext K_98
          replace hD_58 := hD_58.ext K_98
          replace hD_66 := hD_66.ext K_98
          replace ho_77 := ho_77.ext K_98
          replace K0 := K0.ext K_98
          refine RL.val (x_moveT rfl) ?_
          refine RL.val (x_extract rfl rfl) ?_
          refine RL.val (x_extract rfl rfl) ?_
          refine RL.val (x_assignSl rfl) ?_
          refine RL.val (x_assignI rfl) ?_
          refine RL.nil ?_
          refine Run.seq ?_
          refine Run.region ?_
          refine RL.val (x_moveP rfl) ?_
          refine RL.val (x_moveS rfl) ?_
          refine RL.st rfl <| St1.call (vals := [.pointer (some ⟨d_55, 0, none⟩), .string (s)]) en13 rfl (sizeD hD_58 s (by first | omega | decide)) ?_
          rintro _ w_104 ⟨rfl, K_105⟩
          replace ho_14 := ho_14.ext K_105
          replace hD_58 := hD_58.ext K_105
          replace hD_66 := hD_66.ext K_105
          replace ho_77 := ho_77.ext K_105
          replace ho_96 := ho_96.ext K_105
          replace K0 := K0.ext K_105
          refine RL.val (x_moveT rfl) ?_
          refine RL.val (x_extract rfl rfl) ?_
          refine RL.val (x_extract rfl rfl) ?_
          refine RL.val (x_extract rfl rfl) ?_
          refine RL.val (x_assignI rfl) ?_
          refine RL.val (x_assignI rfl) ?_
          refine RL.val (x_assignI rfl) ?_
          refine RL.nil ?_
          refine Run.seq ?_
          refine Run.region ?_
          refine RL.val (x_moveP rfl) ?_
          refine RL.val (x_moveS rfl) ?_
          refine RL.st rfl <| St1.call (vals := [.pointer (some ⟨d_1, 0, none⟩), .string (s)]) en12 rfl (readD hD_66 s (by first | omega | decide)) ?_
          rintro _ w_108 ⟨a_106, c_107, rfl, ho_109, hg_110, K_111⟩
          have pr_112 : ∀ q_, own a_106 q_ → ¬ own ao q_ := apartNew hg_110 ho_14.own_lt
          have pr_113 : ∀ q_, own a_106 q_ → ¬ F_56 q_ := apartNew hg_110 hD_58.own_lt
          have pr_114 : ∀ q_, own a_106 q_ → ¬ F_64 q_ := apartNew hg_110 hD_66.own_lt
          have pr_115 : ∀ q_, own a_106 q_ → ¬ own a_74 q_ := apartNew hg_110 ho_77.own_lt
          have pr_116 : ∀ q_, own a_106 q_ → ¬ own a_93 q_ := apartNew hg_110 ho_96.own_lt
          have pg_117 : ∀ q_, own a_106 q_ → w.heap.size ≤ q_ := fun q_ h => Nat.le_trans K0.size (hg_110 q_ h)
          clear hg_110
          replace ho_14 := ho_14.ext K_111
          replace hD_58 := hD_58.ext K_111
          replace hD_66 := hD_66.ext K_111
          replace ho_77 := ho_77.ext K_111
          replace ho_96 := ho_96.ext K_111
          replace K0 := K0.ext K_111
          refine RL.val (x_moveT rfl) ?_
          refine RL.val (x_extract rfl rfl) ?_
          refine RL.val (x_extract rfl rfl) ?_
          refine RL.val (x_assignSl rfl) ?_
          refine RL.val (x_assignI rfl) ?_
          refine RL.nil ?_
          refine Run.seq ?_
          refine Run.region ?_
          refine RL.val (x_moveI rfl) ?_
          refine RL.val (x_neI rfl rfl) ?_
          refine RL.val (x_moveB rfl) ?_
          refine RL.gval (wantedF rfl rfl rfl rfl) (fun hg => (x_moveSl rfl)) ?_
          refine RL.gval (wantedF rfl rfl rfl rfl) (fun hg => (x_lenSl Try.underlying26 (gvr hg))) ?_
          refine RL.gval (wantedF rfl rfl rfl rfl) (fun hg => (x_moveI rfl)) ?_
          refine RL.gval (wantedF rfl rfl rfl rfl) (fun hg => (x_ltI (gvr hg) (gvr hg))) ?_
          refine RL.val (x_or rfl rfl rfl) ?_
          refine RL.val (x_moveB rfl) ?_
          refine RL.gval (wantedF rfl rfl rfl rfl) (fun hg => (x_moveSl rfl)) ?_
          refine RL.gval (wantedF rfl rfl rfl rfl) (fun hg => (x_moveSl rfl)) ?_
          refine RL.gcall (vals := [.slice (a_93) ((readB (begunL room ps) s).length) (c_94), .slice (a_106) ((readB (crashL (begunL room ps) ((pts.take i).map cutP)) s).length) (c_107)]) (wantedF rfl rfl rfl rfl) en15 (fun hg => (mcons (gvr hg) (mcons (gvr hg) mnil))) (fun hg => (hasPrefix _ (readB (begunL room ps) s) _ _ (readB (crashL (begunL room ps) ((pts.take i).map cutP)) s) _ _ ho_96.sl ho_109.sl ho_96.le_cap)) ?_
          intro w_118 K_119
          replace ho_14 := ho_14.ext K_119
          replace hD_58 := hD_58.ext K_119
          replace hD_66 := hD_66.ext K_119
          replace ho_77 := ho_77.ext K_119
          replace ho_96 := ho_96.ext K_119
          replace ho_109 := ho_109.ext K_119
          replace K0 := K0.ext K_119
          refine RL.gval (wantedF rfl rfl rfl rfl) (fun hg => (x_not (gvr hg))) ?_
          refine RL.val (x_or rfl rfl rfl) ?_
          refine RL.nil ?_
          refine Run.cond rfl (fun hc97 => ?_) (fun hc97 => ?_)
          · try simp only [br] at hc97
            rcases hc97 with (h | h) | h
            · exact absurd hcp.1 h
            · have := hcp.2.1; omega
            · exact absurd hcp.2.2 h
          · try simp only [br] at hc97
            refine Run.skip ?_
            refine Run.inBlock ?_
            refine Run.region ?_
            refine RL.val (litI (c := ((k + 1 : Nat) : Int)) (x_add rfl rfl (by omega) (by omega)) rfl) ?_
            refine RL.val (x_moveI rfl) ?_
            refine RL.nil ?_
            refine ih2 (k + 1) _ _ ?_ (by omega)
            refine ⟨⟨rfl, rfl, rfl, rfl, rfl, trivial⟩, K0, ho_14, hD_58, hD_66, ho_77, ?_⟩
            · omega
        · try simp only [br] at hc62
          refine Run.exit rfl ?_
          refine Run.seq ?_
          refine Run.region ?_
          refine RL.val (x_moveP rfl) ?_
          refine RL.st rfl <| St1.call (vals := [.pointer (some ⟨d_1, 0, none⟩)]) en16 rfl (copyD hD_66) ?_
          rintro _ w_122 ⟨d_120, F_121, rfl, hD_123, hg_124, K_125⟩
          have pr_126 : ∀ q_, F_121 q_ → ¬ own ao q_ := apartNew hg_124 ho_14.own_lt
          have pr_127 : ∀ q_, F_121 q_ → ¬ F_56 q_ := apartNew hg_124 hD_58.own_lt
          have pr_128 : ∀ q_, F_121 q_ → ¬ F_64 q_ := apartNew hg_124 hD_66.own_lt
          have pr_129 : ∀ q_, F_121 q_ → ¬ own a_74 q_ := apartNew hg_124 ho_77.own_lt
          have pg_130 : ∀ q_, F_121 q_ → w.heap.size ≤ q_ := fun q_ h => Nat.le_trans K0.size (hg_124 q_ h)
          clear hg_124
          replace ho_14 := ho_14.ext K_125
          replace hD_58 := hD_58.ext K_125
          replace hD_66 := hD_66.ext K_125
          replace ho_77 := ho_77.ext K_125
          replace K0 := K0.ext K_125
          refine RL.val (x_assignP rfl) ?_
          refine RL.nil ?_
          refine Run.seq ?_
          refine Run.region ?_
          refine RL.val (x_moveP rfl) ?_
          refine RL.st rfl <| St1.call (vals := [.pointer (some ⟨d_1, 0, none⟩), .slice (none) (0) (0)]) en23 rfl (dcast (crashD hD_66 none ([] : List TearC) 0 [] (SlOf.nil _ _) (tears_nil _) (by simp)) (torn_nil _) (crash_twice hc54)) ?_
          rintro _ w_132 ⟨F_131, rfl, hD_133, hm_134, K_135⟩
          have pr_136 : ∀ q_, F_131 q_ → ¬ own ao q_ := hm_134.apart pr_69 ho_14.own_lt
          have pr_137 : ∀ q_, F_131 q_ → ¬ F_56 q_ := hm_134.apart pr_70 hD_58.own_lt
          have pr_138 : ∀ q_, F_131 q_ → ¬ own a_74 q_ := hm_134.apart (fun q_ h1 h2 => pr_82 q_ h2 h1) ho_77.own_lt
          have pr_139 : ∀ q_, F_131 q_ → ¬ F_121 q_ := hm_134.apart (fun q_ h1 h2 => pr_128 q_ h2 h1) hD_123.own_lt
          have pg_140 : ∀ q_, F_131 q_ → w.heap.size ≤ q_ := hm_134.ge pg_71 K0.size
          replace ho_14 := ho_14.keepO K_135 (fun q_ h1 h2 => pr_69 q_ h2 h1)
          replace hD_58 := hD_58.keepO K_135 (fun q_ h1 h2 => pr_70 q_ h2 h1)
          replace ho_77 := ho_77.keepO K_135 pr_82
          replace hD_123 := hD_123.keepO K_135 pr_128
          replace K0 := K0.new K_135 pg_71
          clear hm_134
          refine RL.val (litT (x_eqI rfl rfl) (by decide)) ?_
          refine RL.val (x_moveB rfl) ?_
          refine RL.gst (wantedT1 rfl rfl rfl rfl) <| St1.val (x_moveP rfl) ?_
          refine RL.gst (wantedT1 rfl rfl rfl rfl) <| St1.val (x_moveP rfl) ?_
          refine RL.gst (wantedT1 rfl rfl rfl rfl) <| St1.call (vals := [.pointer (some ⟨d_1, 0, none⟩), .pointer (some ⟨d_120, 0, none⟩), .bool (false)]) en34 rfl (alikeTwo_ _ _ _ _ _ _ _ _ false _ hD_133 hD_123 (Alike.refl _ _)) ?_
          rintro _ w_141 ⟨rfl, K_142⟩
          replace ho_14 := ho_14.ext K_142
          replace hD_58 := hD_58.ext K_142
          replace ho_77 := ho_77.ext K_142
          replace hD_123 := hD_123.ext K_142
          replace hD_133 := hD_133.ext K_142
          replace K0 := K0.ext K_142
          refine RL.val (x_andT rfl rfl rfl) ?_
          refine RL.val (x_moveB rfl) ?_
          refine RL.gst (wantedT1 rfl rfl rfl rfl) <| St1.val (x_moveP rfl) ?_
          refine RL.gst (wantedT1 rfl rfl rfl rfl) <| St1.call (vals := [.pointer (some ⟨d_1, 0, none⟩)]) en17 rfl (filesD hD_133) ?_
          rintro _ w_145 ⟨a_143, c_144, rfl, ho_146, hg_147, K_148⟩
          have pr_149 : ∀ q_, own a_143 q_ → ¬ own ao q_ := apartNew hg_147 ho_14.own_lt
          have pr_150 : ∀ q_, own a_143 q_ → ¬ F_56 q_ := apartNew hg_147 hD_58.own_lt
          have pr_151 : ∀ q_, own a_143 q_ → ¬ own a_74 q_ := apartNew hg_147 ho_77.own_lt
          have pr_152 : ∀ q_, own a_143 q_ → ¬ F_121 q_ := apartNew hg_147 hD_123.own_lt
          have pr_153 : ∀ q_, own a_143 q_ → ¬ F_131 q_ := apartNew hg_147 hD_133.own_lt
          have pg_154 : ∀ q_, own a_143 q_ → w.heap.size ≤ q_ := fun q_ h => Nat.le_trans K0.size (hg_147 q_ h)
          clear hg_147
          replace ho_14 := ho_14.ext K_148
          replace hD_58 := hD_58.ext K_148
          replace ho_77 := ho_77.ext K_148
          replace hD_123 := hD_123.ext K_148
          replace hD_133 := hD_133.ext K_148
          replace K0 := K0.ext K_148
          refine RL.gst (wantedT1 rfl rfl rfl rfl) <| St1.val (x_moveP rfl) ?_
          refine RL.gst (wantedT1 rfl rfl rfl rfl) <| St1.call (vals := [.pointer (some ⟨d_55, 0, none⟩)]) en17 rfl (filesD hD_58) ?_
          rintro _ w_157 ⟨a_155, c_156, rfl, ho_158, hg_159, K_160⟩
          have pr_161 : ∀ q_, own a_155 q_ → ¬ own ao q_ := apartNew hg_159 ho_14.own_lt
          have pr_162 : ∀ q_, own a_155 q_ → ¬ F_56 q_ := apartNew hg_159 hD_58.own_lt
          have pr_163 : ∀ q_, own a_155 q_ → ¬ own a_74 q_ := apartNew hg_159 ho_77.own_lt
          have pr_164 : ∀ q_, own a_155 q_ → ¬ F_121 q_ := apartNew hg_159 hD_123.own_lt
          have pr_165 : ∀ q_, own a_155 q_ → ¬ F_131 q_ := apartNew hg_159 hD_133.own_lt
          have pr_166 : ∀ q_, own a_155 q_ → ¬ own a_143 q_ := apartNew hg_159 ho_146.own_lt
          have pg_167 : ∀ q_, own a_155 q_ → w.heap.size ≤ q_ := fun q_ h => Nat.le_trans K0.size (hg_159 q_ h)
          clear hg_159
          replace ho_14 := ho_14.ext K_160
          replace hD_58 := hD_58.ext K_160
          replace ho_77 := ho_77.ext K_160
          replace hD_123 := hD_123.ext K_160
          replace hD_133 := hD_133.ext K_160
          replace ho_146 := ho_146.ext K_160
          replace K0 := K0.ext K_160
          refine RL.gst (wantedT1 rfl rfl rfl rfl) <| St1.call (vals := [.slice (a_143) ((namesS (crashL (begunL room ps) ((pts.take i).map cutP))).length) (c_144), .slice (a_155) ((namesS (begunL room ps)).length) (c_156)]) en36 rfl (equal_str _ _ _ _ _ _ _ ho_146.sl ho_158.sl (by omega)) ?_
          rintro _ w_168 ⟨rfl, K_169⟩
          replace ho_14 := ho_14.ext K_169
          replace hD_58 := hD_58.ext K_169
          replace ho_77 := ho_77.ext K_169
          replace hD_123 := hD_123.ext K_169
          replace hD_133 := hD_133.ext K_169
          replace ho_146 := ho_146.ext K_169
          replace ho_158 := ho_158.ext K_169
          replace K0 := K0.ext K_169
          refine RL.val (x_andT rfl rfl rfl) ?_
          refine RL.val (x_assignB rfl) ?_
          refine RL.nil ?_
          refine Run.ret1 (v := .bool (decide (namesS (crashL (begunL room ps) ((pts.take i).map cutP)) = namesS (begunL room ps)))) Try.func9 rfl rfl ?_
          exact ⟨_, rfl, by first | rfl | (rw [crash_names, decide_eq_true rfl]), K0⟩

end Go.Proofs.Ytambibdkanpmaaa
